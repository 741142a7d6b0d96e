/- The law HeadWrites returns true whatever the input, and its tied card holds. Conditions: none but the row's own. -/
import Derived.Test.YtcdmhnaeifaikaaGreatDoorMf
set_option linter.unusedSimpArgs false
set_option linter.unusedVariables false
namespace Go.Proofs.YtcdmhnaeifaikaaGreatDoor.Hd
open Go Go.Sx Go.RowKit Go.ChangeShapes Go.WideShapes Go.ChangeAt
theorem str_rec {vs : List Value} (h : LZ [.str] vs) : vs.map AV.x = [AV.x (.string (stO (vs.map AV.x)))] := by
  obtain ⟨v, vs', rfl, ⟨s, rfl⟩, h'⟩ := LZ.cons h
  cases h'.nil
  rfl
theorem by_rec {vs : List Value} (h : LZ [.int .u8] vs) : byO (vs.map AV.x) < 256 ∧ vs.map AV.x = [AV.x (.int .u8 (byO (vs.map AV.x) : Nat))] := by
  obtain ⟨v, vs', rfl, ⟨y, rfl, w_y⟩, h'⟩ := LZ.cons h
  cases h'.nil
  have h2 : IntKind.u8.min ≤ y ∧ y ≤ IntKind.u8.max := by simpa [Lit.wf] using w_y
  have e1 : IntKind.u8.min = 0 := by decide
  have e2 : IntKind.u8.max = 255 := by decide
  have e3 : byO ([Value.int .u8 y].map AV.x) = y.toNat := rfl
  rw [e3]
  refine ⟨by omega, ?_⟩
  show [AV.x (.int .u8 y)] = _
  rw [Int.toNat_of_nonneg (by omega)]
theorem HeadWrites_all : ∀ avs, NU Tryz.prog Tryz.f3.params.toList avs → U2 Tryz.prog 3 avs (.x (.bool true)) := by
  intro avs h
  have hp : Tryz.f3.params.toList = [22, 23] := by kernel_rfl
  rw [hp] at h
  cases h with
  | cons h0 h =>
  cases h with
  | cons h1 h =>
  cases h
  obtain ⟨n, f0, rfl, _, hf⟩ := h0.list (e := 9) (ks := [.str]) (by kernel_rfl) (by kernel_rfl)
  obtain ⟨N, f1, rfl, _, hb⟩ := h1.list (e := 5) (ks := [.int .u8]) (by kernel_rfl) (by kernel_rfl)
  have hby : R9 N (fun k => (f1 k).map AV.x) := fun k hk => by_rec (hb k hk)
  have hs : (bsO N (fun k => (f1 k).map AV.x)).size = N := by
    show (List.toArray _).size = N
    simp
  obtain ⟨m, R, hR⟩ : ∃ m R, N ≤ 4000 → rcI N (bsO N (fun k => (f1 k).map AV.x)) m R := by
    by_cases h4 : N ≤ 4000
    · obtain ⟨m, R, hR⟩ := rc_ex h4 (bsO N (fun k => (f1 k).map AV.x))
      exact ⟨m, R, fun _ => hR⟩
    · exact ⟨0, fun _ => ByteArray.empty, fun h => absurd h h4⟩
  exact (Xl4 n (lnF fun k => (f0 k).map AV.x) N (bsO N (fun k => (f1 k).map AV.x)) m R hR hs).same (.cons (.lst 1 n _ _ fun k hk => str_rec (hf k hk)) (.cons (.lst 1 N _ _ fun k hk => jQ hby hk) .nil))
set_option maxRecDepth 100000 in
theorem HeadWrites_lifted (os : Os) (started : os.Started) (H : Type) (enc : TypeId × Value → H) :
    ReturnsInHanded {} Tryz.checked os 3 .any (fun w args => (Rows.headWritesSpec.pre enc Tryz.prog Tryz.f3 [] false w args ∧ laidMetH Tryz.prog Qh4 w) ∧ sizedMet enc Tryz.prog Tryz.f3 (OpenSpec.ofChange Rows.headWritesSpec) false w args) (Rows.headWritesSpec.post enc Tryz.prog Tryz.f3 false true false false) := by
  refine rowWrap (C := Tryz.checked) own0 started (by kernel_rfl) Tryz.func3
    (ChangeSpec.witness_shaped (enc := enc) (C := Tryz.checked) (os := os) (X := fun w _ => laidMetH Tryz.prog Qh4 w) false (Ju1 os) #[.slice none 0 0, .slice none 0 0] 8 rfl (World.shaped_of_RefB (by kernel_rfl) (by kernel_rfl)) (by kernel_rfl) (by kernel_rfl) (by kernel_rfl) (Ju0 os _)) ?_
  intro W base args ds gs before Jp8 hW Qv1 hL hsh
  have OC : ∀ (j : Nat) t v, Tryz.f3.params[j]? = some t → args[j]? = some v → Value.okWide Tryz.prog W .any base t v := Jp8
  have hW' := hW
  obtain ⟨p, q, hA0, hV, rfl, _, _⟩ := hW
  have hA : DataW.TrodAll enc Tryz.prog W 0 (fun _ => true) true Tryz.f3.params.toList args.toList ds p := hA0
  obtain ⟨rfl, rfl⟩ := trodVars_none hV
  simp only [List.append_nil] at hW'
  have hz : ∀ q ∈ DataW.weightsEach Tryz.prog Tryz.f3.params.toList ds, q ≤ reachBytes := fun q hq => by
    have h0 : (DataW.weightsEach Tryz.prog (Tryz.f3.params.toList ++ []) (ds ++ [])).all (fun x => decide (x ≤ reachBytes)) = true := Qv1
    rw [List.append_nil, List.append_nil] at h0
    simpa using List.all_eq_true.1 h0 q hq
  refine (Je9 (P := Tryz.prog) (f := 3) (by kernel_rfl) (fun j t v ht hv => OC j t v (by simpa using ht) (by simpa using hv)) hA hz HeadWrites_all (glob_of hL hsh)).mono fun e W' ⟨he, hb⟩ => ?_
  subst he
  have hpar : Tryz.f3.params.toList = [22, 23] := by kernel_rfl
  have hA2 := hA
  rw [hpar] at hA2
  obtain ⟨v0, vs0, d0, r0, p0, q0, e0, rfl, rfl, _, hA2⟩ := trodAll_cons hA2
  obtain ⟨v1, vs1, d1, r1, p1, q1, e1, rfl, rfl, _, hA2⟩ := trodAll_cons hA2
  obtain rfl : r1 = [] := by
    cases vs1 <;> cases r1 <;> simp [DataW.TrodAll] at hA2 ⊢
  exact ⟨_, rfl, Jo5 (tb := 4) (show laidOutB Tryz.prog = true by kernel_rfl) (by kernel_rfl) (by kernel_rfl) (by kernel_rfl) rfl rfl rfl rfl hW' hA hb⟩
theorem headWrites_row : Rows.HeadWritesSaid :=
  OpenClaim.holds_of_wide 3 Tryz.f3 rfl rfl rfl rfl rfl rfl rfl ⟨rfl, rfl, rfl, rfl, rfl⟩ rfl rfl rfl rfl rfl (by kernel_rfl) Tryz.func3 (by kernel_rfl)
    (of_decide_eq_true (by kernel_rfl)) (by unfold Func.isWrapper; first | (rw [if_pos (by decide +kernel)]; kernel_rfl) | (rw [if_neg (by decide +kernel)]; exact ⟨rfl, rfl⟩))
    (fun os started H enc _ => HeadWrites_lifted os started H enc)
end Go.Proofs.YtcdmhnaeifaikaaGreatDoor.Hd
namespace Go.Proofs.YtcdmhnaeifaikaaGreatDoor
open Go
theorem headWrites_holds : Rows.HeadWritesCardSaid :=
  Claim7.holds_tied_plain_at .later [] [.data, .data, .data, .data, .sentinel, .sentinel, .pinned] true (true, "871208194054d8055edf234d398f012bb336ef30ee86009be4d89f2c628ca094") true
    Hd.headWrites_row (fun _ h => by cases h) (by kernel_rfl) (fun _ h => by cases h) headWrites_row_tie rfl ⟨rfl, rfl⟩ (by kernel_rfl) rfl
    (fun f fn hf hfn => by
      obtain rfl : f = 3 := Option.some.inj ((show Tryz.prog.funcNamed "meniscus/meniscuslaw12.HeadWrites" = some 3 by kernel_rfl).symm.trans hf) |>.symm
      obtain rfl : fn = Tryz.f3 := (Option.some.inj (Tryz.func3.symm.trans hfn)).symm
      exact ⟨by kernel_rfl, fun j t ht => by
        have hpar : Tryz.f3.params.toList = [22, 23] := by kernel_rfl
        have ht2 : Tryz.f3.params.toList[j]? = some t := by simpa using ht
        rw [hpar] at ht2
        have hm := List.mem_of_getElem? ht2
        simp only [List.mem_cons, List.not_mem_nil, or_false] at hm
        rcases hm with rfl | rfl
        · exact (show Tryz.prog.wantsStandIn 22 = false by kernel_rfl)
        · exact (show Tryz.prog.wantsStandIn 23 = false by kernel_rfl)⟩)
    (by kernel_rfl)
#print axioms headWrites_holds
end Go.Proofs.YtcdmhnaeifaikaaGreatDoor
