/- The law HeadVoid returns true whatever the input, and its tied card holds. Conditions: none but the row's own. -/
import Derived.Test.YtakpdkmhclhlnaaGreatDoorMr
set_option linter.unusedSimpArgs false
set_option linter.unusedVariables false
namespace Go.Proofs.YtakpdkmhclhlnaaGreatDoor.Hd
open Go Go.Sx Go.RowKit Go.ChangeShapes Go.WideShapes Go.ChangeAt
theorem str_rec {vs : List Value} (h : LK [.str] vs) : vs.map AV.x = [AV.x (.string (stO (vs.map AV.x)))] := by
  obtain ⟨v, vs', rfl, ⟨s, rfl⟩, h'⟩ := LK.cons h
  cases h'.nil
  rfl
theorem HeadVoid_all : ∀ avs, M6 Tryz.prog Tryz.f7.params.toList avs → VX Tryz.prog 7 avs (.x (.bool true)) := by
  intro avs h
  have hp : Tryz.f7.params.toList = [26, 26, 5, 34] := by kernel_rfl
  rw [hp] at h
  cases h with
  | cons h0 h =>
  cases h with
  | cons h1 h =>
  cases h with
  | cons h2 h =>
  cases h with
  | cons h3 h =>
  cases h
  obtain ⟨n, f0, rfl, _, hf⟩ := h0.list (e := 9) (ks := [.str]) (by kernel_rfl) (by kernel_rfl)
  obtain ⟨m, f1, rfl, _, hg⟩ := h1.list (e := 9) (ks := [.str]) (by kernel_rfl) (by kernel_rfl)
  obtain ⟨v2, rfl, ⟨d, rfl, w_d⟩⟩ := h2.one (k := .int .u8) (by kernel_rfl) (by kernel_rfl)
  obtain ⟨v3, rfl, ⟨y, rfl, w_y⟩⟩ := h3.one (k := .int .u16) (by kernel_rfl) (by kernel_rfl)
  have hd : 0 ≤ d ∧ d ≤ 255 := by
    have h2 : IntKind.u8.min ≤ d ∧ d ≤ IntKind.u8.max := by simpa [Lit.wf] using w_d
    have e1 : IntKind.u8.min = 0 := by decide
    have e2 : IntKind.u8.max = 255 := by decide
    omega
  have hy : 0 ≤ y ∧ y ≤ 65535 := by
    have h2 : IntKind.u16.min ≤ y ∧ y ≤ IntKind.u16.max := by simpa [Lit.wf] using w_y
    have e1 : IntKind.u16.min = 0 := by decide
    have e2 : IntKind.u16.max = 65535 := by decide
    omega
  exact (Xx9 n (lnF fun k => (f0 k).map AV.x) m (lnF fun k => (f1 k).map AV.x) d y hd hy).same (.cons (.lst 1 n _ _ fun k hk => str_rec (hf k hk)) (.cons (.lst 1 m _ _ fun k hk => str_rec (hg k hk)) (.cons (.refl _) (.cons (.refl _) .nil))))
set_option maxRecDepth 100000 in
theorem HeadVoid_lifted (os : Os) (started : os.Started) (H : Type) (enc : TypeId × Value → H) :
    ReturnsInHanded {} Tryz.checked os 7 .any (fun w args => (Rows.headVoidSpec.pre enc Tryz.prog Tryz.f7 [] false w args ∧ laidMetH Tryz.prog tW w) ∧ sizedMet enc Tryz.prog Tryz.f7 (OpenSpec.ofChange Rows.headVoidSpec) false w args) (Rows.headVoidSpec.post enc Tryz.prog Tryz.f7 false true false false) := by
  refine rowWrap (C := Tryz.checked) own0 started (by kernel_rfl) Tryz.func7
    (ChangeSpec.witness_shaped (enc := enc) (C := Tryz.checked) (os := os) (X := fun w _ => laidMetH Tryz.prog tW w) false (Jh5 os) #[.slice none 0 0, .slice none 0 0, .int .u8 0, .int .u16 0] 8 rfl (World.shaped_of_RefB (by kernel_rfl) (by kernel_rfl)) (by kernel_rfl) (by kernel_rfl) (by kernel_rfl) (Jh4 os _)) ?_
  intro W base args ds gs before Jd4 hW Qm6 hL hsh
  have MI : ∀ (j : Nat) t v, Tryz.f7.params[j]? = some t → args[j]? = some v → Value.okWide Tryz.prog W .any base t v := Jd4
  have hW' := hW
  obtain ⟨p, q, hA0, hV, rfl, _, _⟩ := hW
  have hA : DataW.TrodAll enc Tryz.prog W 0 (fun _ => true) true Tryz.f7.params.toList args.toList ds p := hA0
  obtain ⟨rfl, rfl⟩ := trodVars_none hV
  simp only [List.append_nil] at hW'
  have hz : ∀ q ∈ DataW.weightsEach Tryz.prog Tryz.f7.params.toList ds, q ≤ reachBytes := fun q hq => by
    have h0 : (DataW.weightsEach Tryz.prog (Tryz.f7.params.toList ++ []) (ds ++ [])).all (fun x => decide (x ≤ reachBytes)) = true := Qm6
    rw [List.append_nil, List.append_nil] at h0
    simpa using List.all_eq_true.1 h0 q hq
  refine (Zs9 (P := Tryz.prog) (f := 7) (by kernel_rfl) (fun j t v ht hv => MI j t v (by simpa using ht) (by simpa using hv)) hA hz HeadVoid_all (glob_of hL hsh)).mono fun e W' ⟨he, hb⟩ => ?_
  subst he
  have hpar : Tryz.f7.params.toList = [26, 26, 5, 34] := by kernel_rfl
  have hA2 := hA
  rw [hpar] at hA2
  obtain ⟨v0, vs0, d0, r0, p0, q0, e0, rfl, rfl, _, hA2⟩ := trodAll_cons hA2
  obtain ⟨v1, vs1, d1, r1, p1, q1, e1, rfl, rfl, _, hA2⟩ := trodAll_cons hA2
  obtain ⟨v2, vs2, d2, r2, p2, q2, e2, rfl, rfl, _, hA2⟩ := trodAll_cons hA2
  obtain ⟨v3, vs3, d3, r3, p3, q3, e3, rfl, rfl, _, hA2⟩ := trodAll_cons hA2
  obtain rfl : r3 = [] := by
    cases vs3 <;> cases r3 <;> simp [DataW.TrodAll] at hA2 ⊢
  exact ⟨_, rfl, Jc0 (tb := 4) (show laidOutB Tryz.prog = true by kernel_rfl) (by kernel_rfl) (by kernel_rfl) (by kernel_rfl) rfl rfl rfl rfl hW' hA hb⟩
theorem headVoid_row : Rows.HeadVoidSaid :=
  OpenClaim.holds_of_wide 7 Tryz.f7 rfl rfl rfl rfl rfl rfl rfl ⟨rfl, rfl, rfl, rfl, rfl⟩ rfl rfl rfl rfl rfl (by kernel_rfl) Tryz.func7 (by kernel_rfl)
    (of_decide_eq_true (by kernel_rfl)) (by unfold Func.isWrapper; first | (rw [if_pos (by decide +kernel)]; kernel_rfl) | (rw [if_neg (by decide +kernel)]; exact ⟨rfl, rfl⟩))
    (fun os started H enc _ => HeadVoid_lifted os started H enc)
end Go.Proofs.YtakpdkmhclhlnaaGreatDoor.Hd
namespace Go.Proofs.YtakpdkmhclhlnaaGreatDoor
open Go
theorem headVoid_holds : Rows.HeadVoidCardSaid :=
  Claim7.holds_tied_plain_at .later [] [.data, .data, .data, .data, .sentinel, .sentinel, .pinned] true (true, "25354a267e8b729063c53146fedf9b6182b778ce7730d5417b2bee6ec6d16557") true
    Hd.headVoid_row (fun _ h => by cases h) (by kernel_rfl) (fun _ h => by cases h) headVoid_row_tie rfl ⟨rfl, rfl⟩ (by kernel_rfl) rfl
    (fun f fn hf hfn => by
      obtain rfl : f = 7 := Option.some.inj ((show Tryz.prog.funcNamed "meniscus/meniscuslaw12.HeadVoid" = some 7 by kernel_rfl).symm.trans hf) |>.symm
      obtain rfl : fn = Tryz.f7 := (Option.some.inj (Tryz.func7.symm.trans hfn)).symm
      exact ⟨by kernel_rfl, fun j t ht => by
        have hpar : Tryz.f7.params.toList = [26, 26, 5, 34] := by kernel_rfl
        have ht2 : Tryz.f7.params.toList[j]? = some t := by simpa using ht
        rw [hpar] at ht2
        have hm := List.mem_of_getElem? ht2
        simp only [List.mem_cons, List.not_mem_nil, or_false] at hm
        rcases hm with rfl | rfl | rfl | rfl
        · exact (show Tryz.prog.wantsStandIn 26 = false by kernel_rfl)
        · exact (show Tryz.prog.wantsStandIn 26 = false by kernel_rfl)
        · exact (show Tryz.prog.wantsStandIn 5 = false by kernel_rfl)
        · exact (show Tryz.prog.wantsStandIn 34 = false by kernel_rfl)⟩)
    (by kernel_rfl)
#print axioms headVoid_holds
end Go.Proofs.YtakpdkmhclhlnaaGreatDoor
