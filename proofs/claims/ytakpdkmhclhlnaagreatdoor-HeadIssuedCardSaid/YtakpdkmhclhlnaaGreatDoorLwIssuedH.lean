/- The law HeadIssued returns true whatever the input, and its tied card holds. Conditions: none but the row's own. -/
import Derived.Test.YtakpdkmhclhlnaaGreatDoorMf
set_option linter.unusedSimpArgs false
set_option linter.unusedVariables false
namespace Go.Proofs.YtakpdkmhclhlnaaGreatDoor.Hd
open Go Go.Sx Go.RowKit Go.ChangeShapes Go.WideShapes Go.ChangeAt
theorem str_rec {vs : List Value} (h : LN [.str] vs) : vs.map AV.x = [AV.x (.string (stO (vs.map AV.x)))] := by
  obtain ⟨v, vs', rfl, ⟨s, rfl⟩, h'⟩ := LN.cons h
  cases h'.nil
  rfl
theorem HeadIssued_all : ∀ avs, MP Tryz.prog Tryz.f5.params.toList avs → VX Tryz.prog 5 avs (.x (.bool true)) := by
  intro avs h
  have hp : Tryz.f5.params.toList = [26, 5] := by kernel_rfl
  rw [hp] at h
  cases h with
  | cons h0 h =>
  cases h with
  | cons h1 h =>
  cases h
  obtain ⟨n, f0, rfl, _, hf⟩ := h0.list (e := 9) (ks := [.str]) (by kernel_rfl) (by kernel_rfl)
  obtain ⟨v1, rfl, ⟨d, rfl, w_d⟩⟩ := h1.one (k := .int .u8) (by kernel_rfl) (by kernel_rfl)
  have hd : 0 ≤ d ∧ d ≤ 255 := by
    have h2 : IntKind.u8.min ≤ d ∧ d ≤ IntKind.u8.max := by simpa [Lit.wf] using w_d
    have e1 : IntKind.u8.min = 0 := by decide
    have e2 : IntKind.u8.max = 255 := by decide
    omega
  exact (Xe7 n (lnF fun k => (f0 k).map AV.x) d hd).same (.cons (.lst 1 n _ _ fun k hk => str_rec (hf k hk)) (.cons (.refl _) .nil))
set_option maxRecDepth 100000 in
theorem HeadIssued_lifted (os : Os) (started : os.Started) (H : Type) (enc : TypeId × Value → H) :
    ReturnsInHanded {} Tryz.checked os 5 .any (fun w args => (Rows.headIssuedSpec.pre enc Tryz.prog Tryz.f5 [] false w args ∧ laidMetH Tryz.prog Qc7 w) ∧ sizedMet enc Tryz.prog Tryz.f5 (OpenSpec.ofChange Rows.headIssuedSpec) false w args) (Rows.headIssuedSpec.post enc Tryz.prog Tryz.f5 false true false false) := by
  refine rowWrap (C := Tryz.checked) own0 started (by kernel_rfl) Tryz.func5
    (ChangeSpec.witness_shaped (enc := enc) (C := Tryz.checked) (os := os) (X := fun w _ => laidMetH Tryz.prog Qc7 w) false (Jm9 os) #[.slice none 0 0, .int .u8 0] 8 rfl (World.shaped_of_RefB (by kernel_rfl) (by kernel_rfl)) (by kernel_rfl) (by kernel_rfl) (by kernel_rfl) (Jm8 os _)) ?_
  intro W base args ds gs before Ji6 hW Qp8 hL hsh
  have N0 : ∀ (j : Nat) t v, Tryz.f5.params[j]? = some t → args[j]? = some v → Value.okWide Tryz.prog W .any base t v := Ji6
  have hW' := hW
  obtain ⟨p, q, hA0, hV, rfl, _, _⟩ := hW
  have hA : DataW.TrodAll enc Tryz.prog W 0 (fun _ => true) true Tryz.f5.params.toList args.toList ds p := hA0
  obtain ⟨rfl, rfl⟩ := trodVars_none hV
  simp only [List.append_nil] at hW'
  have hz : ∀ q ∈ DataW.weightsEach Tryz.prog Tryz.f5.params.toList ds, q ≤ reachBytes := fun q hq => by
    have h0 : (DataW.weightsEach Tryz.prog (Tryz.f5.params.toList ++ []) (ds ++ [])).all (fun x => decide (x ≤ reachBytes)) = true := Qp8
    rw [List.append_nil, List.append_nil] at h0
    simpa using List.all_eq_true.1 h0 q hq
  refine (Zx7 (P := Tryz.prog) (f := 5) (by kernel_rfl) (fun j t v ht hv => N0 j t v (by simpa using ht) (by simpa using hv)) hA hz HeadIssued_all (glob_of hL hsh)).mono fun e W' ⟨he, hb⟩ => ?_
  subst he
  have hpar : Tryz.f5.params.toList = [26, 5] := by kernel_rfl
  have hA2 := hA
  rw [hpar] at hA2
  obtain ⟨v0, vs0, d0, r0, p0, q0, e0, rfl, rfl, _, hA2⟩ := trodAll_cons hA2
  obtain ⟨v1, vs1, d1, r1, p1, q1, e1, rfl, rfl, _, hA2⟩ := trodAll_cons hA2
  obtain rfl : r1 = [] := by
    cases vs1 <;> cases r1 <;> simp [DataW.TrodAll] at hA2 ⊢
  exact ⟨_, rfl, Jg8 (tb := 4) (show laidOutB Tryz.prog = true by kernel_rfl) (by kernel_rfl) (by kernel_rfl) (by kernel_rfl) rfl rfl rfl rfl hW' hA hb⟩
theorem headIssued_row : Rows.HeadIssuedSaid :=
  OpenClaim.holds_of_wide 5 Tryz.f5 rfl rfl rfl rfl rfl rfl rfl ⟨rfl, rfl, rfl, rfl, rfl⟩ rfl rfl rfl rfl rfl (by kernel_rfl) Tryz.func5 (by kernel_rfl)
    (of_decide_eq_true (by kernel_rfl)) (by unfold Func.isWrapper; first | (rw [if_pos (by decide +kernel)]; kernel_rfl) | (rw [if_neg (by decide +kernel)]; exact ⟨rfl, rfl⟩))
    (fun os started H enc _ => HeadIssued_lifted os started H enc)
end Go.Proofs.YtakpdkmhclhlnaaGreatDoor.Hd
namespace Go.Proofs.YtakpdkmhclhlnaaGreatDoor
open Go
theorem headIssued_holds : Rows.HeadIssuedCardSaid :=
  Claim7.holds_tied_plain_at .later [] [.data, .data, .data, .data, .sentinel, .sentinel, .pinned] true (true, "25354a267e8b729063c53146fedf9b6182b778ce7730d5417b2bee6ec6d16557") true
    Hd.headIssued_row (fun _ h => by cases h) (by kernel_rfl) (fun _ h => by cases h) headIssued_row_tie rfl ⟨rfl, rfl⟩ (by kernel_rfl) rfl
    (fun f fn hf hfn => by
      obtain rfl : f = 5 := Option.some.inj ((show Tryz.prog.funcNamed "meniscus/meniscuslaw12.HeadIssued" = some 5 by kernel_rfl).symm.trans hf) |>.symm
      obtain rfl : fn = Tryz.f5 := (Option.some.inj (Tryz.func5.symm.trans hfn)).symm
      exact ⟨by kernel_rfl, fun j t ht => by
        have hpar : Tryz.f5.params.toList = [26, 5] := by kernel_rfl
        have ht2 : Tryz.f5.params.toList[j]? = some t := by simpa using ht
        rw [hpar] at ht2
        have hm := List.mem_of_getElem? ht2
        simp only [List.mem_cons, List.not_mem_nil, or_false] at hm
        rcases hm with rfl | rfl
        · exact (show Tryz.prog.wantsStandIn 26 = false by kernel_rfl)
        · exact (show Tryz.prog.wantsStandIn 5 = false by kernel_rfl)⟩)
    (by kernel_rfl)
#print axioms headIssued_holds
end Go.Proofs.YtakpdkmhclhlnaaGreatDoor
