/- The law HeadNames returns true whatever the input, and its tied card holds. Conditions: none but the row's own. -/
import Derived.Test.YtakpdkmhclhlnaaGreatDoorMp
set_option linter.unusedSimpArgs false
set_option linter.unusedVariables false
set_option linter.unnecessarySimpa false
namespace Go.Proofs.YtakpdkmhclhlnaaGreatDoor.Hd
open Go Go.Sx Go.RowKit Go.ChangeShapes Go.WideShapes Go.ChangeAt
theorem HeadNames_all : ∀ avs, IY Tryz.prog Tryz.f3.params.toList avs → VZ Tryz.prog 3 avs (.x (.bool true)) := by
  intro avs h
  have hp : Tryz.f3.params.toList = [] := by kernel_rfl
  rw [hp] at h
  cases h
  exact Xk3
set_option maxRecDepth 100000 in
theorem HeadNames_lifted (os : Os) (started : os.Started) (H : Type) (enc : TypeId × Value → H) :
    ReturnsInHanded {} Tryz.checked os 3 .any (fun w args => (Rows.headNamesSpec.pre enc Tryz.prog Tryz.f3 [] false w args ∧ laidMetH Tryz.prog tL w) ∧ sizedMet enc Tryz.prog Tryz.f3 (OpenSpec.ofChange Rows.headNamesSpec) false w args) (Rows.headNamesSpec.post enc Tryz.prog Tryz.f3 false true false false) := by
  refine rowWrap (C := Tryz.checked) own0 started (by kernel_rfl) Tryz.func3
    (ChangeSpec.witness_shaped (enc := enc) (C := Tryz.checked) (os := os) (X := fun w _ => laidMetH Tryz.prog tL w) false (Jf0 os) #[] 8 rfl (World.shaped_of_RefB (by kernel_rfl) (by kernel_rfl)) (by kernel_rfl) (by kernel_rfl) (by kernel_rfl) (Je9 os _)) ?_
  intro W base args ds gs before Ja9 hW Ql8 hL hsh
  have MA : ∀ (j : Nat) t v, Tryz.f3.params[j]? = some t → args[j]? = some v → Value.okWide Tryz.prog W .any base t v := Ja9
  have hW' := hW
  obtain ⟨p, q, hA0, hV, rfl, _, _⟩ := hW
  have hA : DataW.TrodAll enc Tryz.prog W 0 (fun _ => true) true Tryz.f3.params.toList args.toList ds p := hA0
  obtain ⟨rfl, rfl⟩ := trodVars_none hV
  simp only [List.append_nil] at hW'
  have hz : ∀ q ∈ DataW.weightsEach Tryz.prog Tryz.f3.params.toList ds, q ≤ reachBytes := fun q hq => by
    have h0 : (DataW.weightsEach Tryz.prog (Tryz.f3.params.toList ++ []) (ds ++ [])).all (fun x => decide (x ≤ reachBytes)) = true := Ql8
    rw [List.append_nil, List.append_nil] at h0
    simpa using List.all_eq_true.1 h0 q hq
  refine (Zp3 (P := Tryz.prog) (f := 3) (by kernel_rfl) (fun j t v ht hv => MA j t v (by simpa using ht) (by simpa using hv)) hA hz HeadNames_all (glob_of hL hsh)).mono fun e W' ⟨he, hb⟩ => ?_
  subst he
  have hpar : Tryz.f3.params.toList = [] := by kernel_rfl
  have hA2 := hA
  rw [hpar] at hA2
  obtain rfl : ds = [] := by
    generalize args.toList = l at hA2
    cases l <;> cases ds <;> simp [DataW.TrodAll] at hA2 ⊢
  exact ⟨_, rfl, Zz5 (tb := 4) (show laidOutB Tryz.prog = true by kernel_rfl) (by kernel_rfl) (by kernel_rfl) (by kernel_rfl) rfl rfl rfl rfl hW' hA hb⟩
theorem headNames_row : Rows.HeadNamesSaid :=
  OpenClaim.holds_of_wide 3 Tryz.f3 rfl rfl rfl rfl rfl rfl rfl ⟨rfl, rfl, rfl, rfl, rfl⟩ rfl rfl rfl rfl rfl (by kernel_rfl) Tryz.func3 (by kernel_rfl)
    (of_decide_eq_true (by kernel_rfl)) (by unfold Func.isWrapper; first | (rw [if_pos (by decide +kernel)]; kernel_rfl) | (rw [if_neg (by decide +kernel)]; exact ⟨rfl, rfl⟩))
    (fun os started H enc _ => HeadNames_lifted os started H enc)
end Go.Proofs.YtakpdkmhclhlnaaGreatDoor.Hd
namespace Go.Proofs.YtakpdkmhclhlnaaGreatDoor
open Go
theorem headNames_holds : Rows.HeadNamesCardSaid :=
  Claim7.holds_tied_plain_at .later [] [.data, .data, .data, .data, .sentinel, .sentinel, .pinned] true (true, "25354a267e8b729063c53146fedf9b6182b778ce7730d5417b2bee6ec6d16557") true
    Hd.headNames_row (fun _ h => by cases h) (by kernel_rfl) (fun _ h => by cases h) headNames_row_tie rfl ⟨rfl, rfl⟩ (by kernel_rfl) rfl
    (fun f fn hf hfn => by
      obtain rfl : f = 3 := Option.some.inj ((show Tryz.prog.funcNamed "meniscus/meniscuslaw12.HeadNames" = some 3 by kernel_rfl).symm.trans hf) |>.symm
      obtain rfl : fn = Tryz.f3 := (Option.some.inj (Tryz.func3.symm.trans hfn)).symm
      exact ⟨by kernel_rfl, fun j t ht => by
        have hpar : Tryz.f3.params.toList = [] := by kernel_rfl
        have ht2 : Tryz.f3.params.toList[j]? = some t := by simpa using ht
        rw [hpar] at ht2
        have hm := List.mem_of_getElem? ht2
        cases hm⟩)
    (by kernel_rfl)
#print axioms headNames_holds
end Go.Proofs.YtakpdkmhclhlnaaGreatDoor
