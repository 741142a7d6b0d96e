/- The law PointNames returns true. Conditions: none. -/
import Derived.Test.YtchcegfhamngkaaPtAc
import Derived.Test.YtchcegfhamngkaaSxY
set_option linter.unusedSimpArgs false
set_option linter.unusedVariables false
namespace Go.Proofs.Ytchcegfhamngkaa
open Go Go.Sx Go.RowKit Go.ChangeShapes Go.WideShapes Go.ChangeAt
theorem PointNames_all : ∀ avs, ArgsOk Try.prog Try.f15.params.toList avs → SoundAt Try.prog 15 avs (.x (.bool true)) := by
  intro avs h
  have hp : Try.f15.params.toList = [] := by kernel_rfl
  rw [hp] at h
  cases h
  exact PointNames_at
set_option maxRecDepth 100000 in
theorem PointNames_lifted (os : Os) (started : os.Started) (H : Type) (enc : TypeId × Value → H) :
    ReturnsInHanded {} Try.checked os 15 .any (Rows.pointNamesSpec.pre6 enc Try.prog Try.f15 Rows.pointNamesRow.domain false) (Rows.pointNamesSpec.post enc Try.prog Try.f15 false true false false) := by
  refine returnsInHanded_of_change (C := Try.checked) (show ownKnob Try.prog.godebug = none by kernel_rfl) started (by kernel_rfl) Try.func15
    (ChangeSpec.witness6 (enc := enc) (C := Try.checked) false ⟨#[], #[], []⟩ 8 (by kernel_rfl) (by kernel_rfl) (by kernel_rfl) (by kernel_rfl)) ?_
  intro W base args ds gs before hval0 hW _ _
  have hval : ∀ (j : Nat) t v, Try.f15.params[j]? = some t → args[j]? = some v → Value.okWide Try.prog W .any base t v := hval0
  have hW' := hW
  obtain ⟨p, q, hA0, hV, rfl, _, _⟩ := hW
  have hA : DataW.TrodAll enc Try.prog W 0 (fun _ => true) true Try.f15.params.toList args.toList ds p := hA0
  obtain ⟨rfl, rfl⟩ := trodVars_none hV
  simp only [List.append_nil] at hW'
  refine (law_calls (P := Try.prog) (f := 15) (r := .any) (b0 := base) (by kernel_rfl) (fun j t v ht _ => by simp at ht) hA PointNames_all).mono fun e W' ⟨he, hb⟩ => ?_
  subst he
  have hpar : Try.f15.params.toList = [] := by kernel_rfl
  have hA2 := hA
  rw [hpar] at hA2
  obtain rfl : ds = [] := by
    cases args.toList <;> cases ds <;> simp [DataW.TrodAll] at hA2 ⊢
  exact ⟨_, rfl, law_post (tb := 4) (show laidOutB Try.prog = true by kernel_rfl) (by kernel_rfl) (by kernel_rfl) (by kernel_rfl) rfl rfl rfl rfl hW' hA hb⟩
theorem pointNames_holds : Rows.PointNamesSaid :=
  OpenClaim.holds_of_wide 15 Try.f15 rfl rfl rfl rfl rfl rfl rfl ⟨rfl, rfl, rfl, rfl, rfl⟩ rfl rfl rfl rfl rfl (by kernel_rfl) Try.func15 (by kernel_rfl)
    (of_decide_eq_true (by kernel_rfl)) (by unfold Func.isWrapper; first | (rw [if_pos (by decide +kernel)]; kernel_rfl) | (rw [if_neg (by decide +kernel)]; exact ⟨rfl, rfl⟩))
    (fun os started H enc _ => PointNames_lifted os started H enc)
#print axioms pointNames_holds

end Go.Proofs.Ytchcegfhamngkaa
