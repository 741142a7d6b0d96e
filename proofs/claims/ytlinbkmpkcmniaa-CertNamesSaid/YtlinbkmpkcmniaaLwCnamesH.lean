/- The law CertNames returns true. Conditions: none. -/
import Derived.Test.YtlinbkmpkcmniaaMn
set_option linter.unusedSimpArgs false
set_option linter.unusedVariables false
namespace Go.Proofs.Ytlinbkmpkcmniaa
open Go Go.Sx Go.RowKit Bo Go.ChangeShapes Go.WideShapes Go.ChangeAt
theorem CertNames_all : ∀ avs, ArgsOk Try.prog Try.f3.params.toList avs → SoundAt Try.prog 3 avs (.x (.bool true)) := by
  intro avs h
  have hp : Try.f3.params.toList = [] := by kernel_rfl
  rw [hp] at h
  cases h
  exact (CertNames_at ).same .nil
set_option maxRecDepth 100000 in
theorem CertNames_lifted (os : Os) (started : os.Started) (H : Type) (enc : TypeId × Value → H) :
    ReturnsInHanded {} Try.checked os 3 .any (Rows.certNamesSpec.pre6 enc Try.prog Try.f3 Rows.certNamesRow.domain false) (Rows.certNamesSpec.post enc Try.prog Try.f3 false true false false) := by
  refine returnsInHanded_of_change_sized (C := Try.checked) (show ownKnob Try.prog.godebug = none by kernel_rfl) started (by kernel_rfl) Try.func3
    (ChangeSpec.witness6 (enc := enc) (C := Try.checked) false ⟨#[], #[], []⟩ 8 (by kernel_rfl) (by kernel_rfl) (by kernel_rfl) (by kernel_rfl)) ?_
  intro W base args ds gs before hval0 hW _ hsz0 _
  have hval : ∀ (j : Nat) t v, Try.f3.params[j]? = some t → args[j]? = some v → Value.okWide Try.prog W .any base t v := hval0
  have hW' := hW
  obtain ⟨p, q, hA0, hV, rfl, _, _⟩ := hW
  have hA : DataW.TrodAll enc Try.prog W 0 (fun _ => true) true Try.f3.params.toList args.toList ds p := hA0
  obtain ⟨rfl, rfl⟩ := trodVars_none hV
  simp only [List.append_nil] at hW'
  have hz : ∀ q ∈ DataW.weightsEach Try.prog Try.f3.params.toList ds, q ≤ reachBytes := fun q hq => by
    have h0 : (DataW.weightsEach Try.prog (Try.f3.params.toList ++ []) (ds ++ [])).all (fun x => decide (x ≤ reachBytes)) = true := hsz0
    rw [List.append_nil, List.append_nil] at h0
    simpa using List.all_eq_true.1 h0 q hq
  refine (law_calls (P := Try.prog) (f := 3) (r := .any) (b0 := base) (by kernel_rfl) (fun j t v ht _ => by simp at ht) hA hz CertNames_all).mono fun e W' ⟨he, hb⟩ => ?_
  subst he
  have hpar : Try.f3.params.toList = [] := by kernel_rfl
  have hA2 := hA
  rw [hpar] at hA2
  obtain rfl : ds = [] := by
    cases args.toList <;> cases ds <;> simp [DataW.TrodAll] at hA2 ⊢
  exact ⟨_, rfl, law_post (tb := 4) (show laidOutB Try.prog = true by kernel_rfl) (by kernel_rfl) (by kernel_rfl) (by kernel_rfl) rfl rfl rfl rfl hW' hA hb⟩
theorem certNames_holds : Rows.CertNamesSaid :=
  OpenClaim.holds_of_wide 3 Try.f3 rfl rfl rfl rfl rfl rfl rfl ⟨rfl, rfl, rfl, rfl, rfl⟩ rfl rfl rfl rfl rfl (by kernel_rfl) Try.func3 (by kernel_rfl)
    (of_decide_eq_true (by kernel_rfl)) (by unfold Func.isWrapper; first | (rw [if_pos (by decide +kernel)]; kernel_rfl) | (rw [if_neg (by decide +kernel)]; exact ⟨rfl, rfl⟩))
    (fun os started H enc _ => CertNames_lifted os started H enc)
#print axioms certNames_holds

end Go.Proofs.Ytlinbkmpkcmniaa
