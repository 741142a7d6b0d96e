/- The law PointTruth returns true for all scales and points. Conditions: none. -/
import Derived.Test.YtchcegfhamngkaaPtX
import Derived.Test.YtchcegfhamngkaaSxY
set_option linter.unusedSimpArgs false
set_option linter.unusedVariables false
namespace Go.Proofs.Ytchcegfhamngkaa
open Go Go.Sx Go.RowKit Go.ChangeShapes Go.WideShapes Go.ChangeAt
theorem PointTruth_all : ∀ avs, ArgsOk Try.prog Try.f5.params.toList avs → SoundAt Try.prog 5 avs (.x (.bool true)) := by
  intro avs h
  have hp : Try.f5.params.toList = [40, 40, 57, 58] := by kernel_rfl
  rw [hp] at h
  cases h with
  | cons h0 h =>
  cases h with
  | cons h1 h =>
  cases h with
  | cons h2 h =>
  cases h with
  | cons h3 h =>
  cases h
  obtain ⟨vs0, rfl, hv0⟩ := h0.agg (ks := [.int .i64, .int .i64]) (by kernel_rfl) (by kernel_rfl)
  obtain ⟨a, b, rfl, w_a, w_b⟩ := int2 hv0
  obtain ⟨vs1, rfl, hv1⟩ := h1.agg (ks := [.int .i64, .int .i64]) (by kernel_rfl) (by kernel_rfl)
  obtain ⟨c, d, rfl, w_c, w_d⟩ := int2 hv1
  obtain ⟨v2, rfl, ⟨x, rfl, w_x⟩⟩ := h2.one (k := .int .i16) (by kernel_rfl) (by kernel_rfl)
  obtain ⟨v3, rfl, ⟨y, rfl, w_y⟩⟩ := h3.one (k := .int .u16) (by kernel_rfl) (by kernel_rfl)
  have hx : IntKind.i16.min ≤ x ∧ x ≤ IntKind.i16.max := by simpa [Lit.wf] using w_x
  have hy : IntKind.u16.min ≤ y ∧ y ≤ IntKind.u16.max := by simpa [Lit.wf] using w_y
  exact PointTruth_at a b c d x y hx hy
set_option maxRecDepth 100000 in
theorem PointTruth_lifted (os : Os) (started : os.Started) (H : Type) (enc : TypeId × Value → H) :
    ReturnsInHanded {} Try.checked os 5 .any (Rows.pointTruthSpec.pre6 enc Try.prog Try.f5 Rows.pointTruthRow.domain false) (Rows.pointTruthSpec.post enc Try.prog Try.f5 false true false false) := by
  refine returnsInHanded_of_change (C := Try.checked) (show ownKnob Try.prog.godebug = none by kernel_rfl) started (by kernel_rfl) Try.func5
    (ChangeSpec.witness6 (enc := enc) (C := Try.checked) false ⟨#[], #[.agg #[.int .i64 0, .int .i64 0], .agg #[.int .i64 0, .int .i64 0], .int .i16 0, .int .u16 0], []⟩ 8 (by kernel_rfl) (by kernel_rfl) (by kernel_rfl) (by kernel_rfl)) ?_
  intro W base args ds gs before hval0 hW _ _
  have hval : ∀ (j : Nat) t v, Try.f5.params[j]? = some t → args[j]? = some v → Value.okWide Try.prog W .any base t v := hval0
  have hW' := hW
  obtain ⟨p, q, hA0, hV, rfl, _, _⟩ := hW
  have hA : DataW.TrodAll enc Try.prog W 0 (fun _ => true) true Try.f5.params.toList args.toList ds p := hA0
  obtain ⟨rfl, rfl⟩ := trodVars_none hV
  simp only [List.append_nil] at hW'
  refine (law_calls (P := Try.prog) (f := 5) (by kernel_rfl) (fun j t v ht hv => hval j t v (by simpa using ht) (by simpa using hv)) hA PointTruth_all).mono fun e W' ⟨he, hb⟩ => ?_
  subst he
  have hpar : Try.f5.params.toList = [40, 40, 57, 58] := by kernel_rfl
  have hA2 := hA
  rw [hpar] at hA2
  obtain ⟨v0, vs0, d0, r0, p0, q0, e0, rfl, rfl, _, hA2⟩ := trodAll_cons hA2
  obtain ⟨v1, vs1, d1, r1, p1, q1, e1, rfl, rfl, _, hA2⟩ := trodAll_cons hA2
  obtain ⟨v2, vs2, d2, r2, p2, q2, e2, rfl, rfl, _, hA2⟩ := trodAll_cons hA2
  obtain ⟨v3, vs3, d3, r3, p3, q3, e3, rfl, rfl, _, hA2⟩ := trodAll_cons hA2
  obtain rfl : r3 = [] := by
    cases vs3 <;> cases r3 <;> simp [DataW.TrodAll] at hA2 ⊢
  exact ⟨_, rfl, law_post (tb := 4) (show laidOutB Try.prog = true by kernel_rfl) (by kernel_rfl) (by kernel_rfl) (by kernel_rfl) rfl rfl rfl rfl hW' hA hb⟩
theorem pointTruth_holds : Rows.PointTruthSaid :=
  OpenClaim.holds_of_wide 5 Try.f5 rfl rfl rfl rfl rfl rfl rfl ⟨rfl, rfl, rfl, rfl, rfl⟩ rfl rfl rfl rfl rfl (by kernel_rfl) Try.func5 (by kernel_rfl)
    (of_decide_eq_true (by kernel_rfl)) (by unfold Func.isWrapper; first | (rw [if_pos (by decide +kernel)]; kernel_rfl) | (rw [if_neg (by decide +kernel)]; exact ⟨rfl, rfl⟩))
    (fun os started H enc _ => PointTruth_lifted os started H enc)
#print axioms pointTruth_holds

end Go.Proofs.Ytchcegfhamngkaa
