/- The law PointKinds returns true for all scales and diaries. Conditions: none. -/
import Derived.Test.YtchcegfhamngkaaPtAb
import Derived.Test.YtchcegfhamngkaaSxY
set_option linter.unusedSimpArgs false
set_option linter.unusedVariables false
namespace Go.Proofs.Ytchcegfhamngkaa
open Go Go.Sx Go.RowKit Go.ChangeShapes Go.WideShapes Go.ChangeAt
theorem PointKinds_all : ∀ avs, ArgsOk Try.prog Try.f13.params.toList avs → SoundAt Try.prog 13 avs (.x (.bool true)) := by
  intro avs h
  have hp : Try.f13.params.toList = [22, 75] := by kernel_rfl
  rw [hp] at h
  cases h with
  | cons h0 h =>
  cases h with
  | cons h1 h =>
  cases h
  obtain ⟨n, f0, rfl, hm0, hf0⟩ := h0.list (e := 40) (ks := [.int .i64, .int .i64]) (by kernel_rfl) (by kernel_rfl)
  have hF0 : isRec 2 n (fun k => (f0 k).map .x) := fun k hk => ints_rec (m := 2) (hf0 k hk)
  obtain ⟨m, g0, rfl, hm1, hf1⟩ := h1.list (e := 88) (ks := [.int .i64, .int .i64, .int .i64]) (by kernel_rfl) (by kernel_rfl)
  have hF1 : isRec 3 m (fun k => (g0 k).map .x) := fun k hk => ints_rec (m := 3) (hf1 k hk)
  exact (PointKinds_at n m (col 0 fun k => (f0 k).map .x) (col 1 fun k => (f0 k).map .x) (col 0 fun k => (g0 k).map .x) (col 1 fun k => (g0 k).map .x) (col 2 fun k => (g0 k).map .x)).same (.cons (.lst 2 n _ _ hF0) (.cons (.lst 3 m _ _ hF1) .nil))
set_option maxRecDepth 100000 in
theorem PointKinds_lifted (os : Os) (started : os.Started) (H : Type) (enc : TypeId × Value → H) :
    ReturnsInHanded {} Try.checked os 13 .any (Rows.pointKindsSpec.pre6 enc Try.prog Try.f13 Rows.pointKindsRow.domain false) (Rows.pointKindsSpec.post enc Try.prog Try.f13 false true false false) := by
  refine returnsInHanded_of_change (C := Try.checked) (show ownKnob Try.prog.godebug = none by kernel_rfl) started (by kernel_rfl) Try.func13
    (ChangeSpec.witness6 (enc := enc) (C := Try.checked) false ⟨#[], #[.slice none 0 0, .slice none 0 0], []⟩ 8 (by kernel_rfl) (by kernel_rfl) (by kernel_rfl) (by kernel_rfl)) ?_
  intro W base args ds gs before hval0 hW _ _
  have hval : ∀ (j : Nat) t v, Try.f13.params[j]? = some t → args[j]? = some v → Value.okWide Try.prog W .any base t v := hval0
  have hW' := hW
  obtain ⟨p, q, hA0, hV, rfl, _, _⟩ := hW
  have hA : DataW.TrodAll enc Try.prog W 0 (fun _ => true) true Try.f13.params.toList args.toList ds p := hA0
  obtain ⟨rfl, rfl⟩ := trodVars_none hV
  simp only [List.append_nil] at hW'
  refine (law_calls (P := Try.prog) (f := 13) (by kernel_rfl) (fun j t v ht hv => hval j t v (by simpa using ht) (by simpa using hv)) hA PointKinds_all).mono fun e W' ⟨he, hb⟩ => ?_
  subst he
  have hpar : Try.f13.params.toList = [22, 75] := by kernel_rfl
  have hA2 := hA
  rw [hpar] at hA2
  obtain ⟨v0, vs0, d0, r0, p0, q0, e0, rfl, rfl, _, hA2⟩ := trodAll_cons hA2
  obtain ⟨v1, vs1, d1, r1, p1, q1, e1, rfl, rfl, _, hA2⟩ := trodAll_cons hA2
  obtain rfl : r1 = [] := by
    cases vs1 <;> cases r1 <;> simp [DataW.TrodAll] at hA2 ⊢
  exact ⟨_, rfl, law_post (tb := 4) (show laidOutB Try.prog = true by kernel_rfl) (by kernel_rfl) (by kernel_rfl) (by kernel_rfl) rfl rfl rfl rfl hW' hA hb⟩
theorem pointKinds_holds : Rows.PointKindsSaid :=
  OpenClaim.holds_of_wide 13 Try.f13 rfl rfl rfl rfl rfl rfl rfl ⟨rfl, rfl, rfl, rfl, rfl⟩ rfl rfl rfl rfl rfl (by kernel_rfl) Try.func13 (by kernel_rfl)
    (of_decide_eq_true (by kernel_rfl)) (by unfold Func.isWrapper; first | (rw [if_pos (by decide +kernel)]; kernel_rfl) | (rw [if_neg (by decide +kernel)]; exact ⟨rfl, rfl⟩))
    (fun os started H enc _ => PointKinds_lifted os started H enc)
#print axioms pointKinds_holds

end Go.Proofs.Ytchcegfhamngkaa
