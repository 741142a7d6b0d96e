/- The laws PointWider and PointPressure return true for all scales, tables, pressures and readings. Conditions: none. -/
import Derived.Test.YtchcegfhamngkaaPtAa
import Derived.Test.YtchcegfhamngkaaSxY
set_option linter.unusedSimpArgs false
set_option linter.unusedVariables false
namespace Go.Proofs.Ytchcegfhamngkaa
open Go Go.Sx Go.RowKit Go.ChangeShapes Go.WideShapes Go.ChangeAt
theorem PointWider_all : ∀ avs, ArgsOk Try.prog Try.f9.params.toList avs → SoundAt Try.prog 9 avs (.x (.bool true)) := by
  intro avs h
  have hp : Try.f9.params.toList = [40, 40, 44, 24, 24, 5] := by kernel_rfl
  rw [hp] at h
  cases h with
  | cons h0 h =>
  cases h with
  | cons h1 h =>
  cases h with
  | cons h2 h =>
  cases h with
  | cons h3 h =>
  cases h with
  | cons h4 h =>
  cases h with
  | cons h5 h =>
  cases h
  obtain ⟨vs0, rfl, hv0⟩ := h0.agg (ks := [.int .i64, .int .i64]) (by kernel_rfl) (by kernel_rfl)
  obtain ⟨a, b, rfl, w_a, w_b⟩ := int2 hv0
  obtain ⟨vs1, rfl, hv1⟩ := h1.agg (ks := [.int .i64, .int .i64]) (by kernel_rfl) (by kernel_rfl)
  obtain ⟨c, d, rfl, w_c, w_d⟩ := int2 hv1
  obtain ⟨n, f0, rfl, hm2, hf2⟩ := h2.list (e := 52) (ks := [.int .i64, .int .i64]) (by kernel_rfl) (by kernel_rfl)
  have hF2 : isRec 2 n (fun k => (f0 k).map .x) := fun k hk => ints_rec (m := 2) (hf2 k hk)
  obtain ⟨vs3, rfl, hv3⟩ := h3.agg (ks := [.int .i64, .int .i64]) (by kernel_rfl) (by kernel_rfl)
  obtain ⟨u, v, rfl, w_u, w_v⟩ := int2 hv3
  obtain ⟨vs4, rfl, hv4⟩ := h4.agg (ks := [.int .i64, .int .i64]) (by kernel_rfl) (by kernel_rfl)
  obtain ⟨lo, hi, rfl, w_lo, w_hi⟩ := int2 hv4
  obtain ⟨v5, rfl, ⟨t, rfl, w_t⟩⟩ := h5.one (k := .int .u8) (by kernel_rfl) (by kernel_rfl)
  have ht : IntKind.u8.min ≤ t ∧ t ≤ IntKind.u8.max := by simpa [Lit.wf] using w_t
  exact (PointWider_at a b c d n (col 0 fun k => (f0 k).map .x) (col 1 fun k => (f0 k).map .x) u v lo hi t ht).same (.cons (.refl _) (.cons (.refl _) (.cons (.lst 2 n _ _ hF2) (.cons (.refl _) (.cons (.refl _) (.cons (.refl _) .nil))))))
set_option maxRecDepth 100000 in
theorem PointWider_lifted (os : Os) (started : os.Started) (H : Type) (enc : TypeId × Value → H) :
    ReturnsInHanded {} Try.checked os 9 .any (Rows.pointWiderSpec.pre6 enc Try.prog Try.f9 Rows.pointWiderRow.domain false) (Rows.pointWiderSpec.post enc Try.prog Try.f9 false true false false) := by
  refine returnsInHanded_of_change (C := Try.checked) (show ownKnob Try.prog.godebug = none by kernel_rfl) started (by kernel_rfl) Try.func9
    (ChangeSpec.witness6 (enc := enc) (C := Try.checked) false ⟨#[], #[.agg #[.int .i64 0, .int .i64 0], .agg #[.int .i64 0, .int .i64 0], .slice none 0 0, .agg #[.int .i64 0, .int .i64 0], .agg #[.int .i64 0, .int .i64 0], .int .u8 0], []⟩ 8 (by kernel_rfl) (by kernel_rfl) (by kernel_rfl) (by kernel_rfl)) ?_
  intro W base args ds gs before hval0 hW _ _
  have hval : ∀ (j : Nat) t v, Try.f9.params[j]? = some t → args[j]? = some v → Value.okWide Try.prog W .any base t v := hval0
  have hW' := hW
  obtain ⟨p, q, hA0, hV, rfl, _, _⟩ := hW
  have hA : DataW.TrodAll enc Try.prog W 0 (fun _ => true) true Try.f9.params.toList args.toList ds p := hA0
  obtain ⟨rfl, rfl⟩ := trodVars_none hV
  simp only [List.append_nil] at hW'
  refine (law_calls (P := Try.prog) (f := 9) (by kernel_rfl) (fun j t v ht hv => hval j t v (by simpa using ht) (by simpa using hv)) hA PointWider_all).mono fun e W' ⟨he, hb⟩ => ?_
  subst he
  have hpar : Try.f9.params.toList = [40, 40, 44, 24, 24, 5] := by kernel_rfl
  have hA2 := hA
  rw [hpar] at hA2
  obtain ⟨v0, vs0, d0, r0, p0, q0, e0, rfl, rfl, _, hA2⟩ := trodAll_cons hA2
  obtain ⟨v1, vs1, d1, r1, p1, q1, e1, rfl, rfl, _, hA2⟩ := trodAll_cons hA2
  obtain ⟨v2, vs2, d2, r2, p2, q2, e2, rfl, rfl, _, hA2⟩ := trodAll_cons hA2
  obtain ⟨v3, vs3, d3, r3, p3, q3, e3, rfl, rfl, _, hA2⟩ := trodAll_cons hA2
  obtain ⟨v4, vs4, d4, r4, p4, q4, e4, rfl, rfl, _, hA2⟩ := trodAll_cons hA2
  obtain ⟨v5, vs5, d5, r5, p5, q5, e5, rfl, rfl, _, hA2⟩ := trodAll_cons hA2
  obtain rfl : r5 = [] := by
    cases vs5 <;> cases r5 <;> simp [DataW.TrodAll] at hA2 ⊢
  exact ⟨_, rfl, law_post (tb := 4) (show laidOutB Try.prog = true by kernel_rfl) (by kernel_rfl) (by kernel_rfl) (by kernel_rfl) rfl rfl rfl rfl hW' hA hb⟩
theorem pointWider_holds : Rows.PointWiderSaid :=
  OpenClaim.holds_of_wide 9 Try.f9 rfl rfl rfl rfl rfl rfl rfl ⟨rfl, rfl, rfl, rfl, rfl⟩ rfl rfl rfl rfl rfl (by kernel_rfl) Try.func9 (by kernel_rfl)
    (of_decide_eq_true (by kernel_rfl)) (by unfold Func.isWrapper; first | (rw [if_pos (by decide +kernel)]; kernel_rfl) | (rw [if_neg (by decide +kernel)]; exact ⟨rfl, rfl⟩))
    (fun os started H enc _ => PointWider_lifted os started H enc)
#print axioms pointWider_holds

theorem PointPressure_all : ∀ avs, ArgsOk Try.prog Try.f10.params.toList avs → SoundAt Try.prog 10 avs (.x (.bool true)) := by
  intro avs h
  have hp : Try.f10.params.toList = [40, 44, 24, 24] := by kernel_rfl
  rw [hp] at h
  cases h with
  | cons h0 h =>
  cases h with
  | cons h1 h =>
  cases h with
  | cons h2 h =>
  cases h with
  | cons h3 h =>
  cases h
  obtain ⟨vs0, rfl, hv0⟩ := h0.agg (ks := [.int .i64, .int .i64]) (by kernel_rfl) (by kernel_rfl)
  obtain ⟨a, b, rfl, w_a, w_b⟩ := int2 hv0
  obtain ⟨n, f0, rfl, hm1, hf1⟩ := h1.list (e := 52) (ks := [.int .i64, .int .i64]) (by kernel_rfl) (by kernel_rfl)
  have hF1 : isRec 2 n (fun k => (f0 k).map .x) := fun k hk => ints_rec (m := 2) (hf1 k hk)
  obtain ⟨vs2, rfl, hv2⟩ := h2.agg (ks := [.int .i64, .int .i64]) (by kernel_rfl) (by kernel_rfl)
  obtain ⟨u, v, rfl, w_u, w_v⟩ := int2 hv2
  obtain ⟨vs3, rfl, hv3⟩ := h3.agg (ks := [.int .i64, .int .i64]) (by kernel_rfl) (by kernel_rfl)
  obtain ⟨lo, hi, rfl, w_lo, w_hi⟩ := int2 hv3
  exact (PointPressure_at a b n (col 0 fun k => (f0 k).map .x) (col 1 fun k => (f0 k).map .x) u v lo hi).same (.cons (.refl _) (.cons (.lst 2 n _ _ hF1) (.cons (.refl _) (.cons (.refl _) .nil))))
set_option maxRecDepth 100000 in
theorem PointPressure_lifted (os : Os) (started : os.Started) (H : Type) (enc : TypeId × Value → H) :
    ReturnsInHanded {} Try.checked os 10 .any (Rows.pointPressureSpec.pre6 enc Try.prog Try.f10 Rows.pointPressureRow.domain false) (Rows.pointPressureSpec.post enc Try.prog Try.f10 false true false false) := by
  refine returnsInHanded_of_change (C := Try.checked) (show ownKnob Try.prog.godebug = none by kernel_rfl) started (by kernel_rfl) Try.func10
    (ChangeSpec.witness6 (enc := enc) (C := Try.checked) false ⟨#[], #[.agg #[.int .i64 0, .int .i64 0], .slice none 0 0, .agg #[.int .i64 0, .int .i64 0], .agg #[.int .i64 0, .int .i64 0]], []⟩ 8 (by kernel_rfl) (by kernel_rfl) (by kernel_rfl) (by kernel_rfl)) ?_
  intro W base args ds gs before hval0 hW _ _
  have hval : ∀ (j : Nat) t v, Try.f10.params[j]? = some t → args[j]? = some v → Value.okWide Try.prog W .any base t v := hval0
  have hW' := hW
  obtain ⟨p, q, hA0, hV, rfl, _, _⟩ := hW
  have hA : DataW.TrodAll enc Try.prog W 0 (fun _ => true) true Try.f10.params.toList args.toList ds p := hA0
  obtain ⟨rfl, rfl⟩ := trodVars_none hV
  simp only [List.append_nil] at hW'
  refine (law_calls (P := Try.prog) (f := 10) (by kernel_rfl) (fun j t v ht hv => hval j t v (by simpa using ht) (by simpa using hv)) hA PointPressure_all).mono fun e W' ⟨he, hb⟩ => ?_
  subst he
  have hpar : Try.f10.params.toList = [40, 44, 24, 24] := by kernel_rfl
  have hA2 := hA
  rw [hpar] at hA2
  obtain ⟨v0, vs0, d0, r0, p0, q0, e0, rfl, rfl, _, hA2⟩ := trodAll_cons hA2
  obtain ⟨v1, vs1, d1, r1, p1, q1, e1, rfl, rfl, _, hA2⟩ := trodAll_cons hA2
  obtain ⟨v2, vs2, d2, r2, p2, q2, e2, rfl, rfl, _, hA2⟩ := trodAll_cons hA2
  obtain ⟨v3, vs3, d3, r3, p3, q3, e3, rfl, rfl, _, hA2⟩ := trodAll_cons hA2
  obtain rfl : r3 = [] := by
    cases vs3 <;> cases r3 <;> simp [DataW.TrodAll] at hA2 ⊢
  exact ⟨_, rfl, law_post (tb := 4) (show laidOutB Try.prog = true by kernel_rfl) (by kernel_rfl) (by kernel_rfl) (by kernel_rfl) rfl rfl rfl rfl hW' hA hb⟩
theorem pointPressure_holds : Rows.PointPressureSaid :=
  OpenClaim.holds_of_wide 10 Try.f10 rfl rfl rfl rfl rfl rfl rfl ⟨rfl, rfl, rfl, rfl, rfl⟩ rfl rfl rfl rfl rfl (by kernel_rfl) Try.func10 (by kernel_rfl)
    (of_decide_eq_true (by kernel_rfl)) (by unfold Func.isWrapper; first | (rw [if_pos (by decide +kernel)]; kernel_rfl) | (rw [if_neg (by decide +kernel)]; exact ⟨rfl, rfl⟩))
    (fun os started H enc _ => PointPressure_lifted os started H enc)
#print axioms pointPressure_holds

end Go.Proofs.Ytchcegfhamngkaa
