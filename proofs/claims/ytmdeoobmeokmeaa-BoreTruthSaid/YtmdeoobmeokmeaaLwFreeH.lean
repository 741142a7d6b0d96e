/- The laws BoreFree, BoreEnds and BoreTruth return true for every tube and all words. Conditions: none. -/
import Derived.Test.YtmdeoobmeokmeaaMl
set_option linter.unusedSimpArgs false
set_option linter.unusedVariables false
namespace Go.Proofs.Ytmdeoobmeokmeaa
open Go Go.Sx Go.RowKit Go.ChangeShapes Go.WideShapes Go.ChangeAt
theorem BoreFree_all : ∀ avs, ArgsOk Try.prog Try.f5.params.toList avs → SoundAt Try.prog 5 avs (.x (.bool true)) := by
  intro avs h
  have hp : Try.f5.params.toList = [25] := by kernel_rfl
  rw [hp] at h
  cases h with
  | cons h0 h =>
  cases h
  obtain ⟨vs0, rfl, hv0⟩ := h0.agg (ks := [.int .i64, .int .i64, .int .i64, .int .i64]) (by kernel_rfl) (by kernel_rfl)
  obtain ⟨c, T, lo, hi, rfl, w_c, w_T, w_lo, w_hi⟩ := int4 hv0
  exact (BoreFree_at c T lo hi).same (.cons (.refl _) .nil)
set_option maxRecDepth 100000 in
theorem BoreFree_lifted (os : Os) (started : os.Started) (H : Type) (enc : TypeId × Value → H) :
    ReturnsInHanded {} Try.checked os 5 .any (Rows.boreFreeSpec.pre6 enc Try.prog Try.f5 Rows.boreFreeRow.domain false) (Rows.boreFreeSpec.post enc Try.prog Try.f5 false true false false) := by
  refine returnsInHanded_of_change (C := Try.checked) (show ownKnob Try.prog.godebug = none by kernel_rfl) started (by kernel_rfl) Try.func5
    (ChangeSpec.witness6 (enc := enc) (C := Try.checked) false ⟨#[], #[.agg #[.int .i64 0, .int .i64 0, .int .i64 0, .int .i64 0]], []⟩ 8 (by kernel_rfl) (by kernel_rfl) (by kernel_rfl) (by kernel_rfl)) ?_
  intro W base args ds gs before hval0 hW _ _
  have hval : ∀ (j : Nat) t v, Try.f5.params[j]? = some t → args[j]? = some v → Value.okWide Try.prog W .any base t v := hval0
  have hW' := hW
  obtain ⟨p, q, hA0, hV, rfl, _, _⟩ := hW
  have hA : DataW.TrodAll enc Try.prog W 0 (fun _ => true) true Try.f5.params.toList args.toList ds p := hA0
  obtain ⟨rfl, rfl⟩ := trodVars_none hV
  simp only [List.append_nil] at hW'
  refine (law_calls (P := Try.prog) (f := 5) (by kernel_rfl) (fun j t v ht hv => hval j t v (by simpa using ht) (by simpa using hv)) hA BoreFree_all).mono fun e W' ⟨he, hb⟩ => ?_
  subst he
  have hpar : Try.f5.params.toList = [25] := by kernel_rfl
  have hA2 := hA
  rw [hpar] at hA2
  obtain ⟨v0, vs0, d0, r0, p0, q0, e0, rfl, rfl, _, hA2⟩ := trodAll_cons hA2
  obtain rfl : r0 = [] := by
    cases vs0 <;> cases r0 <;> simp [DataW.TrodAll] at hA2 ⊢
  exact ⟨_, rfl, law_post (tb := 4) (show laidOutB Try.prog = true by kernel_rfl) (by kernel_rfl) (by kernel_rfl) (by kernel_rfl) rfl rfl rfl rfl hW' hA hb⟩
theorem boreFree_holds : Rows.BoreFreeSaid :=
  OpenClaim.holds_of_wide 5 Try.f5 rfl rfl rfl rfl rfl rfl rfl ⟨rfl, rfl, rfl, rfl, rfl⟩ rfl rfl rfl rfl rfl (by kernel_rfl) Try.func5 (by kernel_rfl)
    (of_decide_eq_true (by kernel_rfl)) (by unfold Func.isWrapper; first | (rw [if_pos (by decide +kernel)]; kernel_rfl) | (rw [if_neg (by decide +kernel)]; exact ⟨rfl, rfl⟩))
    (fun os started H enc _ => BoreFree_lifted os started H enc)
#print axioms boreFree_holds

theorem BoreEnds_all : ∀ avs, ArgsOk Try.prog Try.f10.params.toList avs → SoundAt Try.prog 10 avs (.x (.bool true)) := by
  intro avs h
  have hp : Try.f10.params.toList = [25, 56, 56] := by kernel_rfl
  rw [hp] at h
  cases h with
  | cons h0 h =>
  cases h with
  | cons h1 h =>
  cases h with
  | cons h2 h =>
  cases h
  obtain ⟨vs0, rfl, hv0⟩ := h0.agg (ks := [.int .i64, .int .i64, .int .i64, .int .i64]) (by kernel_rfl) (by kernel_rfl)
  obtain ⟨c, T, lo, hi, rfl, w_c, w_T, w_lo, w_hi⟩ := int4 hv0
  obtain ⟨n, w0, rfl, hm1, hf1⟩ := h1.list (e := 86) (ks := [.int .u16]) (by kernel_rfl) (by kernel_rfl)
  have hF1 : isW n (fun k => (w0 k).map .x) ∧ wOk n (fun j => wAt ((fun k => (w0 k).map .x) j)) := words_w hf1
  have hM1 : n ≤ 10000000000000000000 := Nat.le_trans hm1 (by decide)
  obtain ⟨m, z0, rfl, hm2, hf2⟩ := h2.list (e := 86) (ks := [.int .u16]) (by kernel_rfl) (by kernel_rfl)
  have hF2 : isW m (fun k => (z0 k).map .x) ∧ wOk m (fun j => wAt ((fun k => (z0 k).map .x) j)) := words_w hf2
  have hM2 : m ≤ 10000000000000000000 := Nat.le_trans hm2 (by decide)
  exact (BoreEnds_at c T lo hi n (fun j => wAt ((w0 j).map AV.x)) m (fun j => wAt ((z0 j).map AV.x)) hM1 hF1.2 hM2 hF2.2).same (.cons (.refl _) (.cons (.lst 1 n _ _ hF1.1) (.cons (.lst 1 m _ _ hF2.1) .nil)))
set_option maxRecDepth 100000 in
theorem BoreEnds_lifted (os : Os) (started : os.Started) (H : Type) (enc : TypeId × Value → H) :
    ReturnsInHanded {} Try.checked os 10 .any (Rows.boreEndsSpec.pre6 enc Try.prog Try.f10 Rows.boreEndsRow.domain false) (Rows.boreEndsSpec.post enc Try.prog Try.f10 false true false false) := by
  refine returnsInHanded_of_change (C := Try.checked) (show ownKnob Try.prog.godebug = none by kernel_rfl) started (by kernel_rfl) Try.func10
    (ChangeSpec.witness6 (enc := enc) (C := Try.checked) false ⟨#[], #[.agg #[.int .i64 0, .int .i64 0, .int .i64 0, .int .i64 0], .slice none 0 0, .slice none 0 0], []⟩ 8 (by kernel_rfl) (by kernel_rfl) (by kernel_rfl) (by kernel_rfl)) ?_
  intro W base args ds gs before hval0 hW _ _
  have hval : ∀ (j : Nat) t v, Try.f10.params[j]? = some t → args[j]? = some v → Value.okWide Try.prog W .any base t v := hval0
  have hW' := hW
  obtain ⟨p, q, hA0, hV, rfl, _, _⟩ := hW
  have hA : DataW.TrodAll enc Try.prog W 0 (fun _ => true) true Try.f10.params.toList args.toList ds p := hA0
  obtain ⟨rfl, rfl⟩ := trodVars_none hV
  simp only [List.append_nil] at hW'
  refine (law_calls (P := Try.prog) (f := 10) (by kernel_rfl) (fun j t v ht hv => hval j t v (by simpa using ht) (by simpa using hv)) hA BoreEnds_all).mono fun e W' ⟨he, hb⟩ => ?_
  subst he
  have hpar : Try.f10.params.toList = [25, 56, 56] := by kernel_rfl
  have hA2 := hA
  rw [hpar] at hA2
  obtain ⟨v0, vs0, d0, r0, p0, q0, e0, rfl, rfl, _, hA2⟩ := trodAll_cons hA2
  obtain ⟨v1, vs1, d1, r1, p1, q1, e1, rfl, rfl, _, hA2⟩ := trodAll_cons hA2
  obtain ⟨v2, vs2, d2, r2, p2, q2, e2, rfl, rfl, _, hA2⟩ := trodAll_cons hA2
  obtain rfl : r2 = [] := by
    cases vs2 <;> cases r2 <;> simp [DataW.TrodAll] at hA2 ⊢
  exact ⟨_, rfl, law_post (tb := 4) (show laidOutB Try.prog = true by kernel_rfl) (by kernel_rfl) (by kernel_rfl) (by kernel_rfl) rfl rfl rfl rfl hW' hA hb⟩
theorem boreEnds_holds : Rows.BoreEndsSaid :=
  OpenClaim.holds_of_wide 10 Try.f10 rfl rfl rfl rfl rfl rfl rfl ⟨rfl, rfl, rfl, rfl, rfl⟩ rfl rfl rfl rfl rfl (by kernel_rfl) Try.func10 (by kernel_rfl)
    (of_decide_eq_true (by kernel_rfl)) (by unfold Func.isWrapper; first | (rw [if_pos (by decide +kernel)]; kernel_rfl) | (rw [if_neg (by decide +kernel)]; exact ⟨rfl, rfl⟩))
    (fun os started H enc _ => BoreEnds_lifted os started H enc)
#print axioms boreEnds_holds

theorem BoreTruth_all : ∀ avs, ArgsOk Try.prog Try.f12.params.toList avs → SoundAt Try.prog 12 avs (.x (.bool true)) := by
  intro avs h
  have hp : Try.f12.params.toList = [25, 56, 56] := by kernel_rfl
  rw [hp] at h
  cases h with
  | cons h0 h =>
  cases h with
  | cons h1 h =>
  cases h with
  | cons h2 h =>
  cases h
  obtain ⟨vs0, rfl, hv0⟩ := h0.agg (ks := [.int .i64, .int .i64, .int .i64, .int .i64]) (by kernel_rfl) (by kernel_rfl)
  obtain ⟨c, T, lo, hi, rfl, w_c, w_T, w_lo, w_hi⟩ := int4 hv0
  obtain ⟨n, w0, rfl, hm1, hf1⟩ := h1.list (e := 86) (ks := [.int .u16]) (by kernel_rfl) (by kernel_rfl)
  have hF1 : isW n (fun k => (w0 k).map .x) ∧ wOk n (fun j => wAt ((fun k => (w0 k).map .x) j)) := words_w hf1
  have hM1 : n ≤ 10000000000000000000 := Nat.le_trans hm1 (by decide)
  obtain ⟨m, z0, rfl, hm2, hf2⟩ := h2.list (e := 86) (ks := [.int .u16]) (by kernel_rfl) (by kernel_rfl)
  have hF2 : isW m (fun k => (z0 k).map .x) ∧ wOk m (fun j => wAt ((fun k => (z0 k).map .x) j)) := words_w hf2
  have hM2 : m ≤ 10000000000000000000 := Nat.le_trans hm2 (by decide)
  exact (BoreTruth_at c T lo hi n (fun j => wAt ((w0 j).map AV.x)) m (fun j => wAt ((z0 j).map AV.x)) hM1 hF1.2 hM2 hF2.2).same (.cons (.refl _) (.cons (.lst 1 n _ _ hF1.1) (.cons (.lst 1 m _ _ hF2.1) .nil)))
set_option maxRecDepth 100000 in
theorem BoreTruth_lifted (os : Os) (started : os.Started) (H : Type) (enc : TypeId × Value → H) :
    ReturnsInHanded {} Try.checked os 12 .any (Rows.boreTruthSpec.pre6 enc Try.prog Try.f12 Rows.boreTruthRow.domain false) (Rows.boreTruthSpec.post enc Try.prog Try.f12 false true false false) := by
  refine returnsInHanded_of_change (C := Try.checked) (show ownKnob Try.prog.godebug = none by kernel_rfl) started (by kernel_rfl) Try.func12
    (ChangeSpec.witness6 (enc := enc) (C := Try.checked) false ⟨#[], #[.agg #[.int .i64 0, .int .i64 0, .int .i64 0, .int .i64 0], .slice none 0 0, .slice none 0 0], []⟩ 8 (by kernel_rfl) (by kernel_rfl) (by kernel_rfl) (by kernel_rfl)) ?_
  intro W base args ds gs before hval0 hW _ _
  have hval : ∀ (j : Nat) t v, Try.f12.params[j]? = some t → args[j]? = some v → Value.okWide Try.prog W .any base t v := hval0
  have hW' := hW
  obtain ⟨p, q, hA0, hV, rfl, _, _⟩ := hW
  have hA : DataW.TrodAll enc Try.prog W 0 (fun _ => true) true Try.f12.params.toList args.toList ds p := hA0
  obtain ⟨rfl, rfl⟩ := trodVars_none hV
  simp only [List.append_nil] at hW'
  refine (law_calls (P := Try.prog) (f := 12) (by kernel_rfl) (fun j t v ht hv => hval j t v (by simpa using ht) (by simpa using hv)) hA BoreTruth_all).mono fun e W' ⟨he, hb⟩ => ?_
  subst he
  have hpar : Try.f12.params.toList = [25, 56, 56] := by kernel_rfl
  have hA2 := hA
  rw [hpar] at hA2
  obtain ⟨v0, vs0, d0, r0, p0, q0, e0, rfl, rfl, _, hA2⟩ := trodAll_cons hA2
  obtain ⟨v1, vs1, d1, r1, p1, q1, e1, rfl, rfl, _, hA2⟩ := trodAll_cons hA2
  obtain ⟨v2, vs2, d2, r2, p2, q2, e2, rfl, rfl, _, hA2⟩ := trodAll_cons hA2
  obtain rfl : r2 = [] := by
    cases vs2 <;> cases r2 <;> simp [DataW.TrodAll] at hA2 ⊢
  exact ⟨_, rfl, law_post (tb := 4) (show laidOutB Try.prog = true by kernel_rfl) (by kernel_rfl) (by kernel_rfl) (by kernel_rfl) rfl rfl rfl rfl hW' hA hb⟩
theorem boreTruth_holds : Rows.BoreTruthSaid :=
  OpenClaim.holds_of_wide 12 Try.f12 rfl rfl rfl rfl rfl rfl rfl ⟨rfl, rfl, rfl, rfl, rfl⟩ rfl rfl rfl rfl rfl (by kernel_rfl) Try.func12 (by kernel_rfl)
    (of_decide_eq_true (by kernel_rfl)) (by unfold Func.isWrapper; first | (rw [if_pos (by decide +kernel)]; kernel_rfl) | (rw [if_neg (by decide +kernel)]; exact ⟨rfl, rfl⟩))
    (fun os started H enc _ => BoreTruth_lifted os started H enc)
#print axioms boreTruth_holds

end Go.Proofs.Ytmdeoobmeokmeaa
