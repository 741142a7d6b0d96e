/- The laws BoreScaled and BoreMore return true for every tube, all words, readings and numbers. Conditions: none. -/
import Derived.Test.YtmdeoobmeokmeaaMm
set_option linter.unusedSimpArgs false
set_option linter.unusedVariables false
namespace Go.Proofs.Ytmdeoobmeokmeaa
open Go Go.Sx Go.RowKit Go.ChangeShapes Go.WideShapes Go.ChangeAt
theorem BoreScaled_all : ∀ avs, ArgsOk Try.prog Try.f6.params.toList avs → SoundAt Try.prog 6 avs (.x (.bool true)) := by
  intro avs h
  have hp : Try.f6.params.toList = [25, 56, 56, 5] := by kernel_rfl
  rw [hp] at h
  cases h with
  | cons h0 h =>
  cases h with
  | cons h1 h =>
  cases h with
  | cons h2 h =>
  cases h with
  | cons h3 h =>
  cases h
  obtain ⟨vs0, rfl, hv0⟩ := h0.agg (ks := [.int .i64, .int .i64, .int .i64, .int .i64]) (by kernel_rfl) (by kernel_rfl)
  obtain ⟨c, T, lo, hi, rfl, w_c, w_T, w_lo, w_hi⟩ := int4 hv0
  obtain ⟨n, w0, rfl, ⟨hm1, _⟩, hf1⟩ := h1.list (e := 86) (ks := [.int .u16]) (by kernel_rfl) (by kernel_rfl)
  have hF1 : isW n (fun k => (w0 k).map .x) ∧ wOk n (fun j => wAt ((fun k => (w0 k).map .x) j)) := words_w hf1
  have hM1 : n ≤ 10000000000000000000 := Nat.le_trans hm1 (by decide)
  obtain ⟨m, z0, rfl, ⟨hm2, _⟩, hf2⟩ := h2.list (e := 86) (ks := [.int .u16]) (by kernel_rfl) (by kernel_rfl)
  have hF2 : isW m (fun k => (z0 k).map .x) ∧ wOk m (fun j => wAt ((fun k => (z0 k).map .x) j)) := words_w hf2
  have hM2 : m ≤ 10000000000000000000 := Nat.le_trans hm2 (by decide)
  obtain ⟨v3, rfl, ⟨by_, rfl, w_by_⟩⟩ := h3.one (k := .int .u8) (by kernel_rfl) (by kernel_rfl)
  have ht_by_ : IntKind.u8.min ≤ by_ ∧ by_ ≤ IntKind.u8.max := by simpa [Lit.wf] using w_by_
  have hb_by_ : 0 ≤ by_ ∧ by_ ≤ 255 := by
    have e1 : IntKind.u8.min = 0 := by decide
    have e2 : IntKind.u8.max = 255 := by decide
    rw [e1, e2] at ht_by_
    exact ht_by_
  exact (BoreScaled_at c T lo hi n (fun j => wAt ((w0 j).map AV.x)) m (fun j => wAt ((z0 j).map AV.x)) by_ hM1 hF1.2 hM2 hF2.2 hb_by_).same (.cons (.refl _) (.cons (.lst 1 n _ _ hF1.1) (.cons (.lst 1 m _ _ hF2.1) (.cons (.refl _) .nil))))
set_option maxRecDepth 100000 in
theorem BoreScaled_lifted (os : Os) (started : os.Started) (H : Type) (enc : TypeId × Value → H) :
    ReturnsInHanded {} Try.checked os 6 .any (Rows.boreScaledSpec.pre6 enc Try.prog Try.f6 Rows.boreScaledRow.domain false) (Rows.boreScaledSpec.post enc Try.prog Try.f6 false true false false) := by
  refine returnsInHanded_of_change_sized (C := Try.checked) (show ownKnob Try.prog.godebug = none by kernel_rfl) started (by kernel_rfl) Try.func6
    (ChangeSpec.witness6 (enc := enc) (C := Try.checked) false ⟨#[], #[.agg #[.int .i64 0, .int .i64 0, .int .i64 0, .int .i64 0], .slice none 0 0, .slice none 0 0, .int .u8 0], []⟩ 8 (by kernel_rfl) (by kernel_rfl) (by kernel_rfl) (by kernel_rfl)) ?_
  intro W base args ds gs before hval0 hW _ hsz0 _
  have hval : ∀ (j : Nat) t v, Try.f6.params[j]? = some t → args[j]? = some v → Value.okWide Try.prog W .any base t v := hval0
  have hW' := hW
  obtain ⟨p, q, hA0, hV, rfl, _, _⟩ := hW
  have hA : DataW.TrodAll enc Try.prog W 0 (fun _ => true) true Try.f6.params.toList args.toList ds p := hA0
  obtain ⟨rfl, rfl⟩ := trodVars_none hV
  simp only [List.append_nil] at hW'
  have hz : ∀ q ∈ DataW.weightsEach Try.prog Try.f6.params.toList ds, q ≤ reachBytes := fun q hq => by
    have h0 : (DataW.weightsEach Try.prog (Try.f6.params.toList ++ []) (ds ++ [])).all (fun x => decide (x ≤ reachBytes)) = true := hsz0
    rw [List.append_nil, List.append_nil] at h0
    simpa using List.all_eq_true.1 h0 q hq
  refine (law_calls (P := Try.prog) (f := 6) (by kernel_rfl) (fun j t v ht hv => hval j t v (by simpa using ht) (by simpa using hv)) hA hz BoreScaled_all).mono fun e W' ⟨he, hb⟩ => ?_
  subst he
  have hpar : Try.f6.params.toList = [25, 56, 56, 5] := by kernel_rfl
  have hA2 := hA
  rw [hpar] at hA2
  obtain ⟨v0, vs0, d0, r0, p0, q0, e0, rfl, rfl, _, hA2⟩ := trodAll_cons hA2
  obtain ⟨v1, vs1, d1, r1, p1, q1, e1, rfl, rfl, _, hA2⟩ := trodAll_cons hA2
  obtain ⟨v2, vs2, d2, r2, p2, q2, e2, rfl, rfl, _, hA2⟩ := trodAll_cons hA2
  obtain ⟨v3, vs3, d3, r3, p3, q3, e3, rfl, rfl, _, hA2⟩ := trodAll_cons hA2
  obtain rfl : r3 = [] := by
    cases vs3 <;> cases r3 <;> simp [DataW.TrodAll] at hA2 ⊢
  exact ⟨_, rfl, law_post (tb := 4) (show laidOutB Try.prog = true by kernel_rfl) (by kernel_rfl) (by kernel_rfl) (by kernel_rfl) rfl rfl rfl rfl hW' hA hb⟩
theorem boreScaled_holds : Rows.BoreScaledSaid :=
  OpenClaim.holds_of_wide 6 Try.f6 rfl rfl rfl rfl rfl rfl rfl ⟨rfl, rfl, rfl, rfl, rfl⟩ rfl rfl rfl rfl rfl (by kernel_rfl) Try.func6 (by kernel_rfl)
    (of_decide_eq_true (by kernel_rfl)) (by unfold Func.isWrapper; first | (rw [if_pos (by decide +kernel)]; kernel_rfl) | (rw [if_neg (by decide +kernel)]; exact ⟨rfl, rfl⟩))
    (fun os started H enc _ => BoreScaled_lifted os started H enc)
#print axioms boreScaled_holds

theorem BoreMore_all : ∀ avs, ArgsOk Try.prog Try.f4.params.toList avs → SoundAt Try.prog 4 avs (.x (.bool true)) := by
  intro avs h
  have hp : Try.f4.params.toList = [25, 26, 47, 5, 5] := by kernel_rfl
  rw [hp] at h
  cases h with
  | cons h0 h =>
  cases h with
  | cons h1 h =>
  cases h with
  | cons h2 h =>
  cases h with
  | cons h3 h =>
  cases h with
  | cons h4 h =>
  cases h
  obtain ⟨vs0, rfl, hv0⟩ := h0.agg (ks := [.int .i64, .int .i64, .int .i64, .int .i64]) (by kernel_rfl) (by kernel_rfl)
  obtain ⟨c, T, lo, hi, rfl, w_c, w_T, w_lo, w_hi⟩ := int4 hv0
  obtain ⟨n, f0, rfl, ⟨hm1, hz1⟩, hf1⟩ := h1.list (e := 47) (ks := [.int .i64, .int .i64, .int .i64, .int .i64]) (by kernel_rfl) (by kernel_rfl)
  have hF1 : isRec 4 n (fun k => (f0 k).map .x) := fun k hk => ints_rec (m := 4) (hf1 k hk)
  have hS1 : n * 32 ≤ 140737488351232 := by
    have h := hz1
    rw [show Try.prog.bytesOf 47 = 32 by kernel_rfl] at h
    exact h
  obtain ⟨vs2, rfl, hv2⟩ := h2.agg (ks := [.int .i64, .int .i64, .int .i64, .int .i64]) (by kernel_rfl) (by kernel_rfl)
  obtain ⟨xa, xb, xu, xv, rfl, w_xa, w_xb, w_xu, w_xv⟩ := int4 hv2
  obtain ⟨v3, rfl, ⟨wh, rfl, w_wh⟩⟩ := h3.one (k := .int .u8) (by kernel_rfl) (by kernel_rfl)
  obtain ⟨v4, rfl, ⟨by_, rfl, w_by_⟩⟩ := h4.one (k := .int .u8) (by kernel_rfl) (by kernel_rfl)
  have ht_wh : IntKind.u8.min ≤ wh ∧ wh ≤ IntKind.u8.max := by simpa [Lit.wf] using w_wh
  have ht_by_ : IntKind.u8.min ≤ by_ ∧ by_ ≤ IntKind.u8.max := by simpa [Lit.wf] using w_by_
  have hb_wh : 0 ≤ wh ∧ wh ≤ 255 := by
    have e1 : IntKind.u8.min = 0 := by decide
    have e2 : IntKind.u8.max = 255 := by decide
    rw [e1, e2] at ht_wh
    exact ht_wh
  have hb_by_ : 0 ≤ by_ ∧ by_ ≤ 255 := by
    have e1 : IntKind.u8.min = 0 := by decide
    have e2 : IntKind.u8.max = 255 := by decide
    rw [e1, e2] at ht_by_
    exact ht_by_
  exact (BoreMore_at c T lo hi n (col 0 fun k => (f0 k).map .x) (col 1 fun k => (f0 k).map .x) (col 2 fun k => (f0 k).map .x) (col 3 fun k => (f0 k).map .x) xa xb xu xv wh by_ hS1 hb_wh hb_by_).same (.cons (.refl _) (.cons (.lst 4 n _ _ hF1) (.cons (.refl _) (.cons (.refl _) (.cons (.refl _) .nil)))))
set_option maxRecDepth 100000 in
theorem BoreMore_lifted (os : Os) (started : os.Started) (H : Type) (enc : TypeId × Value → H) :
    ReturnsInHanded {} Try.checked os 4 .any (Rows.boreMoreSpec.pre6 enc Try.prog Try.f4 Rows.boreMoreRow.domain false) (Rows.boreMoreSpec.post enc Try.prog Try.f4 false true false false) := by
  refine returnsInHanded_of_change_sized (C := Try.checked) (show ownKnob Try.prog.godebug = none by kernel_rfl) started (by kernel_rfl) Try.func4
    (ChangeSpec.witness6 (enc := enc) (C := Try.checked) false ⟨#[], #[.agg #[.int .i64 0, .int .i64 0, .int .i64 0, .int .i64 0], .slice none 0 0, .agg #[.int .i64 0, .int .i64 0, .int .i64 0, .int .i64 0], .int .u8 0, .int .u8 0], []⟩ 8 (by kernel_rfl) (by kernel_rfl) (by kernel_rfl) (by kernel_rfl)) ?_
  intro W base args ds gs before hval0 hW _ hsz0 _
  have hval : ∀ (j : Nat) t v, Try.f4.params[j]? = some t → args[j]? = some v → Value.okWide Try.prog W .any base t v := hval0
  have hW' := hW
  obtain ⟨p, q, hA0, hV, rfl, _, _⟩ := hW
  have hA : DataW.TrodAll enc Try.prog W 0 (fun _ => true) true Try.f4.params.toList args.toList ds p := hA0
  obtain ⟨rfl, rfl⟩ := trodVars_none hV
  simp only [List.append_nil] at hW'
  have hz : ∀ q ∈ DataW.weightsEach Try.prog Try.f4.params.toList ds, q ≤ reachBytes := fun q hq => by
    have h0 : (DataW.weightsEach Try.prog (Try.f4.params.toList ++ []) (ds ++ [])).all (fun x => decide (x ≤ reachBytes)) = true := hsz0
    rw [List.append_nil, List.append_nil] at h0
    simpa using List.all_eq_true.1 h0 q hq
  refine (law_calls (P := Try.prog) (f := 4) (by kernel_rfl) (fun j t v ht hv => hval j t v (by simpa using ht) (by simpa using hv)) hA hz BoreMore_all).mono fun e W' ⟨he, hb⟩ => ?_
  subst he
  have hpar : Try.f4.params.toList = [25, 26, 47, 5, 5] := by kernel_rfl
  have hA2 := hA
  rw [hpar] at hA2
  obtain ⟨v0, vs0, d0, r0, p0, q0, e0, rfl, rfl, _, hA2⟩ := trodAll_cons hA2
  obtain ⟨v1, vs1, d1, r1, p1, q1, e1, rfl, rfl, _, hA2⟩ := trodAll_cons hA2
  obtain ⟨v2, vs2, d2, r2, p2, q2, e2, rfl, rfl, _, hA2⟩ := trodAll_cons hA2
  obtain ⟨v3, vs3, d3, r3, p3, q3, e3, rfl, rfl, _, hA2⟩ := trodAll_cons hA2
  obtain ⟨v4, vs4, d4, r4, p4, q4, e4, rfl, rfl, _, hA2⟩ := trodAll_cons hA2
  obtain rfl : r4 = [] := by
    cases vs4 <;> cases r4 <;> simp [DataW.TrodAll] at hA2 ⊢
  exact ⟨_, rfl, law_post (tb := 4) (show laidOutB Try.prog = true by kernel_rfl) (by kernel_rfl) (by kernel_rfl) (by kernel_rfl) rfl rfl rfl rfl hW' hA hb⟩
theorem boreMore_holds : Rows.BoreMoreSaid :=
  OpenClaim.holds_of_wide 4 Try.f4 rfl rfl rfl rfl rfl rfl rfl ⟨rfl, rfl, rfl, rfl, rfl⟩ rfl rfl rfl rfl rfl (by kernel_rfl) Try.func4 (by kernel_rfl)
    (of_decide_eq_true (by kernel_rfl)) (by unfold Func.isWrapper; first | (rw [if_pos (by decide +kernel)]; kernel_rfl) | (rw [if_neg (by decide +kernel)]; exact ⟨rfl, rfl⟩))
    (fun os started H enc _ => BoreMore_lifted os started H enc)
#print axioms boreMore_holds

end Go.Proofs.Ytmdeoobmeokmeaa
