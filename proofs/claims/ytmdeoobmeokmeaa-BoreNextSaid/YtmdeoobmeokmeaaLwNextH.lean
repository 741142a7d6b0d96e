/- The law BoreNext returns true for every tube, all words and every range. Conditions: none. -/
import Derived.Test.YtmdeoobmeokmeaaMm
set_option linter.unusedSimpArgs false
set_option linter.unusedVariables false
namespace Go.Proofs.Ytmdeoobmeokmeaa
open Go Go.Sx Go.RowKit Go.ChangeShapes Go.WideShapes Go.ChangeAt
theorem BoreNext_all : ∀ avs, ArgsOk Try.prog Try.f8.params.toList avs → SoundAt Try.prog 8 avs (.x (.bool true)) := by
  intro avs h
  have hp : Try.f8.params.toList = [25, 56, 56, 23] := by kernel_rfl
  rw [hp] at h
  cases h with
  | cons h0 h =>
  cases h with
  | cons h1 h =>
  cases h with
  | cons h2 h =>
  cases h with
  | cons h3 h =>
  cases h
  obtain ⟨vs0, rfl, hv0⟩ := h0.agg (ks := [.int .i64, .int .i64, .int .i64, .int .i64]) (by kernel_rfl) (by kernel_rfl)
  obtain ⟨c, T, lo, hi, rfl, w_c, w_T, w_lo, w_hi⟩ := int4 hv0
  obtain ⟨n, w0, rfl, ⟨hm1, _⟩, hf1⟩ := h1.list (e := 86) (ks := [.int .u16]) (by kernel_rfl) (by kernel_rfl)
  have hF1 : isW n (fun k => (w0 k).map .x) ∧ wOk n (fun j => wAt ((fun k => (w0 k).map .x) j)) := words_w hf1
  have hM1 : n ≤ 10000000000000000000 := Nat.le_trans hm1 (by decide)
  obtain ⟨m, z0, rfl, ⟨hm2, _⟩, hf2⟩ := h2.list (e := 86) (ks := [.int .u16]) (by kernel_rfl) (by kernel_rfl)
  have hF2 : isW m (fun k => (z0 k).map .x) ∧ wOk m (fun j => wAt ((fun k => (z0 k).map .x) j)) := words_w hf2
  have hM2 : m ≤ 10000000000000000000 := Nat.le_trans hm2 (by decide)
  obtain ⟨vs3, rfl, hv3⟩ := h3.agg (ks := [.int .i64, .int .i64]) (by kernel_rfl) (by kernel_rfl)
  obtain ⟨vl, vh, rfl, w_vl, w_vh⟩ := int2 hv3
  exact (BoreNext_at c T lo hi n (fun j => wAt ((w0 j).map AV.x)) m (fun j => wAt ((z0 j).map AV.x)) vl vh hM1 hF1.2 hM2 hF2.2).same (.cons (.refl _) (.cons (.lst 1 n _ _ hF1.1) (.cons (.lst 1 m _ _ hF2.1) (.cons (.refl _) .nil))))
set_option maxRecDepth 100000 in
theorem BoreNext_lifted (os : Os) (started : os.Started) (H : Type) (enc : TypeId × Value → H) :
    ReturnsInHanded {} Try.checked os 8 .any (Rows.boreNextSpec.pre6 enc Try.prog Try.f8 Rows.boreNextRow.domain false) (Rows.boreNextSpec.post enc Try.prog Try.f8 false true false false) := by
  refine returnsInHanded_of_change_sized (C := Try.checked) (show ownKnob Try.prog.godebug = none by kernel_rfl) started (by kernel_rfl) Try.func8
    (ChangeSpec.witness6 (enc := enc) (C := Try.checked) false ⟨#[], #[.agg #[.int .i64 0, .int .i64 0, .int .i64 0, .int .i64 0], .slice none 0 0, .slice none 0 0, .agg #[.int .i64 0, .int .i64 0]], []⟩ 8 (by kernel_rfl) (by kernel_rfl) (by kernel_rfl) (by kernel_rfl)) ?_
  intro W base args ds gs before hval0 hW _ hsz0 _
  have hval : ∀ (j : Nat) t v, Try.f8.params[j]? = some t → args[j]? = some v → Value.okWide Try.prog W .any base t v := hval0
  have hW' := hW
  obtain ⟨p, q, hA0, hV, rfl, _, _⟩ := hW
  have hA : DataW.TrodAll enc Try.prog W 0 (fun _ => true) true Try.f8.params.toList args.toList ds p := hA0
  obtain ⟨rfl, rfl⟩ := trodVars_none hV
  simp only [List.append_nil] at hW'
  have hz : ∀ q ∈ DataW.weightsEach Try.prog Try.f8.params.toList ds, q ≤ reachBytes := fun q hq => by
    have h0 : (DataW.weightsEach Try.prog (Try.f8.params.toList ++ []) (ds ++ [])).all (fun x => decide (x ≤ reachBytes)) = true := hsz0
    rw [List.append_nil, List.append_nil] at h0
    simpa using List.all_eq_true.1 h0 q hq
  refine (law_calls (P := Try.prog) (f := 8) (by kernel_rfl) (fun j t v ht hv => hval j t v (by simpa using ht) (by simpa using hv)) hA hz BoreNext_all).mono fun e W' ⟨he, hb⟩ => ?_
  subst he
  have hpar : Try.f8.params.toList = [25, 56, 56, 23] := by kernel_rfl
  have hA2 := hA
  rw [hpar] at hA2
  obtain ⟨v0, vs0, d0, r0, p0, q0, e0, rfl, rfl, _, hA2⟩ := trodAll_cons hA2
  obtain ⟨v1, vs1, d1, r1, p1, q1, e1, rfl, rfl, _, hA2⟩ := trodAll_cons hA2
  obtain ⟨v2, vs2, d2, r2, p2, q2, e2, rfl, rfl, _, hA2⟩ := trodAll_cons hA2
  obtain ⟨v3, vs3, d3, r3, p3, q3, e3, rfl, rfl, _, hA2⟩ := trodAll_cons hA2
  obtain rfl : r3 = [] := by
    cases vs3 <;> cases r3 <;> simp [DataW.TrodAll] at hA2 ⊢
  exact ⟨_, rfl, law_post (tb := 4) (show laidOutB Try.prog = true by kernel_rfl) (by kernel_rfl) (by kernel_rfl) (by kernel_rfl) rfl rfl rfl rfl hW' hA hb⟩
theorem boreNext_holds : Rows.BoreNextSaid :=
  OpenClaim.holds_of_wide 8 Try.f8 rfl rfl rfl rfl rfl rfl rfl ⟨rfl, rfl, rfl, rfl, rfl⟩ rfl rfl rfl rfl rfl (by kernel_rfl) Try.func8 (by kernel_rfl)
    (of_decide_eq_true (by kernel_rfl)) (by unfold Func.isWrapper; first | (rw [if_pos (by decide +kernel)]; kernel_rfl) | (rw [if_neg (by decide +kernel)]; exact ⟨rfl, rfl⟩))
    (fun os started H enc _ => BoreNext_lifted os started H enc)
#print axioms boreNext_holds

end Go.Proofs.Ytmdeoobmeokmeaa
