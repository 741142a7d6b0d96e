/- The law BoreOrder returns true for every tube, all readings and every number. Conditions: none. -/
import Derived.Test.YtmdeoobmeokmeaaMl
set_option linter.unusedSimpArgs false
set_option linter.unusedVariables false
namespace Go.Proofs.Ytmdeoobmeokmeaa
open Go Go.Sx Go.RowKit Go.ChangeShapes Go.WideShapes Go.ChangeAt
theorem BoreOrder_all : ∀ avs, ArgsOk Try.prog Try.f15.params.toList avs → SoundAt Try.prog 15 avs (.x (.bool true)) := by
  intro avs h
  have hp : Try.f15.params.toList = [25, 26, 5] := by kernel_rfl
  rw [hp] at h
  cases h with
  | cons h0 h =>
  cases h with
  | cons h1 h =>
  cases h with
  | cons h2 h =>
  cases h
  obtain ⟨vs0, rfl, hv0⟩ := h0.agg (ks := [.int .i64, .int .i64, .int .i64, .int .i64]) (by kernel_rfl) (by kernel_rfl)
  obtain ⟨c, T, lo, hi, rfl, w_c, w_T, w_lo, w_hi⟩ := int4 hv0
  obtain ⟨n, f0, rfl, ⟨hm1, hz1⟩, hf1⟩ := h1.list (e := 47) (ks := [.int .i64, .int .i64, .int .i64, .int .i64]) (by kernel_rfl) (by kernel_rfl)
  have hF1 : isRec 4 n (fun k => (f0 k).map .x) := fun k hk => ints_rec (m := 4) (hf1 k hk)
  have hS1 : n * 32 ≤ 140737488351232 := by
    have h := hz1
    rw [show Try.prog.bytesOf 47 = 32 by kernel_rfl] at h
    exact h
  obtain ⟨v2, rfl, ⟨by_, rfl, w_by_⟩⟩ := h2.one (k := .int .u8) (by kernel_rfl) (by kernel_rfl)
  have ht_by_ : IntKind.u8.min ≤ by_ ∧ by_ ≤ IntKind.u8.max := by simpa [Lit.wf] using w_by_
  have hb_by_ : 0 ≤ by_ ∧ by_ ≤ 255 := by
    have e1 : IntKind.u8.min = 0 := by decide
    have e2 : IntKind.u8.max = 255 := by decide
    rw [e1, e2] at ht_by_
    exact ht_by_
  exact (BoreOrder_at c T lo hi n (col 0 fun k => (f0 k).map .x) (col 1 fun k => (f0 k).map .x) (col 2 fun k => (f0 k).map .x) (col 3 fun k => (f0 k).map .x) by_ hS1 hb_by_).same (.cons (.refl _) (.cons (.lst 4 n _ _ hF1) (.cons (.refl _) .nil)))
set_option maxRecDepth 100000 in
theorem BoreOrder_lifted (os : Os) (started : os.Started) (H : Type) (enc : TypeId × Value → H) :
    ReturnsInHanded {} Try.checked os 15 .any (Rows.boreOrderSpec.pre6 enc Try.prog Try.f15 Rows.boreOrderRow.domain false) (Rows.boreOrderSpec.post enc Try.prog Try.f15 false true false false) := by
  refine returnsInHanded_of_change_sized (C := Try.checked) (show ownKnob Try.prog.godebug = none by kernel_rfl) started (by kernel_rfl) Try.func15
    (ChangeSpec.witness6 (enc := enc) (C := Try.checked) false ⟨#[], #[.agg #[.int .i64 0, .int .i64 0, .int .i64 0, .int .i64 0], .slice none 0 0, .int .u8 0], []⟩ 8 (by kernel_rfl) (by kernel_rfl) (by kernel_rfl) (by kernel_rfl)) ?_
  intro W base args ds gs before hval0 hW _ hsz0 _
  have hval : ∀ (j : Nat) t v, Try.f15.params[j]? = some t → args[j]? = some v → Value.okWide Try.prog W .any base t v := hval0
  have hW' := hW
  obtain ⟨p, q, hA0, hV, rfl, _, _⟩ := hW
  have hA : DataW.TrodAll enc Try.prog W 0 (fun _ => true) true Try.f15.params.toList args.toList ds p := hA0
  obtain ⟨rfl, rfl⟩ := trodVars_none hV
  simp only [List.append_nil] at hW'
  have hz : ∀ q ∈ DataW.weightsEach Try.prog Try.f15.params.toList ds, q ≤ reachBytes := fun q hq => by
    have h0 : (DataW.weightsEach Try.prog (Try.f15.params.toList ++ []) (ds ++ [])).all (fun x => decide (x ≤ reachBytes)) = true := hsz0
    rw [List.append_nil, List.append_nil] at h0
    simpa using List.all_eq_true.1 h0 q hq
  refine (law_calls (P := Try.prog) (f := 15) (by kernel_rfl) (fun j t v ht hv => hval j t v (by simpa using ht) (by simpa using hv)) hA hz BoreOrder_all).mono fun e W' ⟨he, hb⟩ => ?_
  subst he
  have hpar : Try.f15.params.toList = [25, 26, 5] := by kernel_rfl
  have hA2 := hA
  rw [hpar] at hA2
  obtain ⟨v0, vs0, d0, r0, p0, q0, e0, rfl, rfl, _, hA2⟩ := trodAll_cons hA2
  obtain ⟨v1, vs1, d1, r1, p1, q1, e1, rfl, rfl, _, hA2⟩ := trodAll_cons hA2
  obtain ⟨v2, vs2, d2, r2, p2, q2, e2, rfl, rfl, _, hA2⟩ := trodAll_cons hA2
  obtain rfl : r2 = [] := by
    cases vs2 <;> cases r2 <;> simp [DataW.TrodAll] at hA2 ⊢
  exact ⟨_, rfl, law_post (tb := 4) (show laidOutB Try.prog = true by kernel_rfl) (by kernel_rfl) (by kernel_rfl) (by kernel_rfl) rfl rfl rfl rfl hW' hA hb⟩
theorem boreOrder_holds : Rows.BoreOrderSaid :=
  OpenClaim.holds_of_wide 15 Try.f15 rfl rfl rfl rfl rfl rfl rfl ⟨rfl, rfl, rfl, rfl, rfl⟩ rfl rfl rfl rfl rfl (by kernel_rfl) Try.func15 (by kernel_rfl)
    (of_decide_eq_true (by kernel_rfl)) (by unfold Func.isWrapper; first | (rw [if_pos (by decide +kernel)]; kernel_rfl) | (rw [if_neg (by decide +kernel)]; exact ⟨rfl, rfl⟩))
    (fun os started H enc _ => BoreOrder_lifted os started H enc)
#print axioms boreOrder_holds

end Go.Proofs.Ytmdeoobmeokmeaa
