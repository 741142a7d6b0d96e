/- The law PointDiaries returns true for all scales, diaries and entries. Conditions: none. -/
import Derived.Test.YtchcegfhamngkaaMl
set_option linter.unusedSimpArgs false
set_option linter.unusedVariables false
namespace Go.Proofs.Ytchcegfhamngkaa
open Go Go.Sx Go.RowKit Go.ChangeShapes Go.WideShapes Go.ChangeAt
theorem PointDiaries_all : ∀ avs, ArgsOk Try.prog Try.f14.params.toList avs → SoundAt Try.prog 14 avs (.x (.bool true)) := by
  intro avs h
  have hp : Try.f14.params.toList = [22, 75, 88, 5] := by kernel_rfl
  rw [hp] at h
  cases h with
  | cons h0 h =>
  cases h with
  | cons h1 h =>
  cases h with
  | cons h2 h =>
  cases h with
  | cons h3 h =>
  cases h
  obtain ⟨n, f0, rfl, ⟨hm0, hz0⟩, hf0⟩ := h0.list (e := 40) (ks := [.int .i64, .int .i64]) (by kernel_rfl) (by kernel_rfl)
  have hF0 : isRec 2 n (fun k => (f0 k).map .x) := fun k hk => ints_rec (m := 2) (hf0 k hk)
  have hS0 : n * 16 ≤ 140737488351232 := by
    have h := hz0
    rw [show Try.prog.bytesOf 40 = 16 by kernel_rfl] at h
    exact h
  obtain ⟨m, g0, rfl, ⟨hm1, hz1⟩, hf1⟩ := h1.list (e := 88) (ks := [.int .i64, .int .i64, .int .i64]) (by kernel_rfl) (by kernel_rfl)
  have hF1 : isRec 3 m (fun k => (g0 k).map .x) := fun k hk => ints_rec (m := 3) (hf1 k hk)
  have hS1 : m * 24 ≤ 140737488351232 := by
    have h := hz1
    rw [show Try.prog.bytesOf 88 = 24 by kernel_rfl] at h
    exact h
  obtain ⟨vs2, rfl, hv2⟩ := h2.agg (ks := [.int .i64, .int .i64, .int .i64]) (by kernel_rfl) (by kernel_rfl)
  obtain ⟨rr, uu, vv, rfl, w_rr, w_uu, w_vv⟩ := int3 hv2
  obtain ⟨v3, rfl, ⟨t, rfl, w_t⟩⟩ := h3.one (k := .int .u8) (by kernel_rfl) (by kernel_rfl)
  have ht : IntKind.u8.min ≤ t ∧ t ≤ IntKind.u8.max := by simpa [Lit.wf] using w_t
  exact (PointDiaries_at n m (col 0 fun k => (f0 k).map .x) (col 1 fun k => (f0 k).map .x) (col 0 fun k => (g0 k).map .x) (col 1 fun k => (g0 k).map .x) (col 2 fun k => (g0 k).map .x) rr uu vv t hS1 ht).same (.cons (.lst 2 n _ _ hF0) (.cons (.lst 3 m _ _ hF1) (.cons (.refl _) (.cons (.refl _) .nil))))
set_option maxRecDepth 100000 in
theorem PointDiaries_lifted (os : Os) (started : os.Started) (H : Type) (enc : TypeId × Value → H) :
    ReturnsInHanded {} Try.checked os 14 .any (Rows.pointDiariesSpec.pre6 enc Try.prog Try.f14 Rows.pointDiariesRow.domain false) (Rows.pointDiariesSpec.post enc Try.prog Try.f14 false true false false) := by
  refine returnsInHanded_of_change_sized (C := Try.checked) (show ownKnob Try.prog.godebug = none by kernel_rfl) started (by kernel_rfl) Try.func14
    (ChangeSpec.witness6 (enc := enc) (C := Try.checked) false ⟨#[], #[.slice none 0 0, .slice none 0 0, .agg #[.int .i64 0, .int .i64 0, .int .i64 0], .int .u8 0], []⟩ 8 (by kernel_rfl) (by kernel_rfl) (by kernel_rfl) (by kernel_rfl)) ?_
  intro W base args ds gs before hval0 hW _ hsz0 _
  have hval : ∀ (j : Nat) t v, Try.f14.params[j]? = some t → args[j]? = some v → Value.okWide Try.prog W .any base t v := hval0
  have hW' := hW
  obtain ⟨p, q, hA0, hV, rfl, _, _⟩ := hW
  have hA : DataW.TrodAll enc Try.prog W 0 (fun _ => true) true Try.f14.params.toList args.toList ds p := hA0
  obtain ⟨rfl, rfl⟩ := trodVars_none hV
  simp only [List.append_nil] at hW'
  have hz : ∀ q ∈ DataW.weightsEach Try.prog Try.f14.params.toList ds, q ≤ reachBytes := fun q hq => by
    have h0 : (DataW.weightsEach Try.prog (Try.f14.params.toList ++ []) (ds ++ [])).all (fun x => decide (x ≤ reachBytes)) = true := hsz0
    rw [List.append_nil, List.append_nil] at h0
    simpa using List.all_eq_true.1 h0 q hq
  refine (law_calls (P := Try.prog) (f := 14) (by kernel_rfl) (fun j t v ht hv => hval j t v (by simpa using ht) (by simpa using hv)) hA hz PointDiaries_all).mono fun e W' ⟨he, hb⟩ => ?_
  subst he
  have hpar : Try.f14.params.toList = [22, 75, 88, 5] := by kernel_rfl
  have hA2 := hA
  rw [hpar] at hA2
  obtain ⟨v0, vs0, d0, r0, p0, q0, e0, rfl, rfl, _, hA2⟩ := trodAll_cons hA2
  obtain ⟨v1, vs1, d1, r1, p1, q1, e1, rfl, rfl, _, hA2⟩ := trodAll_cons hA2
  obtain ⟨v2, vs2, d2, r2, p2, q2, e2, rfl, rfl, _, hA2⟩ := trodAll_cons hA2
  obtain ⟨v3, vs3, d3, r3, p3, q3, e3, rfl, rfl, _, hA2⟩ := trodAll_cons hA2
  obtain rfl : r3 = [] := by
    cases vs3 <;> cases r3 <;> simp [DataW.TrodAll] at hA2 ⊢
  exact ⟨_, rfl, law_post (tb := 4) (show laidOutB Try.prog = true by kernel_rfl) (by kernel_rfl) (by kernel_rfl) (by kernel_rfl) rfl rfl rfl rfl hW' hA hb⟩
theorem pointDiaries_holds : Rows.PointDiariesSaid :=
  OpenClaim.holds_of_wide 14 Try.f14 rfl rfl rfl rfl rfl rfl rfl ⟨rfl, rfl, rfl, rfl, rfl⟩ rfl rfl rfl rfl rfl (by kernel_rfl) Try.func14 (by kernel_rfl)
    (of_decide_eq_true (by kernel_rfl)) (by unfold Func.isWrapper; first | (rw [if_pos (by decide +kernel)]; kernel_rfl) | (rw [if_neg (by decide +kernel)]; exact ⟨rfl, rfl⟩))
    (fun os started H enc _ => PointDiaries_lifted os started H enc)
#print axioms pointDiaries_holds

end Go.Proofs.Ytchcegfhamngkaa
