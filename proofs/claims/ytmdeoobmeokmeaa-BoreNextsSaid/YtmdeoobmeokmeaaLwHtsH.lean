/- The laws BoreHeights, BoreShows and BoreNexts return true for every tube, all readings, marks, ends and volumes. Conditions: none. -/
import Derived.Test.YtmdeoobmeokmeaaMl
set_option linter.unusedSimpArgs false
set_option linter.unusedVariables false
namespace Go.Proofs.Ytmdeoobmeokmeaa
open Go Go.Sx Go.RowKit Go.ChangeShapes Go.WideShapes Go.ChangeAt
theorem BoreHeights_all : ∀ avs, ArgsOk Try.prog Try.f7.params.toList avs → SoundAt Try.prog 7 avs (.x (.bool true)) := by
  intro avs h
  have hp : Try.f7.params.toList = [25, 26] := by kernel_rfl
  rw [hp] at h
  cases h with
  | cons h0 h =>
  cases h with
  | cons h1 h =>
  cases h
  obtain ⟨vs0, rfl, hv0⟩ := h0.agg (ks := [.int .i64, .int .i64, .int .i64, .int .i64]) (by kernel_rfl) (by kernel_rfl)
  obtain ⟨c, T, lo, hi, rfl, w_c, w_T, w_lo, w_hi⟩ := int4 hv0
  obtain ⟨n, f0, rfl, ⟨hm1, hz1⟩, hf1⟩ := h1.list (e := 47) (ks := [.int .i64, .int .i64, .int .i64, .int .i64]) (by kernel_rfl) (by kernel_rfl)
  have hF1 : isRec 4 n (fun k => (f0 k).map .x) := fun k hk => ints_rec (m := 4) (hf1 k hk)
  have hS1 : n * 32 ≤ 140737488351232 := by
    have h := hz1
    rw [show Try.prog.bytesOf 47 = 32 by kernel_rfl] at h
    exact h
  exact (BoreHeights_at c T lo hi n (col 0 fun k => (f0 k).map .x) (col 1 fun k => (f0 k).map .x) (col 2 fun k => (f0 k).map .x) (col 3 fun k => (f0 k).map .x)).same (.cons (.refl _) (.cons (.lst 4 n _ _ hF1) .nil))
set_option maxRecDepth 100000 in
theorem BoreHeights_lifted (os : Os) (started : os.Started) (H : Type) (enc : TypeId × Value → H) :
    ReturnsInHanded {} Try.checked os 7 .any (Rows.boreHeightsSpec.pre6 enc Try.prog Try.f7 Rows.boreHeightsRow.domain false) (Rows.boreHeightsSpec.post enc Try.prog Try.f7 false true false false) := by
  refine returnsInHanded_of_change_sized (C := Try.checked) (show ownKnob Try.prog.godebug = none by kernel_rfl) started (by kernel_rfl) Try.func7
    (ChangeSpec.witness6 (enc := enc) (C := Try.checked) false ⟨#[], #[.agg #[.int .i64 0, .int .i64 0, .int .i64 0, .int .i64 0], .slice none 0 0], []⟩ 8 (by kernel_rfl) (by kernel_rfl) (by kernel_rfl) (by kernel_rfl)) ?_
  intro W base args ds gs before hval0 hW _ hsz0 _
  have hval : ∀ (j : Nat) t v, Try.f7.params[j]? = some t → args[j]? = some v → Value.okWide Try.prog W .any base t v := hval0
  have hW' := hW
  obtain ⟨p, q, hA0, hV, rfl, _, _⟩ := hW
  have hA : DataW.TrodAll enc Try.prog W 0 (fun _ => true) true Try.f7.params.toList args.toList ds p := hA0
  obtain ⟨rfl, rfl⟩ := trodVars_none hV
  simp only [List.append_nil] at hW'
  have hz : ∀ q ∈ DataW.weightsEach Try.prog Try.f7.params.toList ds, q ≤ reachBytes := fun q hq => by
    have h0 : (DataW.weightsEach Try.prog (Try.f7.params.toList ++ []) (ds ++ [])).all (fun x => decide (x ≤ reachBytes)) = true := hsz0
    rw [List.append_nil, List.append_nil] at h0
    simpa using List.all_eq_true.1 h0 q hq
  refine (law_calls (P := Try.prog) (f := 7) (by kernel_rfl) (fun j t v ht hv => hval j t v (by simpa using ht) (by simpa using hv)) hA hz BoreHeights_all).mono fun e W' ⟨he, hb⟩ => ?_
  subst he
  have hpar : Try.f7.params.toList = [25, 26] := by kernel_rfl
  have hA2 := hA
  rw [hpar] at hA2
  obtain ⟨v0, vs0, d0, r0, p0, q0, e0, rfl, rfl, _, hA2⟩ := trodAll_cons hA2
  obtain ⟨v1, vs1, d1, r1, p1, q1, e1, rfl, rfl, _, hA2⟩ := trodAll_cons hA2
  obtain rfl : r1 = [] := by
    cases vs1 <;> cases r1 <;> simp [DataW.TrodAll] at hA2 ⊢
  exact ⟨_, rfl, law_post (tb := 4) (show laidOutB Try.prog = true by kernel_rfl) (by kernel_rfl) (by kernel_rfl) (by kernel_rfl) rfl rfl rfl rfl hW' hA hb⟩
theorem boreHeights_holds : Rows.BoreHeightsSaid :=
  OpenClaim.holds_of_wide 7 Try.f7 rfl rfl rfl rfl rfl rfl rfl ⟨rfl, rfl, rfl, rfl, rfl⟩ rfl rfl rfl rfl rfl (by kernel_rfl) Try.func7 (by kernel_rfl)
    (of_decide_eq_true (by kernel_rfl)) (by unfold Func.isWrapper; first | (rw [if_pos (by decide +kernel)]; kernel_rfl) | (rw [if_neg (by decide +kernel)]; exact ⟨rfl, rfl⟩))
    (fun os started H enc _ => BoreHeights_lifted os started H enc)
#print axioms boreHeights_holds

theorem BoreShows_all : ∀ avs, ArgsOk Try.prog Try.f9.params.toList avs → SoundAt Try.prog 9 avs (.x (.bool true)) := by
  intro avs h
  have hp : Try.f9.params.toList = [25, 26, 3, 4] := by kernel_rfl
  rw [hp] at h
  cases h with
  | cons h0 h =>
  cases h with
  | cons h1 h =>
  cases h with
  | cons h2 h =>
  cases h with
  | cons h3 h =>
  cases h
  obtain ⟨vs0, rfl, hv0⟩ := h0.agg (ks := [.int .i64, .int .i64, .int .i64, .int .i64]) (by kernel_rfl) (by kernel_rfl)
  obtain ⟨c, T, lo, hi, rfl, w_c, w_T, w_lo, w_hi⟩ := int4 hv0
  obtain ⟨n, f0, rfl, ⟨hm1, hz1⟩, hf1⟩ := h1.list (e := 47) (ks := [.int .i64, .int .i64, .int .i64, .int .i64]) (by kernel_rfl) (by kernel_rfl)
  have hF1 : isRec 4 n (fun k => (f0 k).map .x) := fun k hk => ints_rec (m := 4) (hf1 k hk)
  have hS1 : n * 32 ≤ 140737488351232 := by
    have h := hz1
    rw [show Try.prog.bytesOf 47 = 32 by kernel_rfl] at h
    exact h
  obtain ⟨v2, rfl, ⟨mk, rfl, w_mk⟩⟩ := h2.one (k := .int .i64) (by kernel_rfl) (by kernel_rfl)
  obtain ⟨v3, rfl, ⟨r, rfl⟩⟩ := h3.one (k := .bool) (by kernel_rfl) (by kernel_rfl)
  exact (BoreShows_at c T lo hi n (col 0 fun k => (f0 k).map .x) (col 1 fun k => (f0 k).map .x) (col 2 fun k => (f0 k).map .x) (col 3 fun k => (f0 k).map .x) mk r).same (.cons (.refl _) (.cons (.lst 4 n _ _ hF1) (.cons (.refl _) (.cons (.refl _) .nil))))
set_option maxRecDepth 100000 in
theorem BoreShows_lifted (os : Os) (started : os.Started) (H : Type) (enc : TypeId × Value → H) :
    ReturnsInHanded {} Try.checked os 9 .any (Rows.boreShowsSpec.pre6 enc Try.prog Try.f9 Rows.boreShowsRow.domain false) (Rows.boreShowsSpec.post enc Try.prog Try.f9 false true false false) := by
  refine returnsInHanded_of_change_sized (C := Try.checked) (show ownKnob Try.prog.godebug = none by kernel_rfl) started (by kernel_rfl) Try.func9
    (ChangeSpec.witness6 (enc := enc) (C := Try.checked) false ⟨#[], #[.agg #[.int .i64 0, .int .i64 0, .int .i64 0, .int .i64 0], .slice none 0 0, .int .i64 0, .bool false], []⟩ 8 (by kernel_rfl) (by kernel_rfl) (by kernel_rfl) (by kernel_rfl)) ?_
  intro W base args ds gs before hval0 hW _ hsz0 _
  have hval : ∀ (j : Nat) t v, Try.f9.params[j]? = some t → args[j]? = some v → Value.okWide Try.prog W .any base t v := hval0
  have hW' := hW
  obtain ⟨p, q, hA0, hV, rfl, _, _⟩ := hW
  have hA : DataW.TrodAll enc Try.prog W 0 (fun _ => true) true Try.f9.params.toList args.toList ds p := hA0
  obtain ⟨rfl, rfl⟩ := trodVars_none hV
  simp only [List.append_nil] at hW'
  have hz : ∀ q ∈ DataW.weightsEach Try.prog Try.f9.params.toList ds, q ≤ reachBytes := fun q hq => by
    have h0 : (DataW.weightsEach Try.prog (Try.f9.params.toList ++ []) (ds ++ [])).all (fun x => decide (x ≤ reachBytes)) = true := hsz0
    rw [List.append_nil, List.append_nil] at h0
    simpa using List.all_eq_true.1 h0 q hq
  refine (law_calls (P := Try.prog) (f := 9) (by kernel_rfl) (fun j t v ht hv => hval j t v (by simpa using ht) (by simpa using hv)) hA hz BoreShows_all).mono fun e W' ⟨he, hb⟩ => ?_
  subst he
  have hpar : Try.f9.params.toList = [25, 26, 3, 4] := by kernel_rfl
  have hA2 := hA
  rw [hpar] at hA2
  obtain ⟨v0, vs0, d0, r0, p0, q0, e0, rfl, rfl, _, hA2⟩ := trodAll_cons hA2
  obtain ⟨v1, vs1, d1, r1, p1, q1, e1, rfl, rfl, _, hA2⟩ := trodAll_cons hA2
  obtain ⟨v2, vs2, d2, r2, p2, q2, e2, rfl, rfl, _, hA2⟩ := trodAll_cons hA2
  obtain ⟨v3, vs3, d3, r3, p3, q3, e3, rfl, rfl, _, hA2⟩ := trodAll_cons hA2
  obtain rfl : r3 = [] := by
    cases vs3 <;> cases r3 <;> simp [DataW.TrodAll] at hA2 ⊢
  exact ⟨_, rfl, law_post (tb := 4) (show laidOutB Try.prog = true by kernel_rfl) (by kernel_rfl) (by kernel_rfl) (by kernel_rfl) rfl rfl rfl rfl hW' hA hb⟩
theorem boreShows_holds : Rows.BoreShowsSaid :=
  OpenClaim.holds_of_wide 9 Try.f9 rfl rfl rfl rfl rfl rfl rfl ⟨rfl, rfl, rfl, rfl, rfl⟩ rfl rfl rfl rfl rfl (by kernel_rfl) Try.func9 (by kernel_rfl)
    (of_decide_eq_true (by kernel_rfl)) (by unfold Func.isWrapper; first | (rw [if_pos (by decide +kernel)]; kernel_rfl) | (rw [if_neg (by decide +kernel)]; exact ⟨rfl, rfl⟩))
    (fun os started H enc _ => BoreShows_lifted os started H enc)
#print axioms boreShows_holds

theorem BoreNexts_all : ∀ avs, ArgsOk Try.prog Try.f3.params.toList avs → SoundAt Try.prog 3 avs (.x (.bool true)) := by
  intro avs h
  have hp : Try.f3.params.toList = [25, 26, 23] := by kernel_rfl
  rw [hp] at h
  cases h with
  | cons h0 h =>
  cases h with
  | cons h1 h =>
  cases h with
  | cons h2 h =>
  cases h
  obtain ⟨vs0, rfl, hv0⟩ := h0.agg (ks := [.int .i64, .int .i64, .int .i64, .int .i64]) (by kernel_rfl) (by kernel_rfl)
  obtain ⟨c, T, lo, hi, rfl, w_c, w_T, w_lo, w_hi⟩ := int4 hv0
  obtain ⟨n, f0, rfl, ⟨hm1, hz1⟩, hf1⟩ := h1.list (e := 47) (ks := [.int .i64, .int .i64, .int .i64, .int .i64]) (by kernel_rfl) (by kernel_rfl)
  have hF1 : isRec 4 n (fun k => (f0 k).map .x) := fun k hk => ints_rec (m := 4) (hf1 k hk)
  have hS1 : n * 32 ≤ 140737488351232 := by
    have h := hz1
    rw [show Try.prog.bytesOf 47 = 32 by kernel_rfl] at h
    exact h
  obtain ⟨vs2, rfl, hv2⟩ := h2.agg (ks := [.int .i64, .int .i64]) (by kernel_rfl) (by kernel_rfl)
  obtain ⟨p, q, rfl, w_p, w_q⟩ := int2 hv2
  exact (BoreNexts_at c T lo hi n (col 0 fun k => (f0 k).map .x) (col 1 fun k => (f0 k).map .x) (col 2 fun k => (f0 k).map .x) (col 3 fun k => (f0 k).map .x) p q).same (.cons (.refl _) (.cons (.lst 4 n _ _ hF1) (.cons (.refl _) .nil)))
set_option maxRecDepth 100000 in
theorem BoreNexts_lifted (os : Os) (started : os.Started) (H : Type) (enc : TypeId × Value → H) :
    ReturnsInHanded {} Try.checked os 3 .any (Rows.boreNextsSpec.pre6 enc Try.prog Try.f3 Rows.boreNextsRow.domain false) (Rows.boreNextsSpec.post enc Try.prog Try.f3 false true false false) := by
  refine returnsInHanded_of_change_sized (C := Try.checked) (show ownKnob Try.prog.godebug = none by kernel_rfl) started (by kernel_rfl) Try.func3
    (ChangeSpec.witness6 (enc := enc) (C := Try.checked) false ⟨#[], #[.agg #[.int .i64 0, .int .i64 0, .int .i64 0, .int .i64 0], .slice none 0 0, .agg #[.int .i64 0, .int .i64 0]], []⟩ 8 (by kernel_rfl) (by kernel_rfl) (by kernel_rfl) (by kernel_rfl)) ?_
  intro W base args ds gs before hval0 hW _ hsz0 _
  have hval : ∀ (j : Nat) t v, Try.f3.params[j]? = some t → args[j]? = some v → Value.okWide Try.prog W .any base t v := hval0
  have hW' := hW
  obtain ⟨p, q, hA0, hV, rfl, _, _⟩ := hW
  have hA : DataW.TrodAll enc Try.prog W 0 (fun _ => true) true Try.f3.params.toList args.toList ds p := hA0
  obtain ⟨rfl, rfl⟩ := trodVars_none hV
  simp only [List.append_nil] at hW'
  have hz : ∀ q ∈ DataW.weightsEach Try.prog Try.f3.params.toList ds, q ≤ reachBytes := fun q hq => by
    have h0 : (DataW.weightsEach Try.prog (Try.f3.params.toList ++ []) (ds ++ [])).all (fun x => decide (x ≤ reachBytes)) = true := hsz0
    rw [List.append_nil, List.append_nil] at h0
    simpa using List.all_eq_true.1 h0 q hq
  refine (law_calls (P := Try.prog) (f := 3) (by kernel_rfl) (fun j t v ht hv => hval j t v (by simpa using ht) (by simpa using hv)) hA hz BoreNexts_all).mono fun e W' ⟨he, hb⟩ => ?_
  subst he
  have hpar : Try.f3.params.toList = [25, 26, 23] := by kernel_rfl
  have hA2 := hA
  rw [hpar] at hA2
  obtain ⟨v0, vs0, d0, r0, p0, q0, e0, rfl, rfl, _, hA2⟩ := trodAll_cons hA2
  obtain ⟨v1, vs1, d1, r1, p1, q1, e1, rfl, rfl, _, hA2⟩ := trodAll_cons hA2
  obtain ⟨v2, vs2, d2, r2, p2, q2, e2, rfl, rfl, _, hA2⟩ := trodAll_cons hA2
  obtain rfl : r2 = [] := by
    cases vs2 <;> cases r2 <;> simp [DataW.TrodAll] at hA2 ⊢
  exact ⟨_, rfl, law_post (tb := 4) (show laidOutB Try.prog = true by kernel_rfl) (by kernel_rfl) (by kernel_rfl) (by kernel_rfl) rfl rfl rfl rfl hW' hA hb⟩
theorem boreNexts_holds : Rows.BoreNextsSaid :=
  OpenClaim.holds_of_wide 3 Try.f3 rfl rfl rfl rfl rfl rfl rfl ⟨rfl, rfl, rfl, rfl, rfl⟩ rfl rfl rfl rfl rfl (by kernel_rfl) Try.func3 (by kernel_rfl)
    (of_decide_eq_true (by kernel_rfl)) (by unfold Func.isWrapper; first | (rw [if_pos (by decide +kernel)]; kernel_rfl) | (rw [if_neg (by decide +kernel)]; exact ⟨rfl, rfl⟩))
    (fun os started H enc _ => BoreNexts_lifted os started H enc)
#print axioms boreNexts_holds

end Go.Proofs.Ytmdeoobmeokmeaa
