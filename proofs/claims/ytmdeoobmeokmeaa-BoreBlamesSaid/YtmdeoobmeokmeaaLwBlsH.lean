/- The law BoreBlames returns true for every tube and all readings. Conditions: none. -/
import Derived.Test.YtmdeoobmeokmeaaMm
set_option linter.unusedSimpArgs false
set_option linter.unusedVariables false
namespace Go.Proofs.Ytmdeoobmeokmeaa
open Go Go.Sx Go.RowKit Go.ChangeShapes Go.WideShapes Go.ChangeAt
theorem BoreBlames_all : ∀ avs, ArgsOk Try.prog Try.f14.params.toList avs → SoundAt Try.prog 14 avs (.x (.bool true)) := by
  intro avs h
  have hp : Try.f14.params.toList = [25, 26] := by kernel_rfl
  rw [hp] at h
  cases h with
  | cons h0 h =>
  cases h with
  | cons h1 h =>
  cases h
  obtain ⟨vs0, rfl, hv0⟩ := h0.agg (ks := [.int .i64, .int .i64, .int .i64, .int .i64]) (by kernel_rfl) (by kernel_rfl)
  obtain ⟨c, T, lo, hi, rfl, w_c, w_T, w_lo, w_hi⟩ := int4 hv0
  obtain ⟨n, f0, rfl, ⟨hm1, hz1⟩, hf1⟩ := h1.list (e := 47) (ks := [.int .i64, .int .i64, .int .i64, .int .i64]) (by kernel_rfl) (by kernel_rfl)
  have hF1 : isRec 4 n (fun k => (f0 k).map .x) := fun k hk => ints_rec (m := 4) (hf1 k hk)
  have hS1 : n * 32 ≤ 140737488351232 := by
    have h := hz1
    rw [show Try.prog.bytesOf 47 = 32 by kernel_rfl] at h
    exact h
  exact (BoreBlames_at c T lo hi n (col 0 fun k => (f0 k).map .x) (col 1 fun k => (f0 k).map .x) (col 2 fun k => (f0 k).map .x) (col 3 fun k => (f0 k).map .x)).same (.cons (.refl _) (.cons (.lst 4 n _ _ hF1) .nil))
set_option maxRecDepth 100000 in
theorem BoreBlames_lifted (os : Os) (started : os.Started) (H : Type) (enc : TypeId × Value → H) :
    ReturnsInHanded {} Try.checked os 14 .any (Rows.boreBlamesSpec.pre6 enc Try.prog Try.f14 Rows.boreBlamesRow.domain false) (Rows.boreBlamesSpec.post enc Try.prog Try.f14 false true false false) := by
  refine returnsInHanded_of_change_sized (C := Try.checked) (show ownKnob Try.prog.godebug = none by kernel_rfl) started (by kernel_rfl) Try.func14
    (ChangeSpec.witness6 (enc := enc) (C := Try.checked) false ⟨#[], #[.agg #[.int .i64 0, .int .i64 0, .int .i64 0, .int .i64 0], .slice none 0 0], []⟩ 8 (by kernel_rfl) (by kernel_rfl) (by kernel_rfl) (by kernel_rfl)) ?_
  intro W base args ds gs before hval0 hW _ hsz0 _
  have hval : ∀ (j : Nat) t v, Try.f14.params[j]? = some t → args[j]? = some v → Value.okWide Try.prog W .any base t v := hval0
  have hW' := hW
  obtain ⟨p, q, hA0, hV, rfl, _, _⟩ := hW
  have hA : DataW.TrodAll enc Try.prog W 0 (fun _ => true) true Try.f14.params.toList args.toList ds p := hA0
  obtain ⟨rfl, rfl⟩ := trodVars_none hV
  simp only [List.append_nil] at hW'
  have hz : ∀ q ∈ DataW.weightsEach Try.prog Try.f14.params.toList ds, q ≤ reachBytes := fun q hq => by
    have h0 : (DataW.weightsEach Try.prog (Try.f14.params.toList ++ []) (ds ++ [])).all (fun x => decide (x ≤ reachBytes)) = true := hsz0
    rw [List.append_nil, List.append_nil] at h0
    simpa using List.all_eq_true.1 h0 q hq
  refine (law_calls (P := Try.prog) (f := 14) (by kernel_rfl) (fun j t v ht hv => hval j t v (by simpa using ht) (by simpa using hv)) hA hz BoreBlames_all).mono fun e W' ⟨he, hb⟩ => ?_
  subst he
  have hpar : Try.f14.params.toList = [25, 26] := by kernel_rfl
  have hA2 := hA
  rw [hpar] at hA2
  obtain ⟨v0, vs0, d0, r0, p0, q0, e0, rfl, rfl, _, hA2⟩ := trodAll_cons hA2
  obtain ⟨v1, vs1, d1, r1, p1, q1, e1, rfl, rfl, _, hA2⟩ := trodAll_cons hA2
  obtain rfl : r1 = [] := by
    cases vs1 <;> cases r1 <;> simp [DataW.TrodAll] at hA2 ⊢
  exact ⟨_, rfl, law_post (tb := 4) (show laidOutB Try.prog = true by kernel_rfl) (by kernel_rfl) (by kernel_rfl) (by kernel_rfl) rfl rfl rfl rfl hW' hA hb⟩
theorem boreBlames_holds : Rows.BoreBlamesSaid :=
  OpenClaim.holds_of_wide 14 Try.f14 rfl rfl rfl rfl rfl rfl rfl ⟨rfl, rfl, rfl, rfl, rfl⟩ rfl rfl rfl rfl rfl (by kernel_rfl) Try.func14 (by kernel_rfl)
    (of_decide_eq_true (by kernel_rfl)) (by unfold Func.isWrapper; first | (rw [if_pos (by decide +kernel)]; kernel_rfl) | (rw [if_neg (by decide +kernel)]; exact ⟨rfl, rfl⟩))
    (fun os started H enc _ => BoreBlames_lifted os started H enc)
#print axioms boreBlames_holds

end Go.Proofs.Ytmdeoobmeokmeaa
