/- The law CertBests returns true for every list of instruments, every use and every day. Conditions: none. -/
import Derived.Test.YtlinbkmpkcmniaaGreatMo
set_option linter.unusedSimpArgs false
set_option linter.unusedVariables false
namespace Go.Proofs.YtlinbkmpkcmniaaGreat
open Go Go.Sx Go.RowKit Bo Go.ChangeShapes Go.WideShapes Go.ChangeAt
theorem CertBests_all : ∀ avs, ArgsOk Tryz.prog Tryz.f13.params.toList avs → SoundAt Tryz.prog 13 avs (.x (.bool true)) := by
  intro avs h
  have hp : Tryz.f13.params.toList = [107, 62, 3] := by kernel_rfl
  rw [hp] at h
  cases h with
  | cons h0 h =>
  cases h with
  | cons h1 h =>
  cases h with
  | cons h2 h =>
  cases h
  obtain ⟨N, f, rfl, ⟨hm0, hz0⟩, hf0⟩ := h0.mixes (e := 31) (ms := [.sc (.int .i64), .sc (.int .i64), .sc (.int .i64), .sc (.int .i64), .sl 26 99 [.int .i64, .int .i64, .int .i64, .int .i64], .sl 27 81 [.int .i64, .int .i64], .sc (.int .i64), .sc (.int .i64), .sc (.int .i64), .sc (.int .i64)]) (by kernel_rfl) (by kernel_rfl) (by kernel_rfl)
  have hI0 : isInsL N f := fun k hk => by
    have hc_0 := hf0 k hk
    obtain ⟨L, hL⟩ : ∃ L, L = f k := ⟨_, rfl⟩
    rw [← hL] at hc_0
    obtain ⟨_, _, rfl, q0, hc_1⟩ := hc_0.cons
    obtain ⟨c1, rfl, w_c1⟩ := cellI q0
    obtain ⟨_, _, rfl, q1, hc_2⟩ := hc_1.cons
    obtain ⟨c2, rfl, w_c2⟩ := cellI q1
    obtain ⟨_, _, rfl, q2, hc_3⟩ := hc_2.cons
    obtain ⟨c3, rfl, w_c3⟩ := cellI q2
    obtain ⟨_, _, rfl, q3, hc_4⟩ := hc_3.cons
    obtain ⟨c4, rfl, w_c4⟩ := cellI q3
    obtain ⟨_, _, rfl, q4, hc_5⟩ := hc_4.cons
    obtain ⟨n4, f40, rfl, hm_n4, hf_f4⟩ := cellS q4
    have hF_f4 : isRec 4 n4 (fun k => (f40 k).map .x) := fun k hk => ints_rec (m := 4) (hf_f4 k hk)
    obtain ⟨_, _, rfl, q5, hc_6⟩ := hc_5.cons
    obtain ⟨n5, f50, rfl, hm_n5, hf_f5⟩ := cellS q5
    have hF_f5 : isRec 2 n5 (fun k => (f50 k).map .x) := fun k hk => ints_rec (m := 2) (hf_f5 k hk)
    obtain ⟨_, _, rfl, q6, hc_7⟩ := hc_6.cons
    obtain ⟨c6, rfl, w_c6⟩ := cellI q6
    obtain ⟨_, _, rfl, q7, hc_8⟩ := hc_7.cons
    obtain ⟨c7, rfl, w_c7⟩ := cellI q7
    obtain ⟨_, _, rfl, q8, hc_9⟩ := hc_8.cons
    obtain ⟨c8, rfl, w_c8⟩ := cellI q8
    obtain ⟨_, _, rfl, q9, hc_10⟩ := hc_9.cons
    obtain ⟨c9, rfl, w_c9⟩ := cellI q9
    obtain rfl := hc_10.nil
    exact insl_mk hL.symm hF_f4 hF_f5
  obtain ⟨vs1, rfl, hv1⟩ := h1.agg (ks := [.int .i64, .int .i64, .int .i64]) (by kernel_rfl) (by kernel_rfl)
  obtain ⟨u0, u1, wi, rfl, w_u0, w_u1, w_wi⟩ := int3 hv1
  obtain ⟨v2, rfl, ⟨day, rfl, w_day⟩⟩ := h2.one (k := .int .i64) (by kernel_rfl) (by kernel_rfl)
  exact (CertBests_at N (col 0 f) (col 1 f) (col 2 f) (col 3 f) (nA 4 f) (fA 4 f) (nA 5 f) (fA 5 f) (col 6 f) (col 7 f) (col 8 f) (col 9 f) u0 u1 wi day (fun k hk => (hI0 k hk).2)).same (.cons (.lst 10 N _ _ fun k hk => (hI0 k hk).1) (.cons (.refl _) (.cons (.refl _) .nil)))
set_option maxRecDepth 100000 in
theorem CertBests_lifted (os : Os) (started : os.Started) (H : Type) (enc : TypeId × Value → H) :
    ReturnsInHanded {} Tryz.checked os 13 .any (Rows.certBestsSpec.pre6 enc Tryz.prog Tryz.f13 Rows.certBestsRow.domain false) (Rows.certBestsSpec.post enc Tryz.prog Tryz.f13 false true false false) := by
  refine returnsInHanded_of_change_sized (C := Tryz.checked) (show ownKnob Tryz.prog.godebug = none by kernel_rfl) started (by kernel_rfl) Tryz.func13
    (ChangeSpec.witness6 (enc := enc) (C := Tryz.checked) false ⟨#[], #[.slice none 0 0, .agg #[.int .i64 0, .int .i64 0, .int .i64 0], .int .i64 0], []⟩ 8 (by kernel_rfl) (by kernel_rfl) (by kernel_rfl) (by kernel_rfl)) ?_
  intro W base args ds gs before hval0 hW _ hsz0 _
  have hval : ∀ (j : Nat) t v, Tryz.f13.params[j]? = some t → args[j]? = some v → Value.okWide Tryz.prog W .any base t v := hval0
  have hW' := hW
  obtain ⟨p, q, hA0, hV, rfl, _, _⟩ := hW
  have hA : DataW.TrodAll enc Tryz.prog W 0 (fun _ => true) true Tryz.f13.params.toList args.toList ds p := hA0
  obtain ⟨rfl, rfl⟩ := trodVars_none hV
  simp only [List.append_nil] at hW'
  have hz : ∀ q ∈ DataW.weightsEach Tryz.prog Tryz.f13.params.toList ds, q ≤ reachBytes := fun q hq => by
    have h0 : (DataW.weightsEach Tryz.prog (Tryz.f13.params.toList ++ []) (ds ++ [])).all (fun x => decide (x ≤ reachBytes)) = true := hsz0
    rw [List.append_nil, List.append_nil] at h0
    simpa using List.all_eq_true.1 h0 q hq
  refine (law_calls (P := Tryz.prog) (f := 13) (by kernel_rfl) (fun j t v ht hv => hval j t v (by simpa using ht) (by simpa using hv)) hA hz CertBests_all).mono fun e W' ⟨he, hb⟩ => ?_
  subst he
  have hpar : Tryz.f13.params.toList = [107, 62, 3] := by kernel_rfl
  have hA2 := hA
  rw [hpar] at hA2
  obtain ⟨v0, vs0, d0, r0, p0, q0, e0, rfl, rfl, _, hA2⟩ := trodAll_cons hA2
  obtain ⟨v1, vs1, d1, r1, p1, q1, e1, rfl, rfl, _, hA2⟩ := trodAll_cons hA2
  obtain ⟨v2, vs2, d2, r2, p2, q2, e2, rfl, rfl, _, hA2⟩ := trodAll_cons hA2
  obtain rfl : r2 = [] := by
    cases vs2 <;> cases r2 <;> simp [DataW.TrodAll] at hA2 ⊢
  exact ⟨_, rfl, law_post (tb := 4) (show laidOutB Tryz.prog = true by kernel_rfl) (by kernel_rfl) (by kernel_rfl) (by kernel_rfl) rfl rfl rfl rfl hW' hA hb⟩
theorem certBests_holds : Rows.CertBestsSaid :=
  OpenClaim.holds_of_wide 13 Tryz.f13 rfl rfl rfl rfl rfl rfl rfl ⟨rfl, rfl, rfl, rfl, rfl⟩ rfl rfl rfl rfl rfl (by kernel_rfl) Tryz.func13 (by kernel_rfl)
    (of_decide_eq_true (by kernel_rfl)) (by unfold Func.isWrapper; first | (rw [if_pos (by decide +kernel)]; kernel_rfl) | (rw [if_neg (by decide +kernel)]; exact ⟨rfl, rfl⟩))
    (fun os started H enc _ => CertBests_lifted os started H enc)
#print axioms certBests_holds

end Go.Proofs.YtlinbkmpkcmniaaGreat
