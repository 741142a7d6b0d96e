/- The law CertBest returns true for every list of instruments, every use and all numbers. Conditions: none. -/
import Derived.Test.YtlinbkmpkcmniaaGreatMo
set_option linter.unusedSimpArgs false
set_option linter.unusedVariables false
namespace Go.Proofs.YtlinbkmpkcmniaaGreat
open Go Go.Sx Go.RowKit Bo Go.ChangeShapes Go.WideShapes Go.ChangeAt
theorem CertBest_all : ∀ avs, ArgsOk Tryz.prog Tryz.f14.params.toList avs → SoundAt Tryz.prog 14 avs (.x (.bool true)) := by
  intro avs h
  have hp : Tryz.f14.params.toList = [107, 62, 63, 63, 5] := by kernel_rfl
  rw [hp] at h
  cases h with
  | cons h0 h =>
  cases h with
  | cons h1 h =>
  cases h with
  | cons h2 h =>
  cases h with
  | cons h3 h =>
  cases h with
  | cons h4 h =>
  cases h
  obtain ⟨N, f, rfl, ⟨hm0, hz0⟩, hf0⟩ := h0.mixes (e := 31) (ms := [.sc (.int .i64), .sc (.int .i64), .sc (.int .i64), .sc (.int .i64), .sl 26 99 [.int .i64, .int .i64, .int .i64, .int .i64], .sl 27 81 [.int .i64, .int .i64], .sc (.int .i64), .sc (.int .i64), .sc (.int .i64), .sc (.int .i64)]) (by kernel_rfl) (by kernel_rfl) (by kernel_rfl)
  have hI0 : isInsL N f := fun k hk => by
    have hc_0 := hf0 k hk
    obtain ⟨L, hL⟩ : ∃ L, L = f k := ⟨_, rfl⟩
    rw [← hL] at hc_0
    obtain ⟨_, _, rfl, q0, hc_1⟩ := hc_0.cons
    obtain ⟨c1, rfl, w_c1⟩ := cellI q0
    obtain ⟨_, _, rfl, q1, hc_2⟩ := hc_1.cons
    obtain ⟨c2, rfl, w_c2⟩ := cellI q1
    obtain ⟨_, _, rfl, q2, hc_3⟩ := hc_2.cons
    obtain ⟨c3, rfl, w_c3⟩ := cellI q2
    obtain ⟨_, _, rfl, q3, hc_4⟩ := hc_3.cons
    obtain ⟨c4, rfl, w_c4⟩ := cellI q3
    obtain ⟨_, _, rfl, q4, hc_5⟩ := hc_4.cons
    obtain ⟨n4, f40, rfl, hm_n4, hf_f4⟩ := cellS q4
    have hF_f4 : isRec 4 n4 (fun k => (f40 k).map .x) := fun k hk => ints_rec (m := 4) (hf_f4 k hk)
    obtain ⟨_, _, rfl, q5, hc_6⟩ := hc_5.cons
    obtain ⟨n5, f50, rfl, hm_n5, hf_f5⟩ := cellS q5
    have hF_f5 : isRec 2 n5 (fun k => (f50 k).map .x) := fun k hk => ints_rec (m := 2) (hf_f5 k hk)
    obtain ⟨_, _, rfl, q6, hc_7⟩ := hc_6.cons
    obtain ⟨c6, rfl, w_c6⟩ := cellI q6
    obtain ⟨_, _, rfl, q7, hc_8⟩ := hc_7.cons
    obtain ⟨c7, rfl, w_c7⟩ := cellI q7
    obtain ⟨_, _, rfl, q8, hc_9⟩ := hc_8.cons
    obtain ⟨c8, rfl, w_c8⟩ := cellI q8
    obtain ⟨_, _, rfl, q9, hc_10⟩ := hc_9.cons
    obtain ⟨c9, rfl, w_c9⟩ := cellI q9
    obtain rfl := hc_10.nil
    exact insl_mk hL.symm hF_f4 hF_f5
  obtain ⟨vs1, rfl, hv1⟩ := h1.agg (ks := [.int .i64, .int .i64, .int .i64]) (by kernel_rfl) (by kernel_rfl)
  obtain ⟨u0, u1, wi, rfl, w_u0, w_u1, w_wi⟩ := int3 hv1
  obtain ⟨v2, rfl, ⟨day, rfl, w_day⟩⟩ := h2.one (k := .int .u16) (by kernel_rfl) (by kernel_rfl)
  obtain ⟨v3, rfl, ⟨later, rfl, w_later⟩⟩ := h3.one (k := .int .u16) (by kernel_rfl) (by kernel_rfl)
  obtain ⟨v4, rfl, ⟨wh, rfl, w_wh⟩⟩ := h4.one (k := .int .u8) (by kernel_rfl) (by kernel_rfl)
  have hb_day : 0 ≤ day ∧ day ≤ 65535 := by
    have h : IntKind.u16.min ≤ day ∧ day ≤ IntKind.u16.max := by simpa [Lit.wf] using w_day
    exact h
  have hb_later : 0 ≤ later ∧ later ≤ 65535 := by
    have h : IntKind.u16.min ≤ later ∧ later ≤ IntKind.u16.max := by simpa [Lit.wf] using w_later
    exact h
  have hb_wh : 0 ≤ wh ∧ wh ≤ 255 := by
    have h : IntKind.u8.min ≤ wh ∧ wh ≤ IntKind.u8.max := by simpa [Lit.wf] using w_wh
    exact h
  exact (CertBest_at N (col 0 f) (col 1 f) (col 2 f) (col 3 f) (nA 4 f) (fA 4 f) (nA 5 f) (fA 5 f) (col 6 f) (col 7 f) (col 8 f) (col 9 f) u0 u1 wi day later wh (day.tmod 10001) (btX N (col 0 f) (col 1 f) (col 2 f) (col 3 f) (nA 4 f) (fA 4 f) (nA 5 f) (fA 5 f) (col 6 f) (col 7 f) (col 8 f) (col 9 f) u0 u1 wi (day.tmod 10001)) (btE N (col 0 f) (col 1 f) (col 2 f) (col 3 f) (nA 4 f) (fA 4 f) (nA 5 f) (fA 5 f) (col 6 f) (col 7 f) (col 8 f) (col 9 f) u0 u1 wi (day.tmod 10001)) (btW N (col 0 f) (col 1 f) (col 2 f) (col 3 f) (nA 4 f) (fA 4 f) (nA 5 f) (fA 5 f) (col 6 f) (col 7 f) (col 8 f) (col 9 f) u0 u1 wi (day.tmod 10001)).toNat (wh.tmod N).toNat (fun k hk => (hI0 k hk).2) hb_day hb_later hb_wh rfl (btW_nn _ _ _ _ _ _ _ _ _ _ _ _ _ _ _ _ _) rfl rfl (Int.toNat_of_nonneg (Int.tmod_nonneg _ hb_wh.1)).symm).same (.cons (.lst 10 N _ _ fun k hk => (hI0 k hk).1) (.cons (.refl _) (.cons (.refl _) (.cons (.refl _) (.cons (.refl _) .nil)))))
set_option maxRecDepth 100000 in
theorem CertBest_lifted (os : Os) (started : os.Started) (H : Type) (enc : TypeId × Value → H) :
    ReturnsInHanded {} Tryz.checked os 14 .any (Rows.certBestSpec.pre6 enc Tryz.prog Tryz.f14 Rows.certBestRow.domain false) (Rows.certBestSpec.post enc Tryz.prog Tryz.f14 false true false false) := by
  refine returnsInHanded_of_change_sized (C := Tryz.checked) (show ownKnob Tryz.prog.godebug = none by kernel_rfl) started (by kernel_rfl) Tryz.func14
    (ChangeSpec.witness6 (enc := enc) (C := Tryz.checked) false ⟨#[], #[.slice none 0 0, .agg #[.int .i64 0, .int .i64 0, .int .i64 0], .int .u16 0, .int .u16 0, .int .u8 0], []⟩ 8 (by kernel_rfl) (by kernel_rfl) (by kernel_rfl) (by kernel_rfl)) ?_
  intro W base args ds gs before hval0 hW _ hsz0 _
  have hval : ∀ (j : Nat) t v, Tryz.f14.params[j]? = some t → args[j]? = some v → Value.okWide Tryz.prog W .any base t v := hval0
  have hW' := hW
  obtain ⟨p, q, hA0, hV, rfl, _, _⟩ := hW
  have hA : DataW.TrodAll enc Tryz.prog W 0 (fun _ => true) true Tryz.f14.params.toList args.toList ds p := hA0
  obtain ⟨rfl, rfl⟩ := trodVars_none hV
  simp only [List.append_nil] at hW'
  have hz : ∀ q ∈ DataW.weightsEach Tryz.prog Tryz.f14.params.toList ds, q ≤ reachBytes := fun q hq => by
    have h0 : (DataW.weightsEach Tryz.prog (Tryz.f14.params.toList ++ []) (ds ++ [])).all (fun x => decide (x ≤ reachBytes)) = true := hsz0
    rw [List.append_nil, List.append_nil] at h0
    simpa using List.all_eq_true.1 h0 q hq
  refine (law_calls (P := Tryz.prog) (f := 14) (by kernel_rfl) (fun j t v ht hv => hval j t v (by simpa using ht) (by simpa using hv)) hA hz CertBest_all).mono fun e W' ⟨he, hb⟩ => ?_
  subst he
  have hpar : Tryz.f14.params.toList = [107, 62, 63, 63, 5] := by kernel_rfl
  have hA2 := hA
  rw [hpar] at hA2
  obtain ⟨v0, vs0, d0, r0, p0, q0, e0, rfl, rfl, _, hA2⟩ := trodAll_cons hA2
  obtain ⟨v1, vs1, d1, r1, p1, q1, e1, rfl, rfl, _, hA2⟩ := trodAll_cons hA2
  obtain ⟨v2, vs2, d2, r2, p2, q2, e2, rfl, rfl, _, hA2⟩ := trodAll_cons hA2
  obtain ⟨v3, vs3, d3, r3, p3, q3, e3, rfl, rfl, _, hA2⟩ := trodAll_cons hA2
  obtain ⟨v4, vs4, d4, r4, p4, q4, e4, rfl, rfl, _, hA2⟩ := trodAll_cons hA2
  obtain rfl : r4 = [] := by
    cases vs4 <;> cases r4 <;> simp [DataW.TrodAll] at hA2 ⊢
  exact ⟨_, rfl, law_post (tb := 4) (show laidOutB Tryz.prog = true by kernel_rfl) (by kernel_rfl) (by kernel_rfl) (by kernel_rfl) rfl rfl rfl rfl hW' hA hb⟩
theorem certBest_holds : Rows.CertBestSaid :=
  OpenClaim.holds_of_wide 14 Tryz.f14 rfl rfl rfl rfl rfl rfl rfl ⟨rfl, rfl, rfl, rfl, rfl⟩ rfl rfl rfl rfl rfl (by kernel_rfl) Tryz.func14 (by kernel_rfl)
    (of_decide_eq_true (by kernel_rfl)) (by unfold Func.isWrapper; first | (rw [if_pos (by decide +kernel)]; kernel_rfl) | (rw [if_neg (by decide +kernel)]; exact ⟨rfl, rfl⟩))
    (fun os started H enc _ => CertBest_lifted os started H enc)
#print axioms certBest_holds

end Go.Proofs.YtlinbkmpkcmniaaGreat
