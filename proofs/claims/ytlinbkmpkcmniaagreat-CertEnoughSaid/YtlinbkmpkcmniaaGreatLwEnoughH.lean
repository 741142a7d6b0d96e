/- The law CertEnough returns true for every instrument, all words, every use, every day and all bits. Conditions: none. -/
import Derived.Test.YtlinbkmpkcmniaaGreatMo
set_option linter.unusedSimpArgs false
set_option linter.unusedVariables false
namespace Go.Proofs.YtlinbkmpkcmniaaGreat
open Go Go.Sx Go.RowKit Bo Go.ChangeShapes Go.WideShapes Go.ChangeAt
theorem CertEnough_all : ∀ avs, ArgsOk Tryz.prog Tryz.f16.params.toList avs → SoundAt Tryz.prog 16 avs (.x (.bool true)) := by
  intro avs h
  have hp : Tryz.f16.params.toList = [31, 60, 60, 62, 63, 63] := by kernel_rfl
  rw [hp] at h
  cases h with
  | cons h0 h =>
  cases h with
  | cons h1 h =>
  cases h with
  | cons h2 h =>
  cases h with
  | cons h3 h =>
  cases h with
  | cons h4 h =>
  cases h with
  | cons h5 h =>
  cases h
  obtain ⟨li0, rfl, hc0_0⟩ := h0.mix (ms := [.sc (.int .i64), .sc (.int .i64), .sc (.int .i64), .sc (.int .i64), .sl 26 99 [.int .i64, .int .i64, .int .i64, .int .i64], .sl 27 81 [.int .i64, .int .i64], .sc (.int .i64), .sc (.int .i64), .sc (.int .i64), .sc (.int .i64)]) (by kernel_rfl) (by kernel_rfl) (by kernel_rfl)
  obtain ⟨_, _, rfl, q0_0, hc0_1⟩ := hc0_0.cons
  obtain ⟨c, rfl, w_c⟩ := cellI q0_0
  obtain ⟨_, _, rfl, q0_1, hc0_2⟩ := hc0_1.cons
  obtain ⟨T, rfl, w_T⟩ := cellI q0_1
  obtain ⟨_, _, rfl, q0_2, hc0_3⟩ := hc0_2.cons
  obtain ⟨lo, rfl, w_lo⟩ := cellI q0_2
  obtain ⟨_, _, rfl, q0_3, hc0_4⟩ := hc0_3.cons
  obtain ⟨hi, rfl, w_hi⟩ := cellI q0_3
  obtain ⟨_, _, rfl, q0_4, hc0_5⟩ := hc0_4.cons
  obtain ⟨n, f0, rfl, hm_n, hf_f⟩ := cellS q0_4
  have hF_f : isRec 4 n (fun k => (f0 k).map .x) := fun k hk => ints_rec (m := 4) (hf_f k hk)
  obtain ⟨_, _, rfl, q0_5, hc0_6⟩ := hc0_5.cons
  obtain ⟨m, g0, rfl, hm_m, hf_g⟩ := cellS q0_5
  have hF_g : isRec 2 m (fun k => (g0 k).map .x) := fun k hk => ints_rec (m := 2) (hf_g k hk)
  obtain ⟨_, _, rfl, q0_6, hc0_7⟩ := hc0_6.cons
  obtain ⟨pl, rfl, w_pl⟩ := cellI q0_6
  obtain ⟨_, _, rfl, q0_7, hc0_8⟩ := hc0_7.cons
  obtain ⟨ph, rfl, w_ph⟩ := cellI q0_7
  obtain ⟨_, _, rfl, q0_8, hc0_9⟩ := hc0_8.cons
  obtain ⟨dl, rfl, w_dl⟩ := cellI q0_8
  obtain ⟨_, _, rfl, q0_9, hc0_10⟩ := hc0_9.cons
  obtain ⟨dh, rfl, w_dh⟩ := cellI q0_9
  obtain rfl := hc0_10.nil
  obtain ⟨nw, w0, rfl, ⟨hm1, _⟩, hf1⟩ := h1.list (e := 63) (ks := [.int .u16]) (by kernel_rfl) (by kernel_rfl)
  have hF1 : isW nw (fun k => (w0 k).map .x) ∧ wOk nw (fun j => wAt ((fun k => (w0 k).map .x) j)) := words_w hf1
  have hM1 : nw ≤ 10000000000000000000 := Nat.le_trans hm1 (by decide)
  obtain ⟨nz, z0, rfl, ⟨hm2, _⟩, hf2⟩ := h2.list (e := 63) (ks := [.int .u16]) (by kernel_rfl) (by kernel_rfl)
  have hF2 : isW nz (fun k => (z0 k).map .x) ∧ wOk nz (fun j => wAt ((fun k => (z0 k).map .x) j)) := words_w hf2
  have hM2 : nz ≤ 10000000000000000000 := Nat.le_trans hm2 (by decide)
  obtain ⟨vs3, rfl, hv3⟩ := h3.agg (ks := [.int .i64, .int .i64, .int .i64]) (by kernel_rfl) (by kernel_rfl)
  obtain ⟨u0, u1, wi, rfl, w_u0, w_u1, w_wi⟩ := int3 hv3
  obtain ⟨v4, rfl, ⟨day, rfl, w_day⟩⟩ := h4.one (k := .int .u16) (by kernel_rfl) (by kernel_rfl)
  obtain ⟨v5, rfl, ⟨bits, rfl, w_bits⟩⟩ := h5.one (k := .int .u16) (by kernel_rfl) (by kernel_rfl)
  have hb_day : 0 ≤ day ∧ day ≤ 65535 := by
    have h : IntKind.u16.min ≤ day ∧ day ≤ IntKind.u16.max := by simpa [Lit.wf] using w_day
    exact h
  have hb_bits : 0 ≤ bits ∧ bits ≤ 65535 := by
    have h : IntKind.u16.min ≤ bits ∧ bits ≤ IntKind.u16.max := by simpa [Lit.wf] using w_bits
    exact h
  exact (CertEnough_at c T lo hi n (col 0 fun k => (f0 k).map .x) (col 1 fun k => (f0 k).map .x) (col 2 fun k => (f0 k).map .x) (col 3 fun k => (f0 k).map .x) m (Pt.col 0 fun k => (g0 k).map .x) (Pt.col 1 fun k => (g0 k).map .x) pl ph dl dh nw (fun j => wAt ((w0 j).map AV.x)) nz (fun j => wAt ((z0 j).map AV.x)) u0 u1 wi day bits _ _ _ _ _ _ _ _ hM1 hF1.2 hM2 hF2.2 hb_day hb_bits rfl rfl rfl rfl rfl rfl rfl rfl).same (.cons (Sames.same (.cons (.refl _) (.cons (.refl _) (.cons (.refl _) (.cons (.refl _) (.cons (.lst 4 _ _ _ hF_f) (.cons (.lst 2 _ _ _ hF_g) (.cons (.refl _) (.cons (.refl _) (.cons (.refl _) (.cons (.refl _) .nil))))))))))) (.cons (.lst 1 nw _ _ hF1.1) (.cons (.lst 1 nz _ _ hF2.1) (.cons (.refl _) (.cons (.refl _) (.cons (.refl _) .nil))))))
set_option maxRecDepth 100000 in
theorem CertEnough_lifted (os : Os) (started : os.Started) (H : Type) (enc : TypeId × Value → H) :
    ReturnsInHanded {} Tryz.checked os 16 .any (Rows.certEnoughSpec.pre6 enc Tryz.prog Tryz.f16 Rows.certEnoughRow.domain false) (Rows.certEnoughSpec.post enc Tryz.prog Tryz.f16 false true false false) := by
  refine returnsInHanded_of_change_sized (C := Tryz.checked) (show ownKnob Tryz.prog.godebug = none by kernel_rfl) started (by kernel_rfl) Tryz.func16
    (ChangeSpec.witness6 (enc := enc) (C := Tryz.checked) false ⟨#[], #[.agg #[.int .i64 0, .int .i64 0, .int .i64 0, .int .i64 0, .slice none 0 0, .slice none 0 0, .int .i64 0, .int .i64 0, .int .i64 0, .int .i64 0], .slice none 0 0, .slice none 0 0, .agg #[.int .i64 0, .int .i64 0, .int .i64 0], .int .u16 0, .int .u16 0], []⟩ 8 (by kernel_rfl) (by kernel_rfl) (by kernel_rfl) (by kernel_rfl)) ?_
  intro W base args ds gs before hval0 hW _ hsz0 _
  have hval : ∀ (j : Nat) t v, Tryz.f16.params[j]? = some t → args[j]? = some v → Value.okWide Tryz.prog W .any base t v := hval0
  have hW' := hW
  obtain ⟨p, q, hA0, hV, rfl, _, _⟩ := hW
  have hA : DataW.TrodAll enc Tryz.prog W 0 (fun _ => true) true Tryz.f16.params.toList args.toList ds p := hA0
  obtain ⟨rfl, rfl⟩ := trodVars_none hV
  simp only [List.append_nil] at hW'
  have hz : ∀ q ∈ DataW.weightsEach Tryz.prog Tryz.f16.params.toList ds, q ≤ reachBytes := fun q hq => by
    have h0 : (DataW.weightsEach Tryz.prog (Tryz.f16.params.toList ++ []) (ds ++ [])).all (fun x => decide (x ≤ reachBytes)) = true := hsz0
    rw [List.append_nil, List.append_nil] at h0
    simpa using List.all_eq_true.1 h0 q hq
  refine (law_calls (P := Tryz.prog) (f := 16) (by kernel_rfl) (fun j t v ht hv => hval j t v (by simpa using ht) (by simpa using hv)) hA hz CertEnough_all).mono fun e W' ⟨he, hb⟩ => ?_
  subst he
  have hpar : Tryz.f16.params.toList = [31, 60, 60, 62, 63, 63] := by kernel_rfl
  have hA2 := hA
  rw [hpar] at hA2
  obtain ⟨v0, vs0, d0, r0, p0, q0, e0, rfl, rfl, _, hA2⟩ := trodAll_cons hA2
  obtain ⟨v1, vs1, d1, r1, p1, q1, e1, rfl, rfl, _, hA2⟩ := trodAll_cons hA2
  obtain ⟨v2, vs2, d2, r2, p2, q2, e2, rfl, rfl, _, hA2⟩ := trodAll_cons hA2
  obtain ⟨v3, vs3, d3, r3, p3, q3, e3, rfl, rfl, _, hA2⟩ := trodAll_cons hA2
  obtain ⟨v4, vs4, d4, r4, p4, q4, e4, rfl, rfl, _, hA2⟩ := trodAll_cons hA2
  obtain ⟨v5, vs5, d5, r5, p5, q5, e5, rfl, rfl, _, hA2⟩ := trodAll_cons hA2
  obtain rfl : r5 = [] := by
    cases vs5 <;> cases r5 <;> simp [DataW.TrodAll] at hA2 ⊢
  exact ⟨_, rfl, law_post (tb := 4) (show laidOutB Tryz.prog = true by kernel_rfl) (by kernel_rfl) (by kernel_rfl) (by kernel_rfl) rfl rfl rfl rfl hW' hA hb⟩
theorem certEnough_holds : Rows.CertEnoughSaid :=
  OpenClaim.holds_of_wide 16 Tryz.f16 rfl rfl rfl rfl rfl rfl rfl ⟨rfl, rfl, rfl, rfl, rfl⟩ rfl rfl rfl rfl rfl (by kernel_rfl) Tryz.func16 (by kernel_rfl)
    (of_decide_eq_true (by kernel_rfl)) (by unfold Func.isWrapper; first | (rw [if_pos (by decide +kernel)]; kernel_rfl) | (rw [if_neg (by decide +kernel)]; exact ⟨rfl, rfl⟩))
    (fun os started H enc _ => CertEnough_lifted os started H enc)
#print axioms certEnough_holds

end Go.Proofs.YtlinbkmpkcmniaaGreat
