/- The law CertHeights returns true for every instrument and every day. Conditions: none. -/
import Derived.Test.YtlinbkmpkcmniaaGreatMn
set_option linter.unusedSimpArgs false
set_option linter.unusedVariables false
namespace Go.Proofs.YtlinbkmpkcmniaaGreat
open Go Go.Sx Go.RowKit Bo Go.ChangeShapes Go.WideShapes Go.ChangeAt
theorem CertHeights_all : ∀ avs, ArgsOk Tryz.prog Tryz.f7.params.toList avs → SoundAt Tryz.prog 7 avs (.x (.bool true)) := by
  intro avs h
  have hp : Tryz.f7.params.toList = [31, 3] := by kernel_rfl
  rw [hp] at h
  cases h with
  | cons h0 h =>
  cases h with
  | cons h1 h =>
  cases h
  obtain ⟨li0, rfl, hc0_0⟩ := h0.mix (ms := [.sc (.int .i64), .sc (.int .i64), .sc (.int .i64), .sc (.int .i64), .sl 26 99 [.int .i64, .int .i64, .int .i64, .int .i64], .sl 27 81 [.int .i64, .int .i64], .sc (.int .i64), .sc (.int .i64), .sc (.int .i64), .sc (.int .i64)]) (by kernel_rfl) (by kernel_rfl) (by kernel_rfl)
  obtain ⟨_, _, rfl, q0_0, hc0_1⟩ := hc0_0.cons
  obtain ⟨c, rfl, w_c⟩ := cellI q0_0
  obtain ⟨_, _, rfl, q0_1, hc0_2⟩ := hc0_1.cons
  obtain ⟨T, rfl, w_T⟩ := cellI q0_1
  obtain ⟨_, _, rfl, q0_2, hc0_3⟩ := hc0_2.cons
  obtain ⟨lo, rfl, w_lo⟩ := cellI q0_2
  obtain ⟨_, _, rfl, q0_3, hc0_4⟩ := hc0_3.cons
  obtain ⟨hi, rfl, w_hi⟩ := cellI q0_3
  obtain ⟨_, _, rfl, q0_4, hc0_5⟩ := hc0_4.cons
  obtain ⟨n, f0, rfl, hm_n, hf_f⟩ := cellS q0_4
  have hF_f : isRec 4 n (fun k => (f0 k).map .x) := fun k hk => ints_rec (m := 4) (hf_f k hk)
  obtain ⟨_, _, rfl, q0_5, hc0_6⟩ := hc0_5.cons
  obtain ⟨m, g0, rfl, hm_m, hf_g⟩ := cellS q0_5
  have hF_g : isRec 2 m (fun k => (g0 k).map .x) := fun k hk => ints_rec (m := 2) (hf_g k hk)
  obtain ⟨_, _, rfl, q0_6, hc0_7⟩ := hc0_6.cons
  obtain ⟨pl, rfl, w_pl⟩ := cellI q0_6
  obtain ⟨_, _, rfl, q0_7, hc0_8⟩ := hc0_7.cons
  obtain ⟨ph, rfl, w_ph⟩ := cellI q0_7
  obtain ⟨_, _, rfl, q0_8, hc0_9⟩ := hc0_8.cons
  obtain ⟨dl, rfl, w_dl⟩ := cellI q0_8
  obtain ⟨_, _, rfl, q0_9, hc0_10⟩ := hc0_9.cons
  obtain ⟨dh, rfl, w_dh⟩ := cellI q0_9
  obtain rfl := hc0_10.nil
  obtain ⟨v1, rfl, ⟨day, rfl, w_day⟩⟩ := h1.one (k := .int .i64) (by kernel_rfl) (by kernel_rfl)
  exact (CertHeights_at c T lo hi n (col 0 fun k => (f0 k).map .x) (col 1 fun k => (f0 k).map .x) (col 2 fun k => (f0 k).map .x) (col 3 fun k => (f0 k).map .x) m (Pt.col 0 fun k => (g0 k).map .x) (Pt.col 1 fun k => (g0 k).map .x) pl ph dl dh day).same (.cons (Sames.same (.cons (.refl _) (.cons (.refl _) (.cons (.refl _) (.cons (.refl _) (.cons (.lst 4 _ _ _ hF_f) (.cons (.lst 2 _ _ _ hF_g) (.cons (.refl _) (.cons (.refl _) (.cons (.refl _) (.cons (.refl _) .nil))))))))))) (.cons (.refl _) .nil))
set_option maxRecDepth 100000 in
theorem CertHeights_lifted (os : Os) (started : os.Started) (H : Type) (enc : TypeId × Value → H) :
    ReturnsInHanded {} Tryz.checked os 7 .any (Rows.certHeightsSpec.pre6 enc Tryz.prog Tryz.f7 Rows.certHeightsRow.domain false) (Rows.certHeightsSpec.post enc Tryz.prog Tryz.f7 false true false false) := by
  refine returnsInHanded_of_change_sized (C := Tryz.checked) (show ownKnob Tryz.prog.godebug = none by kernel_rfl) started (by kernel_rfl) Tryz.func7
    (ChangeSpec.witness6 (enc := enc) (C := Tryz.checked) false ⟨#[], #[.agg #[.int .i64 0, .int .i64 0, .int .i64 0, .int .i64 0, .slice none 0 0, .slice none 0 0, .int .i64 0, .int .i64 0, .int .i64 0, .int .i64 0], .int .i64 0], []⟩ 8 (by kernel_rfl) (by kernel_rfl) (by kernel_rfl) (by kernel_rfl)) ?_
  intro W base args ds gs before hval0 hW _ hsz0 _
  have hval : ∀ (j : Nat) t v, Tryz.f7.params[j]? = some t → args[j]? = some v → Value.okWide Tryz.prog W .any base t v := hval0
  have hW' := hW
  obtain ⟨p, q, hA0, hV, rfl, _, _⟩ := hW
  have hA : DataW.TrodAll enc Tryz.prog W 0 (fun _ => true) true Tryz.f7.params.toList args.toList ds p := hA0
  obtain ⟨rfl, rfl⟩ := trodVars_none hV
  simp only [List.append_nil] at hW'
  have hz : ∀ q ∈ DataW.weightsEach Tryz.prog Tryz.f7.params.toList ds, q ≤ reachBytes := fun q hq => by
    have h0 : (DataW.weightsEach Tryz.prog (Tryz.f7.params.toList ++ []) (ds ++ [])).all (fun x => decide (x ≤ reachBytes)) = true := hsz0
    rw [List.append_nil, List.append_nil] at h0
    simpa using List.all_eq_true.1 h0 q hq
  refine (law_calls (P := Tryz.prog) (f := 7) (by kernel_rfl) (fun j t v ht hv => hval j t v (by simpa using ht) (by simpa using hv)) hA hz CertHeights_all).mono fun e W' ⟨he, hb⟩ => ?_
  subst he
  have hpar : Tryz.f7.params.toList = [31, 3] := by kernel_rfl
  have hA2 := hA
  rw [hpar] at hA2
  obtain ⟨v0, vs0, d0, r0, p0, q0, e0, rfl, rfl, _, hA2⟩ := trodAll_cons hA2
  obtain ⟨v1, vs1, d1, r1, p1, q1, e1, rfl, rfl, _, hA2⟩ := trodAll_cons hA2
  obtain rfl : r1 = [] := by
    cases vs1 <;> cases r1 <;> simp [DataW.TrodAll] at hA2 ⊢
  exact ⟨_, rfl, law_post (tb := 4) (show laidOutB Tryz.prog = true by kernel_rfl) (by kernel_rfl) (by kernel_rfl) (by kernel_rfl) rfl rfl rfl rfl hW' hA hb⟩
theorem certHeights_holds : Rows.CertHeightsSaid :=
  OpenClaim.holds_of_wide 7 Tryz.f7 rfl rfl rfl rfl rfl rfl rfl ⟨rfl, rfl, rfl, rfl, rfl⟩ rfl rfl rfl rfl rfl (by kernel_rfl) Tryz.func7 (by kernel_rfl)
    (of_decide_eq_true (by kernel_rfl)) (by unfold Func.isWrapper; first | (rw [if_pos (by decide +kernel)]; kernel_rfl) | (rw [if_neg (by decide +kernel)]; exact ⟨rfl, rfl⟩))
    (fun os started H enc _ => CertHeights_lifted os started H enc)
#print axioms certHeights_holds

end Go.Proofs.YtlinbkmpkcmniaaGreat
