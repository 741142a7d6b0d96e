/- The law HeadThreads returns true whatever the input, and its tied card holds. Conditions: none but the row's own. -/
import Derived.Test.YtakpdkmhclhlnaaGreatDoorMf
set_option linter.unusedSimpArgs false
set_option linter.unusedVariables false
namespace Go.Proofs.YtakpdkmhclhlnaaGreatDoor.Hd
open Go Go.Sx Go.RowKit Go.ChangeShapes Go.WideShapes Go.ChangeAt
theorem str_rec {vs : List Value} (h : LL [.str] vs) : vs.map AV.x = [AV.x (.string (stO (vs.map AV.x)))] := by
  obtain ⟨v, vs', rfl, ⟨s, rfl⟩, h'⟩ := LL.cons h
  cases h'.nil
  rfl
theorem HeadThreads_all : ∀ avs, MI Tryz.prog Tryz.f6.params.toList avs → VW Tryz.prog 6 avs (.x (.bool true)) := by
  intro avs h
  have hp : Tryz.f6.params.toList = [26, 5, 5, 5, 5, 34] := by kernel_rfl
  rw [hp] at h
  cases h with
  | cons h0 h =>
  cases h with
  | cons h1 h =>
  cases h with
  | cons h2 h =>
  cases h with
  | cons h3 h =>
  cases h with
  | cons h4 h =>
  cases h with
  | cons h5 h =>
  cases h
  obtain ⟨n, f0, rfl, _, hf⟩ := h0.list (e := 9) (ks := [.str]) (by kernel_rfl) (by kernel_rfl)
  obtain ⟨v1, rfl, ⟨a, rfl, w_a⟩⟩ := h1.one (k := .int .u8) (by kernel_rfl) (by kernel_rfl)
  have ha : 0 ≤ a ∧ a ≤ 255 := by
    have h2 : IntKind.u8.min ≤ a ∧ a ≤ IntKind.u8.max := by simpa [Lit.wf] using w_a
    have e1 : IntKind.u8.min = 0 := by decide
    have e2 : IntKind.u8.max = 255 := by decide
    omega
  obtain ⟨v2, rfl, ⟨b, rfl, w_b⟩⟩ := h2.one (k := .int .u8) (by kernel_rfl) (by kernel_rfl)
  have hb : 0 ≤ b ∧ b ≤ 255 := by
    have h2 : IntKind.u8.min ≤ b ∧ b ≤ IntKind.u8.max := by simpa [Lit.wf] using w_b
    have e1 : IntKind.u8.min = 0 := by decide
    have e2 : IntKind.u8.max = 255 := by decide
    omega
  obtain ⟨v3, rfl, ⟨c, rfl, w_c⟩⟩ := h3.one (k := .int .u8) (by kernel_rfl) (by kernel_rfl)
  have hc : 0 ≤ c ∧ c ≤ 255 := by
    have h2 : IntKind.u8.min ≤ c ∧ c ≤ IntKind.u8.max := by simpa [Lit.wf] using w_c
    have e1 : IntKind.u8.min = 0 := by decide
    have e2 : IntKind.u8.max = 255 := by decide
    omega
  obtain ⟨v4, rfl, ⟨d, rfl, w_d⟩⟩ := h4.one (k := .int .u8) (by kernel_rfl) (by kernel_rfl)
  have hd : 0 ≤ d ∧ d ≤ 255 := by
    have h2 : IntKind.u8.min ≤ d ∧ d ≤ IntKind.u8.max := by simpa [Lit.wf] using w_d
    have e1 : IntKind.u8.min = 0 := by decide
    have e2 : IntKind.u8.max = 255 := by decide
    omega
  obtain ⟨v5, rfl, ⟨y, rfl, w_y⟩⟩ := h5.one (k := .int .u16) (by kernel_rfl) (by kernel_rfl)
  have hy : 0 ≤ y ∧ y ≤ 65535 := by
    have h2 : IntKind.u16.min ≤ y ∧ y ≤ IntKind.u16.max := by simpa [Lit.wf] using w_y
    have e1 : IntKind.u16.min = 0 := by decide
    have e2 : IntKind.u16.max = 65535 := by decide
    omega
  exact (Xc4 n (lnF fun k => (f0 k).map AV.x) a b c d y ha hb hc hd hy).same (.cons (.lst 1 n _ _ fun k hk => str_rec (hf k hk)) (.cons (.refl _) (.cons (.refl _) (.cons (.refl _) (.cons (.refl _) (.cons (.refl _) .nil))))))
set_option maxRecDepth 100000 in
theorem HeadThreads_lifted (os : Os) (started : os.Started) (H : Type) (enc : TypeId × Value → H) :
    ReturnsInHanded {} Tryz.checked os 6 .any (fun w args => (Rows.headThreadsSpec.pre enc Tryz.prog Tryz.f6 [] false w args ∧ laidMetH Tryz.prog Qb3 w) ∧ sizedMet enc Tryz.prog Tryz.f6 (OpenSpec.ofChange Rows.headThreadsSpec) false w args) (Rows.headThreadsSpec.post enc Tryz.prog Tryz.f6 false true false false) := by
  refine rowWrap (C := Tryz.checked) own0 started (by kernel_rfl) Tryz.func6
    (ChangeSpec.witness_shaped (enc := enc) (C := Tryz.checked) (os := os) (X := fun w _ => laidMetH Tryz.prog Qb3 w) false (Jn9 os) #[.slice none 0 0, .int .u8 0, .int .u8 0, .int .u8 0, .int .u8 0, .int .u16 0] 8 rfl (World.shaped_of_RefB (by kernel_rfl) (by kernel_rfl)) (by kernel_rfl) (by kernel_rfl) (by kernel_rfl) (Jn8 os _)) ?_
  intro W base args ds gs before Jj2 hW Qp1 hL hsh
  have MU : ∀ (j : Nat) t v, Tryz.f6.params[j]? = some t → args[j]? = some v → Value.okWide Tryz.prog W .any base t v := Jj2
  have hW' := hW
  obtain ⟨p, q, hA0, hV, rfl, _, _⟩ := hW
  have hA : DataW.TrodAll enc Tryz.prog W 0 (fun _ => true) true Tryz.f6.params.toList args.toList ds p := hA0
  obtain ⟨rfl, rfl⟩ := trodVars_none hV
  simp only [List.append_nil] at hW'
  have hz : ∀ q ∈ DataW.weightsEach Tryz.prog Tryz.f6.params.toList ds, q ≤ reachBytes := fun q hq => by
    have h0 : (DataW.weightsEach Tryz.prog (Tryz.f6.params.toList ++ []) (ds ++ [])).all (fun x => decide (x ≤ reachBytes)) = true := Qp1
    rw [List.append_nil, List.append_nil] at h0
    simpa using List.all_eq_true.1 h0 q hq
  refine (Zy6 (P := Tryz.prog) (f := 6) (by kernel_rfl) (fun j t v ht hv => MU j t v (by simpa using ht) (by simpa using hv)) hA hz HeadThreads_all (glob_of hL hsh)).mono fun e W' ⟨he, hb⟩ => ?_
  subst he
  have hpar : Tryz.f6.params.toList = [26, 5, 5, 5, 5, 34] := by kernel_rfl
  have hA2 := hA
  rw [hpar] at hA2
  obtain ⟨v0, vs0, d0, r0, p0, q0, e0, rfl, rfl, _, hA2⟩ := trodAll_cons hA2
  obtain ⟨v1, vs1, d1, r1, p1, q1, e1, rfl, rfl, _, hA2⟩ := trodAll_cons hA2
  obtain ⟨v2, vs2, d2, r2, p2, q2, e2, rfl, rfl, _, hA2⟩ := trodAll_cons hA2
  obtain ⟨v3, vs3, d3, r3, p3, q3, e3, rfl, rfl, _, hA2⟩ := trodAll_cons hA2
  obtain ⟨v4, vs4, d4, r4, p4, q4, e4, rfl, rfl, _, hA2⟩ := trodAll_cons hA2
  obtain ⟨v5, vs5, d5, r5, p5, q5, e5, rfl, rfl, _, hA2⟩ := trodAll_cons hA2
  obtain rfl : r5 = [] := by
    cases vs5 <;> cases r5 <;> simp [DataW.TrodAll] at hA2 ⊢
  exact ⟨_, rfl, Jh8 (tb := 4) (show laidOutB Tryz.prog = true by kernel_rfl) (by kernel_rfl) (by kernel_rfl) (by kernel_rfl) rfl rfl rfl rfl hW' hA hb⟩
theorem headThreads_row : Rows.HeadThreadsSaid :=
  OpenClaim.holds_of_wide 6 Tryz.f6 rfl rfl rfl rfl rfl rfl rfl ⟨rfl, rfl, rfl, rfl, rfl⟩ rfl rfl rfl rfl rfl (by kernel_rfl) Tryz.func6 (by kernel_rfl)
    (of_decide_eq_true (by kernel_rfl)) (by unfold Func.isWrapper; first | (rw [if_pos (by decide +kernel)]; kernel_rfl) | (rw [if_neg (by decide +kernel)]; exact ⟨rfl, rfl⟩))
    (fun os started H enc _ => HeadThreads_lifted os started H enc)
end Go.Proofs.YtakpdkmhclhlnaaGreatDoor.Hd
namespace Go.Proofs.YtakpdkmhclhlnaaGreatDoor
open Go
theorem headThreads_holds : Rows.HeadThreadsCardSaid :=
  Claim7.holds_tied_plain_at .later [] [.data, .data, .data, .data, .sentinel, .sentinel, .pinned] true (true, "25354a267e8b729063c53146fedf9b6182b778ce7730d5417b2bee6ec6d16557") true
    Hd.headThreads_row (fun _ h => by cases h) (by kernel_rfl) (fun _ h => by cases h) headThreads_row_tie rfl ⟨rfl, rfl⟩ (by kernel_rfl) rfl
    (fun f fn hf hfn => by
      obtain rfl : f = 6 := Option.some.inj ((show Tryz.prog.funcNamed "meniscus/meniscuslaw12.HeadThreads" = some 6 by kernel_rfl).symm.trans hf) |>.symm
      obtain rfl : fn = Tryz.f6 := (Option.some.inj (Tryz.func6.symm.trans hfn)).symm
      exact ⟨by kernel_rfl, fun j t ht => by
        have hpar : Tryz.f6.params.toList = [26, 5, 5, 5, 5, 34] := by kernel_rfl
        have ht2 : Tryz.f6.params.toList[j]? = some t := by simpa using ht
        rw [hpar] at ht2
        have hm := List.mem_of_getElem? ht2
        simp only [List.mem_cons, List.not_mem_nil, or_false] at hm
        rcases hm with rfl | rfl | rfl | rfl | rfl | rfl
        · exact (show Tryz.prog.wantsStandIn 26 = false by kernel_rfl)
        · exact (show Tryz.prog.wantsStandIn 5 = false by kernel_rfl)
        · exact (show Tryz.prog.wantsStandIn 5 = false by kernel_rfl)
        · exact (show Tryz.prog.wantsStandIn 5 = false by kernel_rfl)
        · exact (show Tryz.prog.wantsStandIn 5 = false by kernel_rfl)
        · exact (show Tryz.prog.wantsStandIn 34 = false by kernel_rfl)⟩)
    (by kernel_rfl)
#print axioms headThreads_holds
end Go.Proofs.YtakpdkmhclhlnaaGreatDoor
