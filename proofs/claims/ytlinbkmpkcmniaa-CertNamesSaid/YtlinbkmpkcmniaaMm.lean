/- Texts of this claim, put together: CeL, CeP, CfE, CfF, CfG, CfH, CfI, CfK, CnB, CfL, CfM -/
import Derived.Test.YtlinbkmpkcmniaaMl
set_option linter.unusedSimpArgs false
set_option linter.unusedVariables false
set_option maxRecDepth 100000
namespace Go.Proofs.Ytlinbkmpkcmniaa
open Go Go.Sx Go.RowKit Bo
open Go.Sx.Tree (need branch leaf)
open Go.Sx.AV (lst ptr agg roI tup top)
def S_between : Sx.Spec := fun l => match l with
 | [.x (.int .i64 a), .x (.int .i64 b)] => some ([], .agg [i a, i b])
 | _ => none
theorem between_at (a b : Int) : SoundAt Try.prog 5 [i a, i b] (.agg [i a, i b]) := by
 refine soundAt_fin (G := []) (L := []) (SoundG.nil _) mixed Try.func5 (show Try.f5.body = some (bodyOf Try.f5) by kernel_rfl) noLoops (t := (leaf (RV.agg [RV.x (Value.int IntKind.i64 a), RV.x (Value.int IntKind.i64 b)]))) (by kernel_rfl) ?_
 simp only [Tree.sat, allP, fitP, fitL, valEq, inI64, true_and, and_true]
 all_goals first | omega | grind
theorem between_ok : SoundSpec Try.prog 5 S_between := by
 refine ⟨⟨_, Try.func5, by kernel_rfl, by kernel_rfl⟩, ?_⟩
 intro avs ns res h hn
 unfold S_between at h
 split at h
 ·cases h
  exact between_at _ _
 ·cases h
def S_whole : Sx.Spec := fun l => match l with
 | [.x (.int .i64 w)] => some ([], .agg [i 0, i 4, i w])
 | _ => none
theorem whole_at (w : Int) : SoundAt Try.prog 8 [i w] (.agg [i 0, i 4, i w]) := by
 refine soundAt_fin (G := []) (L := []) (SoundG.nil _) mixed Try.func8 (show Try.f8.body = some (bodyOf Try.f8) by kernel_rfl) noLoops (t := (leaf (RV.agg [RV.x (Value.int IntKind.i64 (0 : Int)), RV.x (Value.int IntKind.i64 (4 : Int)), RV.x (Value.int IntKind.i64 w)]))) (by kernel_rfl) ?_
 simp only [Tree.sat, allP, fitP, fitL, valEq, inI64, true_and, and_true]
 all_goals first | omega | grind
theorem whole_ok : SoundSpec Try.prog 8 S_whole := by
 refine ⟨⟨_, Try.func8, by kernel_rfl, by kernel_rfl⟩, ?_⟩
 intro avs ns res h hn
 unfold S_whole at h
 split at h
 ·cases h
  exact whole_at _
 ·cases h
def S_glass : Sx.Spec := fun l => match l with
 | [] => some ([], .agg [i 4, i 100, i 20, i 30, .lst 4 2 (chunk 4 [i 0, i 1, i 40, i 40, i 2, i 3, i 48, i 50]), .lst 2 3 (chunk 2 [i 720, i 985, i 760, i 1000, i 800, i 1014]), i 760, i 760, i 1, i 3])
 | _ => none
theorem glass_at  : SoundAt Try.prog 4 [] (.agg [i 4, i 100, i 20, i 30, .lst 4 2 (chunk 4 [i 0, i 1, i 40, i 40, i 2, i 3, i 48, i 50]), .lst 2 3 (chunk 2 [i 720, i 985, i 760, i 1000, i 800, i 1014]), i 760, i 760, i 1, i 3]) := by
 refine soundAt_fin (G := [(5, S_between)]) (L := []) (SoundG.cons between_ok (SoundG.nil _)) mixed Try.func4 (show Try.f4.body = some (bodyOf Try.f4) by kernel_rfl) noLoops (t := (leaf (RV.agg [RV.x (Value.int IntKind.i64 (4 : Int)), RV.x (Value.int IntKind.i64 (100 : Int)), RV.x (Value.int IntKind.i64 (20 : Int)), RV.x (Value.int IntKind.i64 (30 : Int)), RV.lst 4 2 (chunk 4 [iI (0 : Int), iI (1 : Int), iI (40 : Int), iI (40 : Int), iI (2 : Int), iI (3 : Int), iI (48 : Int), iI (50 : Int)]), RV.lst 2 3 (chunk 2 [iI (720 : Int), iI (985 : Int), iI (760 : Int), iI (1000 : Int), iI (800 : Int), iI (1014 : Int)]), RV.x (Value.int IntKind.i64 (760 : Int)), RV.x (Value.int IntKind.i64 (760 : Int)), RV.x (Value.int IntKind.i64 (1 : Int)), RV.x (Value.int IntKind.i64 (3 : Int))]))) (by kernel_rfl) ?_
 simp only [Tree.sat, allP, fitP, fitL, valEq, true_and, and_true]
 refine ⟨fun _ _ x hm => ?_, fun _ _ x hm => ?_⟩
 all_goals
  have hm := chunk_mem hm
  simp only [List.mem_cons, List.not_mem_nil, or_false] at hm
  (repeat' rcases hm with rfl | hm) <;> first | exact True.intro | (subst hm; exact True.intro)
theorem glass_ok : SoundSpec Try.prog 4 S_glass := by
 refine ⟨⟨_, Try.func4, by kernel_rfl, by kernel_rfl⟩, ?_⟩
 intro avs ns res h hn
 unfold S_glass at h
 split at h
 ·cases h
  exact glass_at 
 ·cases h
noncomputable def E_nt (n m : Nat) (a b : Nat → Int) : St := (some { σ := [lst 1 n fun k => [iI (a k)], lst 1 m fun k => [iI (b k)]] ++ tpL 24 [], m := [], nx := 7 } : Option St).getD { σ := [], m := [], nx := 0 }
noncomputable def B_nt : Code := loopBody (loopAt (bodyOf Try.f11) 0)
noncomputable def inv_nt (n m : Nat) (a b : Nat → Int) (k : Nat) : St := { σ := ovrS [(5, i k)] (E_nt n m a b).σ, m := (E_nt n m a b).m, nx := (E_nt n m a b).nx }
noncomputable def out_nt (n m : Nat) (a b : Nat → Int) (k : Nat) : AEx → Option St := fun ex => match ex with
 | .exit 0 => some { σ := ovrS [] (E_nt n m a b).σ, m := (E_nt n m a b).m, nx := (E_nt n m a b).nx }
 | .ret => some { σ := ovrS [(4, .lit false)] (E_nt n m a b).σ, m := (E_nt n m a b).m, nx := (E_nt n m a b).nx }
 | _ => none
noncomputable def T_nt (n m : Nat) (a b : Nat → Int) : CT := .branch (allI ((fun k => a k == b k)) n) (.leaf (.exit 0, ( out_nt n m a b 0 (.exit 0)).getD (E_nt n m a b))) (.leaf (.ret, ( out_nt n m a b 0 .ret).getD (E_nt n m a b)))
noncomputable def LS_nt (n m : Nat) (a b : Nat → Int) : LSpec := (sumL (inv_nt n m a b (0)) (T_nt n m a b))
theorem nt_ls (n m : Nat) (a b : Nat → Int) (pre0 : n ≤ 100000) (pre1 : n = m) : LSound Try.prog (.loop B_nt) (LS_nt n m a b) := by
 refine loop_rounds (G := []) (L := []) (SoundG.nil _) mixed noLoops (X := Nat) (inv_nt n m a b) (fun k => k ≤ n ∧ ∀ j, j < k → ((fun k => a k == b k)) j = true) (fun k => n - k) (out_nt n m a b) (x0 := 0) ⟨by omega, fun j hj => by omega⟩ ?_ ?_ ?_
 ·rintro k
  kernel_rfl
 ·rintro k y E h
  unfold out_nt at h
  split at h
  ·cases h; kernel_rfl
  ·cases h; kernel_rfl
  ·cases h
 ·rintro Q hQ k hx
  refine ⟨(k + 1), ?_⟩
  have e : roundT Try.prog [] [] B_nt (inv_nt n m a b k) (inv_nt n m a b ((k + 1))) (out_nt n m a b k) = (let z0 := (lst 1 n fun k => [iI (a k)]); (branch (decide ((↑k : Int) < (↑n : Int))) (need [(0 : Int) ≤ (↑k : Int) ∧ (↑k : Int) < (↑n : Int)] (need [(0 : Int) ≤ (↑k : Int) ∧ (↑k : Int) < (↑m : Int)] (branch (a k != b k) (need [z0 = lst 1 n fun k => [iI (a k)], (lst 1 m fun k => [iI (b k)]) = lst 1 m fun k => [iI (b k)], Eq1 (AV.lit false)] (leaf AEx.ret)) (need [inI64 ((↑k : Int) + 1)] (need [z0 = lst 1 n fun k => [iI (a k)], (lst 1 m fun k => [iI (b k)]) = lst 1 m fun k => [iI (b k)], (↑k : Int) + 1 = (↑(k + 1) : Int)] (leaf AEx.normal)))))) (need [z0 = lst 1 n fun k => [iI (a k)], (lst 1 m fun k => [iI (b k)]) = lst 1 m fun k => [iI (b k)]] (leaf (AEx.exit 0))))) := by kernel_rfl
  rw [e]
  simp only [T_nt, out_nt, Tree.sat, Option.getD_some] at hQ
  have hbad : k < n → ((fun k => a k == b k)) k = false → allI ((fun k => a k == b k)) n = false := by
   intro h1 h2
   rw [← Bool.not_eq_true]
   intro h3
   have := allI_iff.1 h3 k h1
   exact Bool.noConfusion (h2.symm.trans this)
  have hgood : ((fun k => a k == b k)) k = true → ∀ j, j < k + 1 → ((fun k => a k == b k)) j = true := by
   intro h1 j hj
   rcases (show j < k ∨ j = k by omega) with h | rfl
   ·exact hx.2 j h
   ·exact h1
  have hend : ¬ k < n → allI ((fun k => a k == b k)) n = true := fun h => allI_iff.2 (fun j hj => hx.2 j (by omega))
  have hQ1 : ∀ E, out_nt n m a b k .ret = some E → allI ((fun k => a k == b k)) n = false → Q (.ret, E) := by
   intro E hE hf
   cases hE
   exact hQ.2 hf
  have hQ2 : ∀ E, out_nt n m a b k (.exit 0) = some E → allI ((fun k => a k == b k)) n = true → Q (.exit 0, E) := by
   intro E hE hf
   cases hE
   exact hQ.1 hf
  simp only [Tree.sat, allP, true_and, and_true, decide_eq_true_eq, decide_eq_false_iff_not, inI64, Int.toNat_natCast]
  
  clear e
  repeat' first | with_reducible apply And.intro | with_reducible intro _
  all_goals first | exact True.intro | omega | exact hQ1 _ (by assumption) (hbad (by omega) (by simp_all)) | exact hQ2 _ (by assumption) (hend (by omega)) | exact hgood (by simp_all) _ (by assumption)
theorem lints_at (n m : Nat) (a b : Nat → Int) (pre0 : n ≤ 100000) : SoundAt Try.prog 11 [.lst 1 n (fun k => [i (a k)]), .lst 1 m (fun k => [i (b k)])] (bl (decide (n = m) && allI (fun k => a k == b k) n)) := by
 refine soundAt_fin (G := []) (L := [needSp [n ≤ 100000, n = m] (LS_nt n m a b)]) (SoundG.nil _) mixed Try.func11 (show Try.f11.body = some (bodyOf Try.f11) by kernel_rfl) (one_loop (lpE (b := .loop B_nt) (by kernel_rfl) <| needSp_sound (fun h => nt_ls n m a b h.1 h.2))) (t := (branch ((↑n : Int) != (↑m : Int)) (leaf (RV.x (Value.bool false))) (need [n ≤ 100000, n = m] (need [(lst 1 n fun k => [iI (a k)]) = lst 1 n fun k => [iI (a k)], (lst 1 m fun k => [iI (b k)]) = lst 1 m fun k => [iI (b k)], (0 : Int) = (↑(0 : Nat) : Int)] (branch (allI (fun k => a k == b k) n) (leaf (RV.x (Value.bool true))) (leaf (RV.x (Value.bool false)))))))) (by kernel_rfl) ?_
 simp only [Tree.sat, allP, fitP, fitL, valEq, inI64, true_and, and_true, decide_eq_true_eq, decide_eq_false_iff_not, Int.natCast_zero, Int.toNat_natCast, bne_iff_ne, ne_eq]
 refine ⟨fun h => ?_, fun h => ?_⟩
 ·have : n ≠ m := by intro h'; subst h'; simp at h
  simp [this]
 ·have e : n = m := by
   rw [bne_eq_false_iff_eq] at h
   omega
  subst e
  refine ⟨⟨by omega, rfl⟩, fun h2 => ?_, fun h2 => ?_⟩
  ·simp [h2]
  ·simp [h2]
def S_lints : Sx.Spec := fun l => match l with
 | [.lst 1 n f, .lst 1 m g] => some ([isRec 1 n f, isRec 1 m g, n ≤ 100000], bl (decide (n = m) && allI (fun k => col 0 f k == col 0 g k) n))
 | _ => none
theorem lints_ok : SoundSpec Try.prog 11 S_lints := by
 refine ⟨⟨_, Try.func11, by kernel_rfl, by kernel_rfl⟩, ?_⟩
 intro avs ns res h hn
 unfold S_lints at h
 split at h
 ·rename_i n f m g
  cases h
  have hr0 : isRec 1 n f := hn _ (by simp)
  have hr1 : isRec 1 m g := hn _ (by simp)
  exact (lints_at n m (col 0 f) (col 0 g) (hn _ (by simp))).same (.cons (.lst 1 n _ _ hr0) (.cons (.lst 1 m _ _ hr1) .nil))
 ·cases h
theorem dyHi_spec (p : Nat → Bool) : ∀ N, (dyHi p N = -1 ∧ ∀ k, k < N → p k = false) ∨ ∃ h : Nat, h < N ∧ p h = true ∧ dyHi p N = h ∧ ∀ k, h < k → k < N → p k = false
 | 0 => .inl ⟨rfl, fun k h => absurd h (Nat.not_lt_zero _)⟩
 | N + 1 => by
  have e : dyHi p (N + 1) = if p N then max (dyHi p N) N else dyHi p N := rfl
  have ih := dyHi_spec p N
  cases hp : p N with
  | true =>
   refine .inr ⟨N, by omega, hp, ?_, fun k h1 h2 => by omega⟩
   rw [e, if_pos hp]
   rcases ih with ⟨h, _⟩ | ⟨h, h1, _, h2, _⟩ <;> omega
  | false =>
   rw [if_neg (by rw [hp]; simp)] at e
   rw [e]
   have ext : ∀ k, k < N + 1 → k ≠ N → k < N := fun k h1 h2 => by omega
   rcases ih with ⟨h, h1⟩ | ⟨h, h1, h2, h3, h4⟩
   ·refine .inl ⟨h, fun k hk => ?_⟩
    by_cases hkN : k = N
    ·rw [hkN, hp]
    ·exact h1 k (ext k hk hkN)
   ·refine .inr ⟨h, by omega, h2, h3, fun k hk hk2 => ?_⟩
    by_cases hkN : k = N
    ·rw [hkN, hp]
    ·exact h4 k hk (ext k hk2 hkN)
theorem dyLo_spec (p : Nat → Bool) : ∀ N, N ≤ 10001 → (dyLo p N = 10001 ∧ ∀ k, k < N → p k = false) ∨ ∃ h : Nat, h < N ∧ p h = true ∧ dyLo p N = h ∧ ∀ k, k < h → p k = false
 | 0, _ => .inl ⟨rfl, fun k h => absurd h (Nat.not_lt_zero _)⟩
 | N + 1, hN => by
  have e : dyLo p (N + 1) = if p N then min (dyLo p N) N else dyLo p N := rfl
  have ih := dyLo_spec p N (by omega)
  cases hp : p N with
  | true =>
   rw [if_pos hp] at e
   rcases ih with ⟨h, h1⟩ | ⟨h, h1, h2, h3, h4⟩
   ·exact .inr ⟨N, by omega, hp, by omega, h1⟩
   ·exact .inr ⟨h, by omega, h2, by omega, h4⟩
  | false =>
   rw [if_neg (by rw [hp]; simp)] at e
   rw [e]
   rcases ih with ⟨h, h1⟩ | ⟨h, h1, h2, h3, h4⟩
   ·refine .inl ⟨h, fun k hk => ?_⟩
    by_cases hkN : k = N
    ·rw [hkN, hp]
    ·exact h1 k (by omega)
   ·exact .inr ⟨h, by omega, h2, h3, h4⟩
theorem dy_range {p : Nat → Bool} {h : Nat} (h1 : h < nD) (hp : ∀ k, k < nD → (p k = true ↔ k ≤ h)) : dyLo p nD = 0 ∧ dyHi p nD = h := by
 have hn : nD = 10001 := rfl
 constructor
 ·rcases dyLo_spec p nD (Nat.le_refl _) with ⟨_, h3⟩ | ⟨l, h3, h4, h5, h6⟩
  ·have := h3 0 (by omega)
   rw [(hp 0 (by omega)).2 (Nat.zero_le _)] at this
   cases this
  ·rcases Nat.eq_zero_or_pos l with rfl | hl
   ·exact h5
   ·have := h6 0 hl
    rw [(hp 0 (by omega)).2 (Nat.zero_le _)] at this
    cases this
 ·rcases dyHi_spec p nD with ⟨_, h3⟩ | ⟨l, h3, h4, h5, h6⟩
  ·have := h3 h h1
   rw [(hp h h1).2 (Nat.le_refl _)] at this
   cases this
  ·have h7 := (hp l h3).1 h4
   rcases Nat.lt_or_ge l h with hl | hl
   ·have := h6 h hl h1
    rw [(hp h h1).2 (Nat.le_refl _)] at this
    cases this
   ·rw [h5]
    omega
abbrev glA0 : Nat → Int := col 0 (chunk 4 [iI 0, iI 1, iI 40, iI 40, iI 2, iI 3, iI 48, iI 50])
abbrev glA1 : Nat → Int := col 1 (chunk 4 [iI 0, iI 1, iI 40, iI 40, iI 2, iI 3, iI 48, iI 50])
abbrev glA2 : Nat → Int := col 2 (chunk 4 [iI 0, iI 1, iI 40, iI 40, iI 2, iI 3, iI 48, iI 50])
abbrev glA3 : Nat → Int := col 3 (chunk 4 [iI 0, iI 1, iI 40, iI 40, iI 2, iI 3, iI 48, iI 50])
abbrev glB0 : Nat → Int := Pt.col 0 (chunk 2 [iI 720, iI 985, iI 760, iI 1000, iI 800, iI 1014])
abbrev glB1 : Nat → Int := Pt.col 1 (chunk 2 [iI 720, iI 985, iI 760, iI 1000, iI 800, iI 1014])
theorem gl_w2 : wkA 4 100 20 30 2 glA0 glA1 glA2 glA3 3 glB0 glB1 760 760 1 3 2 = 1 := by decide +kernel
theorem gl_w3 : wkA 4 100 20 30 2 glA0 glA1 glA2 glA3 3 glB0 glB1 760 760 1 3 3 = 3 := by decide +kernel
theorem gl_w4 : wkA 4 100 20 30 2 glA0 glA1 glA2 glA3 3 glB0 glB1 760 760 1 3 4 = 0 := by decide +kernel
theorem gl_w5 : wkA 4 100 20 30 2 glA0 glA1 glA2 glA3 3 glB0 glB1 760 760 1 3 5 = 0 := by decide +kernel
theorem gl_w6 : wkA 4 100 20 30 2 glA0 glA1 glA2 glA3 3 glB0 glB1 760 760 1 3 6 = 200 := by decide +kernel
theorem gl_w7 : wkA 4 100 20 30 2 glA0 glA1 glA2 glA3 3 glB0 glB1 760 760 1 3 7 = 300 := by decide +kernel
theorem gl_w8 : wkA 4 100 20 30 2 glA0 glA1 glA2 glA3 3 glB0 glB1 760 760 1 3 8 = 410 := by decide +kernel
theorem gl_w9 : wkA 4 100 20 30 2 glA0 glA1 glA2 glA3 3 glB0 glB1 760 760 1 3 9 = 510 := by decide +kernel
theorem gl_w10 : wkA 4 100 20 30 2 glA0 glA1 glA2 glA3 3 glB0 glB1 760 760 1 3 10 = 700 := by decide +kernel
theorem gl_w11 : wkA 4 100 20 30 2 glA0 glA1 glA2 glA3 3 glB0 glB1 760 760 1 3 11 = 800 := by decide +kernel
theorem gl_w12 : wkA 4 100 20 30 2 glA0 glA1 glA2 glA3 3 glB0 glB1 760 760 1 3 12 = 1000 := by decide +kernel
theorem gl_w13 : wkA 4 100 20 30 2 glA0 glA1 glA2 glA3 3 glB0 glB1 760 760 1 3 13 = 1000 := by decide +kernel
theorem gl_hd : (hdE 4 100 20 30 2 glA0 glA1 glA2 glA3 3 glB0 glB1 760 760 1 3 0 == 0) = true := by decide +kernel
theorem gl_hn : (((hdN 4 100 20 30 2 glA0 glA1 glA2 glA3 3 glB0 glB1 760 760 1 3 0 : Nat) : Int) == 5) = true := by decide +kernel
theorem gl_h1 : (onL (wkA 4 100 20 30 2 glA0 glA1 glA2 glA3 3 glB0 glB1 760 760 1 3) (Int.toNat 1) 0 == 200 && (onH (wkA 4 100 20 30 2 glA0 glA1 glA2 glA3 3 glB0 glB1 760 760 1 3) (Int.toNat 1) 0 == 300 && true)) = true := by decide +kernel
theorem gl_h2 : (onL (wkA 4 100 20 30 2 glA0 glA1 glA2 glA3 3 glB0 glB1 760 760 1 3) (Int.toNat 2) 0 == 410 && (onH (wkA 4 100 20 30 2 glA0 glA1 glA2 glA3 3 glB0 glB1 760 760 1 3) (Int.toNat 2) 0 == 510 && true)) = true := by decide +kernel
theorem gl_c2 : (onL (wkA 4 100 20 30 2 glA0 glA1 glA2 glA3 3 glB0 glB1 760 760 1 3) (Int.toNat 2) 0 - teM 4 (Int.toNat 2) == -90 && (onH (wkA 4 100 20 30 2 glA0 glA1 glA2 glA3 3 glB0 glB1 760 760 1 3) (Int.toNat 2) 0 - teM 4 (Int.toNat 2) == 10 && true)) = true := by decide +kernel
theorem gl_to : (toE 4 100 20 30 2 glA0 glA1 glA2 glA3 3 glB0 glB1 760 760 1 3 0 100 2 0 == 0) = true := by decide +kernel
theorem gl_tl : (toL 4 100 20 30 2 glA0 glA1 glA2 glA3 3 glB0 glB1 760 760 1 3 0 100 2 0 == 41 && (toH 4 100 20 30 2 glA0 glA1 glA2 glA3 3 glB0 glB1 760 760 1 3 0 100 2 0 == 51 && true)) = true := by decide +kernel
theorem gl_he : (hgE 4 100 20 30 2 glA0 glA1 glA2 glA3 3 glB0 glB1 760 760 1 3 0 4 90 0 == 0) = true := by decide +kernel
theorem gl_as : asE 4 100 20 30 2 glA0 glA1 glA2 glA3 3 glB0 glB1 760 760 1 3 0 4 100 0 = 0 := by decide +kernel
theorem gl_hg : hgR 4 100 20 30 2 glA0 glA1 glA2 glA3 3 glB0 glB1 760 760 1 3 0 4 90 0 = [0, 1] := by decide +kernel
theorem gl_kd (k : Nat) : keD 4 (wkA 4 100 20 30 2 glA0 glA1 glA2 glA3 3 glB0 glB1 760 760 1 3) 0 4 100 k = true ↔ k ≤ 333 := by
 have hu := up_spec (n := 3 * (k : Int)) (d := 100) (by omega) (by omega)
 have hd := dn_spec (n := 1 * (k : Int)) (d := 100) (by omega) (by omega)
 have e : ∀ x : Nat, keP 4 (wkA 4 100 20 30 2 glA0 glA1 glA2 glA3 3 glB0 glB1 760 760 1 3) 100 k ((0 : Int) + (x : Int)) = true ↔ -100 ≤ wkA 4 100 20 30 2 glA0 glA1 glA2 glA3 3 glB0 glB1 760 760 1 3 (4 + 2 * x) - upI (3 * k) 100 - teM 4 x ∧ wkA 4 100 20 30 2 glA0 glA1 glA2 glA3 3 glB0 glB1 760 760 1 3 (4 + 2 * x) - upI (3 * k) 100 - teM 4 x ≤ wkA 4 100 20 30 2 glA0 glA1 glA2 glA3 3 glB0 glB1 760 760 1 3 (5 + 2 * x) - dnI (1 * k) 100 - teM 4 x ∧ wkA 4 100 20 30 2 glA0 glA1 glA2 glA3 3 glB0 glB1 760 760 1 3 (5 + 2 * x) - dnI (1 * k) 100 - teM 4 x ≤ 100 := by
  intro x
  unfold keP onL onH
  rw [insB_iff, gl_w2, gl_w3, show ((0 : Int) + (x : Int)).toNat = x by omega]
 have t0 : teM 4 0 = 0 := by decide
 have t1 : teM 4 1 = 250 := by decide
 have t2 : teM 4 2 = 500 := by decide
 have t3 : teM 4 3 = 750 := by decide
 have t4 : teM 4 4 = 1000 := by decide
 unfold keD keB
 rw [show ((4 : Int) - 0 + 1).toNat = 5 by decide, allI_iff]
 constructor
 ·intro h
  have h2 := (e 2).1 (h 2 (by omega))
  rw [show 4 + 2 * 2 = 8 by rfl, show 5 + 2 * 2 = 9 by rfl, gl_w8, gl_w9, t2] at h2
  omega
 ·intro h j hj
  rw [e]
  rcases (show j = 0 ∨ j = 1 ∨ j = 2 ∨ j = 3 ∨ j = 4 by omega) with rfl | rfl | rfl | rfl | rfl
  ·rw [show 4 + 2 * 0 = 4 by rfl, show 5 + 2 * 0 = 5 by rfl, gl_w4, gl_w5, t0]
   omega
  ·rw [show 4 + 2 * 1 = 6 by rfl, show 5 + 2 * 1 = 7 by rfl, gl_w6, gl_w7, t1]
   omega
  ·rw [show 4 + 2 * 2 = 8 by rfl, show 5 + 2 * 2 = 9 by rfl, gl_w8, gl_w9, t2]
   omega
  ·rw [show 4 + 2 * 3 = 10 by rfl, show 5 + 2 * 3 = 11 by rfl, gl_w10, gl_w11, t3]
   omega
  ·rw [show 4 + 2 * 4 = 12 by rfl, show 5 + 2 * 4 = 13 by rfl, gl_w12, gl_w13, t4]
   omega
theorem gl_dy : dyLo (keD 4 (wkA 4 100 20 30 2 glA0 glA1 glA2 glA3 3 glB0 glB1 760 760 1 3) 0 4 100) nD = 0 ∧ dyHi (keD 4 (wkA 4 100 20 30 2 glA0 glA1 glA2 glA3 3 glB0 glB1 760 760 1 3) 0 4 100) nD = 333 := dy_range (h := 333) (by decide) (fun k _ => gl_kd k)
theorem gl_de : dsE 4 100 20 30 2 glA0 glA1 glA2 glA3 3 glB0 glB1 760 760 1 3 0 4 100 = 0 := by
 unfold dsE
 rw [if_pos gl_as, gl_dy.2, if_pos (by decide)]
theorem gl_ds : (dsE 4 100 20 30 2 glA0 glA1 glA2 glA3 3 glB0 glB1 760 760 1 3 0 4 100 == 0) = true := by
 rw [gl_de]
 rfl
theorem gl_dl : (dsL 4 100 20 30 2 glA0 glA1 glA2 glA3 3 glB0 glB1 760 760 1 3 0 4 100 == 0 && (dsH 4 100 20 30 2 glA0 glA1 glA2 glA3 3 glB0 glB1 760 760 1 3 0 4 100 == 333 && true)) = true := by
 unfold dsL dsH
 rw [if_pos gl_de, if_pos gl_de, gl_dy.1, gl_dy.2]
 rfl
theorem gl_R4 : isRec 4 2 (chunk 4 [iI 0, iI 1, iI 40, iI 40, iI 2, iI 3, iI 48, iI 50]) := by
 intro k hk
 rcases (show k = 0 ∨ k = 1 by omega) with rfl | rfl <;> rfl
theorem gl_R2 : isRec 2 3 (chunk 2 [iI 720, iI 985, iI 760, iI 1000, iI 800, iI 1014]) := by
 intro k hk
 rcases (show k = 0 ∨ k = 1 ∨ k = 2 by omega) with rfl | rfl | rfl <;> rfl
theorem gl_R1 : isRec 1 2 (chunk 1 [iI 0, iI 1]) := by
 intro k hk
 rcases (show k = 0 ∨ k = 1 by omega) with rfl | rfl <;> rfl
theorem gl_n : ((hdN 4 100 20 30 2 glA0 glA1 glA2 glA3 3 glB0 glB1 760 760 1 3 0 : Nat) : Int) = 5 := by decide +kernel
theorem gl_fin : (decide True && (true && nthJ (hgR 4 100 20 30 2 glA0 glA1 glA2 glA3 3 glB0 glB1 760 760 1 3 0 4 90 0) 0 == col 0 (chunk 1 [iI 0, iI 1]) 0 && nthJ (hgR 4 100 20 30 2 glA0 glA1 glA2 glA3 3 glB0 glB1 760 760 1 3 0 4 90 0) 1 == col 0 (chunk 1 [iI 0, iI 1]) 1)) = true := by
 rw [gl_hg]
 rfl
theorem gl_i1 : (0 : Int) ≤ 1 ∧ (1 : Int) < ((hdN 4 100 20 30 2 glA0 glA1 glA2 glA3 3 glB0 glB1 760 760 1 3 0 : Nat) : Int) := ⟨by decide, Int.lt_of_lt_of_le (show (1 : Int) < 5 by decide) (Int.le_of_eq gl_n.symm)⟩
theorem gl_i2 : (0 : Int) ≤ 2 ∧ (2 : Int) < ((hdN 4 100 20 30 2 glA0 glA1 glA2 glA3 3 glB0 glB1 760 760 1 3 0 : Nat) : Int) := ⟨by decide, Int.lt_of_lt_of_le (show (2 : Int) < 5 by decide) (Int.le_of_eq gl_n.symm)⟩
theorem nope {b : Bool} {p : Prop} (h : b = true) : b = false → p := fun h' => Bool.noConfusion (h.symm.trans h')
def S_wakes : Sx.Spec := fun l => match l with
 | [] => some ([], bl true)
 | _ => none
theorem wakes_at  : SoundAt Try.prog 16 [] (bl true) := by
 refine soundAt_finX (G := [(4, S_glass), (8, S_whole), (5, S_between), (14, S_Told), (7, S_Days), (12, S_Hangs), (11, S_lints)]) (X := { R := [(6, S_Heights), (30, S_Corrections)], H := [] }) (L := []) (SoundG.cons glass_ok (SoundG.cons whole_ok (SoundG.cons between_ok (SoundG.cons Told_ok (SoundG.cons Days_ok (SoundG.cons Hangs_ok (SoundG.cons lints_ok (SoundG.nil _)))))))) (SoundX.of (SoundRL.cons Heights_okR (SoundRL.cons Corrections_okR (SoundRL.nil _))) (SoundHL.nil _)) mixed Try.func16 (show Try.f16.body = some (bodyOf Try.f16) by kernel_rfl) noLoopsS (t := (let z0 := (chunk 4 [iI (0 : Int), iI (1 : Int), iI (40 : Int), iI (40 : Int), iI (2 : Int), iI (3 : Int), iI (48 : Int), iI (50 : Int)]); let z1 := (chunk 2 [iI (720 : Int), iI (985 : Int), iI (760 : Int), iI (1000 : Int), iI (800 : Int), iI (1014 : Int)]); let z2 := (wkA (4 : Int) (100 : Int) (20 : Int) (30 : Int) 2 (col 0 z0) (col 1 z0) (col 2 z0) (col 3 z0) 3 (Pt.col 0 z1) (Pt.col 1 z1) (760 : Int) (760 : Int) (1 : Int) (3 : Int)); let z3 := (hdN (4 : Int) (100 : Int) (20 : Int) (30 : Int) 2 (col 0 z0) (col 1 z0) (col 2 z0) (col 3 z0) 3 (Pt.col 0 z1) (Pt.col 1 z1) (760 : Int) (760 : Int) (1 : Int) (3 : Int) (0 : Int)); let z4 := (hgR (4 : Int) (100 : Int) (20 : Int) (30 : Int) 2 (col 0 z0) (col 1 z0) (col 2 z0) (col 3 z0) 3 (Pt.col 0 z1) (Pt.col 1 z1) (760 : Int) (760 : Int) (1 : Int) (3 : Int) (0 : Int) (4 : Int) (90 : Int) (0 : Int)); let z5 := (leaf (RV.x (Value.bool false))); let z6 := (chunk 1 [iI (0 : Int), iI (1 : Int)]); (need [isRec 4 2 z0, isRec 2 3 z1] (need [isRec 4 2 z0, isRec 2 3 z1] (need [isRec 4 2 z0, isRec 2 3 z1] (need [isRec 4 2 z0, isRec 2 3 z1] (need [isRec 4 2 z0, isRec 2 3 z1] (branch (hdE (4 : Int) (100 : Int) (20 : Int) (30 : Int) 2 (col 0 z0) (col 1 z0) (col 2 z0) (col 3 z0) 3 (Pt.col 0 z1) (Pt.col 1 z1) (760 : Int) (760 : Int) (1 : Int) (3 : Int) (0 : Int) == (0 : Int)) (branch ((↑z3 : Int) == (5 : Int)) (need [(0 : Int) ≤ 1 ∧ (1 : Int) < (↑z3 : Int)] (branch (onL z2 (Int.toNat (1 : Int)) (0 : Int) == (200 : Int) && (onH z2 (Int.toNat (1 : Int)) (0 : Int) == (300 : Int) && true)) (need [(0 : Int) ≤ 2 ∧ (2 : Int) < (↑z3 : Int)] (branch (onL z2 (Int.toNat (2 : Int)) (0 : Int) == (410 : Int) && (onH z2 (Int.toNat (2 : Int)) (0 : Int) == (510 : Int) && true)) (branch (hdE (4 : Int) (100 : Int) (20 : Int) (30 : Int) 2 (col 0 z0) (col 1 z0) (col 2 z0) (col 3 z0) 3 (Pt.col 0 z1) (Pt.col 1 z1) (760 : Int) (760 : Int) (1 : Int) (3 : Int) (0 : Int) == (0 : Int)) (branch ((↑z3 : Int) == (5 : Int)) (need [(0 : Int) ≤ 2 ∧ (2 : Int) < (↑z3 : Int)] (branch (onL z2 (Int.toNat (2 : Int)) (0 : Int) - teM (4 : Int) (Int.toNat (2 : Int)) == (-90 : Int) && (onH z2 (Int.toNat (2 : Int)) (0 : Int) - teM (4 : Int) (Int.toNat (2 : Int)) == (10 : Int) && true)) (branch (toE (4 : Int) (100 : Int) (20 : Int) (30 : Int) 2 (col 0 z0) (col 1 z0) (col 2 z0) (col 3 z0) 3 (Pt.col 0 z1) (Pt.col 1 z1) (760 : Int) (760 : Int) (1 : Int) (3 : Int) (0 : Int) (100 : Int) (2 : Int) (0 : Int) == (0 : Int)) (branch (toL (4 : Int) (100 : Int) (20 : Int) (30 : Int) 2 (col 0 z0) (col 1 z0) (col 2 z0) (col 3 z0) 3 (Pt.col 0 z1) (Pt.col 1 z1) (760 : Int) (760 : Int) (1 : Int) (3 : Int) (0 : Int) (100 : Int) (2 : Int) (0 : Int) == (41 : Int) && (toH (4 : Int) (100 : Int) (20 : Int) (30 : Int) 2 (col 0 z0) (col 1 z0) (col 2 z0) (col 3 z0) 3 (Pt.col 0 z1) (Pt.col 1 z1) (760 : Int) (760 : Int) (1 : Int) (3 : Int) (0 : Int) (100 : Int) (2 : Int) (0 : Int) == (51 : Int) && true)) (branch (dsE (4 : Int) (100 : Int) (20 : Int) (30 : Int) 2 (col 0 z0) (col 1 z0) (col 2 z0) (col 3 z0) 3 (Pt.col 0 z1) (Pt.col 1 z1) (760 : Int) (760 : Int) (1 : Int) (3 : Int) (0 : Int) (4 : Int) (100 : Int) == (0 : Int)) (branch (dsL (4 : Int) (100 : Int) (20 : Int) (30 : Int) 2 (col 0 z0) (col 1 z0) (col 2 z0) (col 3 z0) 3 (Pt.col 0 z1) (Pt.col 1 z1) (760 : Int) (760 : Int) (1 : Int) (3 : Int) (0 : Int) (4 : Int) (100 : Int) == (0 : Int) && (dsH (4 : Int) (100 : Int) (20 : Int) (30 : Int) 2 (col 0 z0) (col 1 z0) (col 2 z0) (col 3 z0) 3 (Pt.col 0 z1) (Pt.col 1 z1) (760 : Int) (760 : Int) (1 : Int) (3 : Int) (0 : Int) (4 : Int) (100 : Int) == (333 : Int) && true)) (branch (hgE (4 : Int) (100 : Int) (20 : Int) (30 : Int) 2 (col 0 z0) (col 1 z0) (col 2 z0) (col 3 z0) 3 (Pt.col 0 z1) (Pt.col 1 z1) (760 : Int) (760 : Int) (1 : Int) (3 : Int) (0 : Int) (4 : Int) (90 : Int) (0 : Int) == (0 : Int)) (need [isRec 1 2 fun j => [i (nthJ z4 j)], isRec 1 2 z6, 2 ≤ 100000] (leaf (RV.x (Value.bool (decide (2 = 2) && (true && nthJ z4 (nat_lit 0) == col 0 z6 (nat_lit 0) && nthJ z4 (nat_lit 1) == col 0 z6 (nat_lit 1))))))) z5) z5) z5) z5) z5) z5)) z5) z5) z5)) z5)) z5) z5)))))))) (by kernel_rfl) ?_
 simp only [Tree.sat, allP, true_and, and_true]
 refine ⟨⟨gl_R4, gl_R2⟩, ⟨gl_R4, gl_R2⟩, ⟨gl_R4, gl_R2⟩, ⟨gl_R4, gl_R2⟩, ⟨gl_R4, gl_R2⟩, ?_⟩
 refine ⟨fun _ => ⟨fun _ => ⟨gl_i1, fun _ => ⟨gl_i2, fun _ => ⟨fun _ => ⟨fun _ => ⟨gl_i2, fun _ => ⟨fun _ => ⟨fun _ => ⟨fun _ => ⟨fun _ => ⟨fun _ => ⟨⟨isRec1 _ _, gl_R1, by decide⟩, ?_⟩, nope gl_he⟩, nope gl_dl⟩, nope gl_ds⟩, nope gl_tl⟩, nope gl_to⟩, nope gl_c2⟩, nope gl_hn⟩, nope gl_hd⟩, nope gl_h2⟩, nope gl_h1⟩, nope gl_hn⟩, nope gl_hd⟩
 simp only [fitP, valEq]
 exact gl_fin
theorem wakes_ok : SoundSpec Try.prog 16 S_wakes := by
 refine ⟨⟨_, Try.func16, by kernel_rfl, by kernel_rfl⟩, ?_⟩
 intro avs ns res h hn
 unfold S_wakes at h
 split at h
 ·cases h
  exact wakes_at 
 ·cases h
end Go.Proofs.Ytlinbkmpkcmniaa
namespace Go.Proofs.Ytlinbkmpkcmniaa
open Go Go.Sx Go.RowKit Bo Go.ChangeShapes Go.WideShapes Go.ChangeAt
open Go.Sx.Tree (need branch leaf)
open Go.Sx.AV (lst ptr agg roI tup top)
end Go.Proofs.Ytlinbkmpkcmniaa
namespace Go.Proofs.Ytlinbkmpkcmniaa
open Go Go.Sx Go.RowKit Bo
open Go.Sx.Tree (need branch leaf)
open Go.Sx.AV (lst ptr agg roI tup top)
def firstO (f : Nat → Option (List Int)) : Nat → Nat → Option (List Int)
 | _, 0 => none
 | s, k + 1 => match f s with
  | some r => some r
  | none => firstO f (s + 1) k
def lvF (p : List Int → Bool) (n : Nat) : Nat → List Int → Nat → Option (List Int)
 | 0, out, _ => if p out then some out else none
 | m + 1, out, s => firstO (fun k => lvF p n m (out ++ [(k : Int)]) (k + 1)) s (n - s)
def lvG (p : List Int → Bool) (n m : Nat) (out : List Int) (s : Nat) : List Int := (lvF p n m out s).getD []
def noAka (m : Mem) : Mem := m.filter fun p => !isAka p.2
def keepN (k : Nat) (ids : List Nat) : Mem → List Prop
 | [] => []
 | (q, r) :: t => match ids.any (Nat.beq q) with
  | true => match r with
   | .row T sz n' f' => (T = 3 ∧ sz = 1 ∧ n' ≤ k ∧ isRec 1 n' f') :: keepN k ids t
   | .aka _ _ _ _ _ => keepN k ids t
   | _ => False :: keepN k ids t
  | false => keepN k ids t
def numsB : List (Nat × Nat) → Bool
 | [] => true
 | (x, y) :: t => match Nat.beq x y with
  | true => numsB t
  | false => false
def lvOut (m : Mem) : AV → Option (List Nat × Nat × (Nat → List AV))
 | .row q => match getM m q with
  | some (.row T sz k g) => match numsB [(T, 3), (sz, 1)] with
   | true => some ([q], k, g)
   | false => none
  | some (.aka r T sz k g) => match numsB [(T, 3), (sz, 1)] with
   | true => some ([q, r], k, g)
   | false => none
  | _ => none
 | .x (.slice none 0 0) => some ([], 0, fun _ => [])
 | _ => none
def outL (k : Nat) (g : Nat → List AV) : List Int := (List.range k).map (col 0 g)
def risF : Nat → Nat → List Int → Prop
 | _, _, [] => True
 | s, n, x :: t => (s : Int) ≤ x ∧ x < n ∧ risF (x.toNat + 1) n t
def lexL : List Int → List Int → Bool
 | x :: a, y :: b => if x = y then lexL a b else decide (x < y)
 | _, _ => false
def blR (p : List Int → Bool) (n : Nat) : List Int := (firstO (fun m => lvF p n m [] 0) 0 (n + 1)).getD []
def numsL (s : Nat) : Nat → List Int
 | 0 => []
 | k + 1 => (s : Int) :: numsL (s + 1) k
theorem nthJ_get : ∀ {l : List Int} {k : Nat} (h : k < l.length), nthJ l k = l[k]
 | x :: l, 0, h => rfl
 | x :: l, k + 1, h => nthJ_get (l := l) (k := k) (by simpa using h)
theorem nthJ_bang : ∀ (l : List Int) (j : Nat), j < l.length → l[j]? = some (nthJ l j) := fun l j hj => by rw [List.getElem?_eq_getElem hj, nthJ_get hj]
theorem outL_list {k : Nat} {g : Nat → List AV} {l : List Int} (hl : l.length = k) (h : ∀ j, j < k → g j = [i (nthJ l j)]) : outL k g = l := by
 unfold outL
 apply List.ext_getElem?
 intro j
 rcases Nat.lt_or_ge j k with hj | hj
 ·rw [List.getElem?_map, List.getElem?_range hj, List.getElem?_eq_getElem (by omega)]
  simp only [Option.map_some, Option.some.injEq]
  unfold col
  rw [h j hj, nthJ_get (by omega)]
  rfl
 ·rw [List.getElem?_eq_none (by simp; omega), List.getElem?_eq_none (by omega)]
theorem outL_app (l : List Int) (x : Int) : outL (l.length + 1) (catF l.length (fun j => [i (nthJ l j)]) (chunk 1 [i x])) = l ++ [x] := outL_list (by simp) fun j hj => catJ1 hj
theorem rec_app (l : List Int) (x : Int) : isRec 1 (l.length + 1) (catF l.length (fun j => [i (nthJ l j)]) (chunk 1 [i x])) := fun j hj => by
 rw [catJ1 hj]
 rfl
theorem firstO_none {f : Nat → Option (List Int)} : ∀ {k s : Nat}, firstO f s k = none ↔ ∀ j, s ≤ j → j < s + k → f j = none
 | 0, s => ⟨fun _ j h1 h2 => by omega, fun _ => rfl⟩
 | k + 1, s => by
  unfold firstO
  cases h : f s with
  | some r => exact ⟨fun h1 => (by cases h1), fun h1 => (by rw [h1 s (Nat.le_refl _) (by omega)] at h; cases h)⟩
  | none =>
   simp only
   rw [firstO_none]
   refine ⟨fun h1 j h2 h3 => ?_, fun h1 j h2 h3 => h1 j (by omega) (by omega)⟩
   rcases (show j = s ∨ s + 1 ≤ j by omega) with rfl | h4
   ·exact h
   ·exact h1 j h4 (by omega)
theorem firstO_some {f : Nat → Option (List Int)} {r : List Int} {q : Nat} (hq : f q = some r) : ∀ {k s : Nat}, s ≤ q → q < s + k → (∀ j, s ≤ j → j < q → f j = none) → firstO f s k = some r
 | 0, s, h1, h2, _ => by omega
 | k + 1, s, h1, h2, h3 => by
  unfold firstO
  rcases (show s = q ∨ s < q by omega) with rfl | h4
  ·rw [hq]
  ·rw [h3 s (Nat.le_refl _) h4]
   exact firstO_some hq h4 (by omega) (fun j h5 h6 => h3 j (by omega) h6)
theorem numsB_cons {x y : Nat} {t : List (Nat × Nat)} : numsB ((x, y) :: t) = true ↔ x = y ∧ numsB t = true := by
 show (match Nat.beq x y with | true => numsB t | false => false) = true ↔ _
 cases h : Nat.beq x y with
 | true => simp [Nat.eq_of_beq_eq_true h]
 | false =>
  simp only [Bool.false_eq_true, false_iff, not_and]
  intro he
  rw [he, Nat.beq_refl] at h
  cases h
theorem nbeq_ne {x y : Nat} (h : (!Nat.beq x y) = true) : x ≠ y := by
 rintro rfl
 rw [Nat.beq_refl] at h
 cases h
theorem keepN_spec {k : Nat} {ids : List Nat} : ∀ {m : Mem}, (∀ p ∈ keepN k ids m, p) → ∀ p ∈ m, p.1 ∈ ids → isAka p.2 = true ∨ ∃ n' f', p.2 = .row 3 1 n' f' ∧ n' ≤ k ∧ isRec 1 n' f'
 | [], _, p, hp, _ => by cases hp
 | (q, r) :: t, h, p, hp, hi => by
  unfold keepN at h
  rcases List.mem_cons.1 hp with rfl | hp
  ·have hany : ids.any (Nat.beq q) = true := List.any_eq_true.2 ⟨q, hi, Nat.beq_refl q⟩
   rw [hany] at h
   cases r with
   | row T sz n' f' =>
    obtain ⟨rfl, rfl, h1, h2⟩ := h _ List.mem_cons_self
    exact .inr ⟨n', f', rfl, h1, h2⟩
   | aka _ _ _ _ _ => exact .inl rfl
   | cells _ _ => exact (h _ List.mem_cons_self).elim
   | memo _ _ => exact (h _ List.mem_cons_self).elim
   | ints _ _ _ _ => exact (h _ List.mem_cons_self).elim
  ·refine keepN_spec (m := t) (fun x hx => h x ?_) p hp hi
   split
   ·split
    ·exact List.mem_cons_of_mem _ hx
    ·exact hx
    ·exact List.mem_cons_of_mem _ hx
   ·exact hx
theorem noAka_mem {m : Mem} {p : Nat × Res} (h : p ∈ noAka m) : p ∈ m ∧ isAka p.2 = false := by
 unfold noAka at h
 rw [List.mem_filter] at h
 exact ⟨h.1, by simpa using h.2⟩
theorem rowO_ex {e : Env} {w : World} {id o n : Nat} {f : Nat → List AV} (h : RowO e w id o 3 1 n f) (hr : isRec 1 n f) : w.ownsRow 0 3 1 (e.val id) n ((outL n f).map (Value.int .i64)) := by
 obtain ⟨h2, hf, xs, h3, h4⟩ := h
 have hx : xs = (outL n f).map (Value.int .i64) := by
  apply List.ext_getElem?
  intro j
  unfold outL
  have hl : xs.length = n * 1 := h3.1
  rcases Nat.lt_or_ge j n with hj | hj
  ·have hx : xs[j]? = some xs[j] := List.getElem?_eq_getElem (by omega)
   have e1 : (f j)[0]? = some (iI (col 0 f j)) := by
    rw [hr j hj]
    rfl
   have := h4 j 0 _ xs[j] hj e1 (by rw [show j * 1 + 0 = j by omega]; exact hx)
   rw [hx, this.x_inv]
   simp [hj]
  ·rw [List.getElem?_eq_none (by omega), List.getElem?_eq_none (by simp; omega)]
 subst hx
 exact h3
theorem row_ex2 {e : Env} {w : World} {id n : Nat} {f : Nat → List AV} (h : Holds e w id (.row 3 1 n f)) (hr : isRec 1 n f) : w.ownsRow 0 3 1 (e.val id) n ((outL n f).map (Value.int .i64)) := rowO_ex (o := id) h.2 hr
theorem lvOut_of {e : Env} {w : World} {m : Mem} {o : AV} {ids : List Nat} {k : Nat} {g : Nat → List AV} {ov : Value} (h : lvOut m o = some (ids, k, g)) (hm : MemOk e m w) (hr : isRec 1 k g) (r : Rep e w o ov) :
  (∃ a nn cc, ov = .slice a nn cc) ∧ w.ownsRow 0 3 1 ov k ((outL k g).map (Value.int .i64)) ∧ ∀ b, ov.ownBlock = some b → ∃ j, j ∈ ids ∧ e.own b = some j := by
 unfold lvOut at h
 split at h
 ·rename_i q
  have hv : ∃ a nn cc, ov = .slice a nn cc ∧ e.val q = ov := by
   cases r with
   | row _ a nn cc _ hv => exact ⟨a, nn, cc, rfl, hv⟩
  obtain ⟨a, nn, cc, h1, h2⟩ := hv
  split at h
  ·rename_i T sz k' g' hg
   split at h
   ·rename_i hb
    simp only [numsB_cons] at hb
    obtain ⟨rfl, rfl, _⟩ := hb
    cases h
    have hh := hm _ (getM_mem hg)
    have hx := row_ex2 hh hr
    simp only at hx
    rw [h2] at hx
    refine ⟨⟨a, nn, cc, h1⟩, hx, fun b hb => ⟨q, List.mem_singleton.2 rfl, hh.2.1 b ?_⟩⟩
    show (e.val q).ownBlock = some b
    rw [h2]
    exact hb
   ·cases h
  ·rename_i r' T sz k' g' hg
   split at h
   ·rename_i hb
    simp only [numsB_cons] at hb
    obtain ⟨rfl, rfl, _⟩ := hb
    cases h
    obtain ⟨g1, g2, o', hor, hO⟩ := hm _ (getM_mem hg)
    have hx := rowO_ex hO hr
    simp only at hx
    rw [h2] at hx
    refine ⟨⟨a, nn, cc, h1⟩, hx, fun b hb => ⟨o', ?_, hO.1 b ?_⟩⟩
    ·rcases hor with rfl | rfl
     ·exact List.mem_cons_self
     ·exact List.mem_cons_of_mem _ List.mem_cons_self
    ·show (e.val q).ownBlock = some b
     rw [h2]
     exact hb
   ·cases h
  ·cases h
 ·cases h
  cases r.x_inv
  exact ⟨⟨none, 0, 0, rfl⟩, World.ownsRow_nil _ _ _ _, fun b hb => by cases hb⟩
 ·cases h
theorem holds_lv {e e' : Env} {B : Nat} {w w1 : World} {bf bm k : Nat} {ov : Value} {xs : List Value} {ids : List Nat} {fo mp : Nat} (st : Step e e' w w1) (hown : ∀ b j, e.own b = some j → e'.own b = some j) (hE : EnvOk e B w)
  (hsame : ∀ b, b < w.heap.size → b ≠ bf → b ≠ bm → ov.ownBlock ≠ some b → w1.heap[b]? = w.heap[b]?) (hbf : e.own bf = some fo) (hbm : e.own bm = some mp) (hob : ∀ b, ov.ownBlock = some b → ∃ j, j ∈ ids ∧ e.own b = some j)
  (ho : w.ownsRow 0 3 1 ov k xs) (ho1 : w1.ownsRow 0 3 1 ov k xs) {p : Nat × Res} (hp : p.1 ≠ fo) (hp2 : p.1 ≠ mp) (hna : isAka p.2 = false) (hk : p.1 ∈ ids → isAka p.2 = true ∨ ∃ n' f', p.2 = .row 3 1 n' f' ∧ n' ≤ k ∧ isRec 1 n' f') (h : Holds e w p.1 p.2) : Holds e' w1 p.1 p.2 := by
 obtain ⟨q, r⟩ := p
 simp only at hp hp2 hna hk h ⊢
 have hb : ∀ b, e.own b = some q → b ≠ bf := fun b hb he => hp (by rw [he, hbf] at hb; exact (Option.some.inj hb).symm)
 have hb2 : ∀ b, e.own b = some q → b ≠ bm := fun b hb he => hp2 (by rw [he, hbm] at hb; exact (Option.some.inj hb).symm)
 have hout : ∀ b, e.own b = some q → (∀ n' f', r ≠ .row 3 1 n' f') → w1.heap[b]? = w.heap[b]? := by
  intro b hq hnr
  refine hsame b (hE.owned b q hq).2 (hb b hq) (hb2 b hq) fun he => ?_
  obtain ⟨j, hj, hj2⟩ := hob b he
  have : q = j := by rw [hq] at hj2; exact Option.some.inj hj2
  rcases hk (this ▸ hj) with h1 | ⟨n', f', h1, _⟩
  ·rw [hna] at h1; cases h1
  ·exact hnr n' f' h1
 cases r with
 | cells T l =>
  obtain ⟨h1, h2, vs, h3, h4⟩ := h
  obtain ⟨l1, l2, l3⟩ := st.live q h1
  refine ⟨l1, by rw [l2]; exact hown _ _ h2, vs, ?_, h4.step st⟩
  rw [l2, hout _ h2 (fun _ _ hh => by cases hh)]
  exact h3
 | ints T pre n f =>
  obtain ⟨h1, h2, vs, h3, h4⟩ := h
  obtain ⟨l1, l2, l3⟩ := st.live q h1
  refine ⟨l1, by rw [l2]; exact hown _ _ h2, vs, ?_, h4.step st⟩
  rw [l2, hout _ h2 (fun _ _ hh => by cases hh)]
  exact h3
 | memo g f =>
  obtain ⟨h1, h2, es, c, h3, h4⟩ := h
  obtain ⟨l1, l2, l3⟩ := st.live q h1
  refine ⟨l1, by rw [l2]; exact hown _ _ h2, es, c, ?_, h4⟩
  rw [l2, hout _ h2 (fun _ _ hh => by cases hh)]
  exact h3
 | aka _ _ _ _ _ => cases hna
 | row T sz n f =>
  have h' := h
  obtain ⟨h1, h2, hf, ys, h3, h4⟩ := h
  obtain ⟨l1, l2, l3⟩ := st.live q h1
  refine ⟨l1, fun b hb' => hown _ _ (h2 b (by rw [← l3]; exact hb')), hf, ys, ?_, fun i j a v hi ha hv => (h4 i j a v hi ha hv).step st⟩
  rw [l3]
  refine ⟨h3.1, h3.2.imp (fun h => h) ?_⟩
  rintro ⟨g', cap', cur', hv, hg, hh, r1, r2, r3, r4⟩
  have hq := h2 g' (by rw [hv]; rfl)
  rcases Classical.em (ov.ownBlock = some g') with he | he
  ·obtain ⟨j, hj, hj2⟩ := hob g' he
   have hqj : q = j := by rw [hq] at hj2; exact Option.some.inj hj2
   rcases hk (hqj ▸ hj) with h5 | ⟨n', f', h5, hle, hrec⟩
   ·cases h5
   ·cases h5
    rcases ho.2 with ⟨hv2, _⟩ | ⟨g2, cap2, cur2, hv2, _, hh2, s1, s2, s3, s4⟩
    ·rw [hv2] at he; cases he
    ·rcases ho1.2 with ⟨hv3, _⟩ | ⟨g3, cap3, cur3, hv3, _, hh3, t1, t2, t3, t4⟩
     ·rw [hv3] at he; cases he
     ·rw [hv2] at hv3
      injection hv3 with u1 u2 u3
      injection u1 with u1
      injection u1 with u1
      have hg2 : g2 = g' := by rw [hv2] at he; exact Option.some.inj he
      rw [hg2] at hh2
      rw [← u1, hg2] at hh3
      have hcc : cur' = cur2 := by
       rw [hh] at hh2
       injection hh2 with hh2
       injection hh2
      refine ⟨g', cap', cur3, hv, hg, hh3, r1, r2, by rw [t3, ← u3, ← s3, ← hcc]; exact r3, ?_⟩
      rw [← r4, hcc]
      have e1 := congrArg (List.take (n * 1)) s4
      have e2 := congrArg (List.take (n * 1)) t4
      rw [List.take_take, Nat.min_eq_left (by omega)] at e1 e2
      rw [e1, e2]
  ·exact ⟨g', cap', cur', hv, hg, (hsame g' (hE.owned g' q hq).2 (hb g' hq) (hb2 g' hq) he).trans hh, r1, r2, r3, r4⟩
theorem risF_len : ∀ {S : List Int} {s n : Nat}, risF s n S → S.length ≤ n - s
 | [], _, _, _ => Nat.zero_le _
 | x :: t, s, n, h => by
  obtain ⟨h1, h2, h3⟩ := h
  have := risF_len h3
  rw [List.length_cons]
  omega
theorem firstO_inv {f : Nat → Option (List Int)} {R : List Int} : ∀ {k s : Nat}, firstO f s k = some R → ∃ q, s ≤ q ∧ q < s + k ∧ f q = some R ∧ ∀ j, s ≤ j → j < q → f j = none
 | 0, _, h => by cases h
 | k + 1, s, h => by
  unfold firstO at h
  cases hf : f s with
  | some r =>
   rw [hf] at h
   cases h
   exact ⟨s, Nat.le_refl _, by omega, hf, fun j h1 h2 => by omega⟩
  | none =>
   rw [hf] at h
   obtain ⟨q, h1, h2, h3, h4⟩ := firstO_inv h
   refine ⟨q, by omega, by omega, h3, fun j h5 h6 => ?_⟩
   rcases (show j = s ∨ s + 1 ≤ j by omega) with rfl | h7
   ·exact hf
   ·exact h4 j h7 h6
theorem lvF_some {p : List Int → Bool} {n : Nat} : ∀ {S out : List Int} {s : Nat}, risF s n S → p (out ++ S) = true → (lvF p n S.length out s).isSome = true
 | [], out, s, _, hp => by
  rw [List.append_nil] at hp
  show (if p out then some out else none).isSome = true
  rw [if_pos hp]
  rfl
 | x :: t, out, s, h, hp => by
  obtain ⟨h1, h2, h3⟩ := h
  have ih := lvF_some (p := p) (out := out ++ [x]) h3 (by rw [List.append_assoc]; exact hp)
  show (firstO (fun k => lvF p n t.length (out ++ [(k : Int)]) (k + 1)) s (n - s)).isSome = true
  cases hf : firstO (fun k => lvF p n t.length (out ++ [(k : Int)]) (k + 1)) s (n - s) with
  | some r => rfl
  | none =>
   have := firstO_none.1 hf x.toNat (by omega) (by omega)
   have e : ((x.toNat : Nat) : Int) = x := by omega
   simp only [e] at this
   rw [this] at ih
   cases ih
theorem lvF_spec {p : List Int → Bool} {n : Nat} : ∀ {m : Nat} {out : List Int} {s : Nat} {R : List Int}, lvF p n m out s = some R → ∃ S, R = out ++ S ∧ S.length = m ∧ risF s n S ∧ p R = true ∧ ∀ S', S'.length = m → risF s n S' → p (out ++ S') = true → lexL S' S = false
 | 0, out, s, R, h => by
  have h : (if p out then some out else none) = some R := h
  split at h
  ·rename_i hp
   cases h
   exact ⟨[], by simp, rfl, trivial, hp, fun S' h1 _ _ => by rw [List.eq_nil_of_length_eq_zero h1]; rfl⟩
  ·cases h
 | m + 1, out, s, R, h => by
  obtain ⟨q, h1, h2, h3, h4⟩ := firstO_inv (f := fun k => lvF p n m (out ++ [(k : Int)]) (k + 1)) h
  obtain ⟨S, e1, e2, e3, e4, e5⟩ := lvF_spec h3
  refine ⟨(q : Int) :: S, by rw [e1, List.append_assoc]; rfl, by rw [List.length_cons, e2], ⟨by omega, by omega, by rw [Int.toNat_natCast]; exact e3⟩, e4, fun S' h5 h6 h7 => ?_⟩
  cases S' with
  | nil => cases h5
  | cons x t =>
   obtain ⟨g1, g2, g3⟩ := h6
   have ht : t.length = m := by simpa using h5
   show (if x = (q : Int) then lexL t S else decide (x < (q : Int))) = false
   by_cases hx : x = (q : Int)
   ·rw [if_pos hx]
    subst hx
    rw [Int.toNat_natCast] at g3
    exact e5 t ht g3 (by rw [List.append_assoc]; exact h7)
   ·rw [if_neg hx, decide_eq_false_iff_not]
    intro hlt
    have hn := h4 x.toNat (by omega) (by omega)
    have e : ((x.toNat : Nat) : Int) = x := by omega
    simp only [e] at hn
    have := lvF_some (p := p) (out := out ++ [x]) g3 (by rw [List.append_assoc]; exact h7)
    rw [ht, hn] at this
    cases this
theorem blR_spec {p : List Int → Bool} {n : Nat} {S0 : List Int} (h : risF 0 n S0) (hp : p S0 = true) : ∃ m, m ≤ n ∧ lvF p n m [] 0 = some (blR p n) ∧ (∀ j, j < m → lvF p n j [] 0 = none) ∧ risF 0 n (blR p n) ∧ p (blR p n) = true ∧ (blR p n).length = m ∧
  ∀ S, risF 0 n S → p S = true → m ≤ S.length ∧ (S.length = m → lexL S (blR p n) = false) := by
 have hl := risF_len h
 have h0 := lvF_some (p := p) (out := []) h hp
 cases hf : firstO (fun m => lvF p n m [] 0) 0 (n + 1) with
 | none =>
  have := firstO_none.1 hf S0.length (Nat.zero_le _) (by omega)
  rw [this] at h0
  cases h0
 | some R =>
  obtain ⟨m, _, h2, h3, h4⟩ := firstO_inv hf
  have eR : blR p n = R := by unfold blR; rw [hf]; rfl
  rw [eR]
  obtain ⟨S, e1, e2, e3, e4, e5⟩ := lvF_spec h3
  have e1 : R = S := e1
  subst e1
  refine ⟨m, by omega, h3, fun j hj => h4 j (Nat.zero_le _) hj, e3, e4, e2, fun S hS hpS => ⟨?_, fun hm => e5 S hm hS hpS⟩⟩
  rcases Nat.lt_or_ge S.length m with hlt | hge
  ·have h6 := lvF_some (p := p) (out := []) hS hpS
   rw [h4 S.length (Nat.zero_le _) hlt] at h6
   cases h6
  ·exact hge
theorem numsL_ris : ∀ {k s n : Nat}, s + k ≤ n → risF s n (numsL s k)
 | 0, _, _, _ => trivial
 | k + 1, s, n, h => ⟨Int.le_refl _, by omega, by rw [Int.toNat_natCast]; exact numsL_ris (by omega)⟩
theorem numsL_nth : ∀ {k s j : Nat}, j < k → nthJ (numsL s k) j = ((s + j : Nat) : Int)
 | k + 1, s, 0, _ => rfl
 | k + 1, s, j + 1, h => by
  have := numsL_nth (k := k) (s := s + 1) (j := j) (by omega)
  show nthJ (numsL (s + 1) k) j = _
  rw [this]
  congr 1
  omega
theorem numsL_len : ∀ {k s : Nat}, (numsL s k).length = k
 | 0, _ => rfl
 | k + 1, s => by rw [numsL, List.length_cons, numsL_len]
end Go.Proofs.Ytlinbkmpkcmniaa
namespace Go.Proofs.Ytlinbkmpkcmniaa
open Go Go.Sx Go.RowKit Bo
open Go.Sx.Tree (need branch leaf)
open Go.Sx.AV (lst ptr agg roI tup top)
def bitsL (out : List Int) : Int := out.foldl (fun b k => orI b (1 * 2 ^ k.toNat)) 0
def enL (c T lo hi : Int) (n : Nat) (a b u v : Nat → Int) (m : Nat) (p q : Nat → Int) (pl ph dl dh : Int) (u0 u1 wi day : Int) (out : List Int) : Bool := enB c T lo hi n a b u v m p q pl ph dl dh u0 u1 wi day (bitsL out)
noncomputable def TM (c T lo hi : Int) (n : Nat) (a b u v : Nat → Int) (m : Nat) (p q : Nat → Int) (pl ph dl dh : Int) (u0 u1 wi day : Int) (s1 : Option Addr) (a1 b1 : Nat) (s2 : Option Addr) (a2 b2 : Nat) (s3 : Option Addr) (a3 b3 : Nat) (s4 : Option Addr) (a4 b4 : Nat) (out : List Int) : Mem := [(0, .cells 69 [.ptr 4 0]), (1, .cells 43 [.top]), (2, .cells 31 [i c, i T, i lo, i hi, rds n a b u v, Pt.scs m p q, i pl, i ph, i dl, i dh]), (2, .cells 31 [i c, i T, i lo, i hi, .x (.slice s1 a1 b1), .x (.slice s2 a2 b2), i pl, i ph, i dl, i dh]), (3, .cells 74 [.fn (.func 22) [] [.ptr 0 0, .ptr 1 0, .ptr 2 0, .ptr 3 0]]), (4, .cells 94 [i c, i T, i lo, i hi, rds n a b u v, Pt.scs m p q, i pl, i ph, i dl, i dh, i u0, i u1, i wi, i day, .mp 5]), (4, .cells 94 [i c, i T, i lo, i hi, .x (.slice s3 a3 b3), .x (.slice s4 a4 b4), i pl, i ph, i dl, i dh, i u0, i u1, i wi, i day, .mp 5]), (5, .memo enH (enF c T lo hi n a b u v m p q pl ph dl dh u0 u1 wi day)), (6, .row 3 1 out.length (fun j => [i (nthJ out j)]))]
noncomputable def TT_ (c T lo hi : Int) (n : Nat) (a b u v : Nat → Int) (m : Nat) (p q : Nat → Int) (pl ph dl dh : Int) (u0 u1 wi day : Int) (s1 : Option Addr) (a1 b1 : Nat) (s2 : Option Addr) (a2 b2 : Nat) (s3 : Option Addr) (a3 b3 : Nat) (s4 : Option Addr) (a4 b4 : Nat) (out R : List Int) : St := { σ := [], m := [(900, .row 3 1 R.length (fun j => [i (nthJ R j)])), (0, .cells 69 [.ptr 4 0]), (1, .cells 43 [.row 900]), (2, .cells 31 [i c, i T, i lo, i hi, rds n a b u v, Pt.scs m p q, i pl, i ph, i dl, i dh]), (2, .cells 31 [i c, i T, i lo, i hi, .x (.slice s1 a1 b1), .x (.slice s2 a2 b2), i pl, i ph, i dl, i dh]), (3, .cells 74 [.fn (.func 22) [] [.ptr 0 0, .ptr 1 0, .ptr 2 0, .ptr 3 0]]), (4, .cells 94 [i c, i T, i lo, i hi, rds n a b u v, Pt.scs m p q, i pl, i ph, i dl, i dh, i u0, i u1, i wi, i day, .mp 5]), (4, .cells 94 [i c, i T, i lo, i hi, .x (.slice s3 a3 b3), .x (.slice s4 a4 b4), i pl, i ph, i dl, i dh, i u0, i u1, i wi, i day, .mp 5]), (5, .memo enH (enF c T lo hi n a b u v m p q pl ph dl dh u0 u1 wi day)), (6, .row 3 1 out.length (fun j => [i (nthJ out j)]))], nx := 901, sv := [[.ptr 0 0, .ptr 1 0, .ptr 2 0, .ptr 3 0, .row 6, .ptr 4 0, .mp 5]] }
noncomputable def TF_ (c T lo hi : Int) (n : Nat) (a b u v : Nat → Int) (m : Nat) (p q : Nat → Int) (pl ph dl dh : Int) (u0 u1 wi day : Int) (s1 : Option Addr) (a1 b1 : Nat) (s2 : Option Addr) (a2 b2 : Nat) (s3 : Option Addr) (a3 b3 : Nat) (s4 : Option Addr) (a4 b4 : Nat) (out : List Int) : St := { σ := [], m := [(0, .cells 69 [.ptr 4 0]), (1, .cells 43 [.top]), (2, .cells 31 [i c, i T, i lo, i hi, rds n a b u v, Pt.scs m p q, i pl, i ph, i dl, i dh]), (2, .cells 31 [i c, i T, i lo, i hi, .x (.slice s1 a1 b1), .x (.slice s2 a2 b2), i pl, i ph, i dl, i dh]), (3, .cells 74 [.fn (.func 22) [] [.ptr 0 0, .ptr 1 0, .ptr 2 0, .ptr 3 0]]), (4, .cells 94 [i c, i T, i lo, i hi, rds n a b u v, Pt.scs m p q, i pl, i ph, i dl, i dh, i u0, i u1, i wi, i day, .mp 5]), (4, .cells 94 [i c, i T, i lo, i hi, .x (.slice s3 a3 b3), .x (.slice s4 a4 b4), i pl, i ph, i dl, i dh, i u0, i u1, i wi, i day, .mp 5]), (5, .memo enH (enF c T lo hi n a b u v m p q pl ph dl dh u0 u1 wi day)), (6, .row 3 1 out.length (fun j => [i (nthJ out j)]))], nx := 901, sv := [[.ptr 0 0, .ptr 1 0, .ptr 2 0, .ptr 3 0, .row 6, .ptr 4 0, .mp 5]] }
def distB : List Nat → Bool
 | [] => true
 | x :: l => match l.all (fun y => !Nat.beq x y) with
  | true => distB l
  | false => false
noncomputable def H_tk (N : Nat) : HSpec := fun avs mem nx sv => match avs with
 | [o, .agg [.x (.int .i64 sb)], .x (.int .i64 s), .x (.int .i64 M), .ptr t z1, .ptr fo z2, .ptr x z3, .ptr le z4] => match getM mem t, getM mem fo, getM mem x, getM mem le, lvOut mem o with
  | some (.cells Tt [.ptr tr z5]), some (.cells Tf [_]), some (.cells Tx [.x (.int .i64 c), .x (.int .i64 T), .x (.int .i64 lo), .x (.int .i64 hi), .lst sl n fr, .lst sm m ft, .x (.int .i64 pl), .x (.int .i64 ph), .x (.int .i64 dl), .x (.int .i64 dh)]), some (.cells Te [.fn (.func fg) [] [.ptr t' y1, .ptr fo' y2, .ptr x' y3, .ptr le' y4]]), some (ids, k, g) => match getM mem tr with
   | some (.cells Tr [.x (.int .i64 c2), .x (.int .i64 T2), .x (.int .i64 lo2), .x (.int .i64 hi2), .lst sl2 n2 fr2, .lst sm2 m2 ft2, .x (.int .i64 pl2), .x (.int .i64 ph2), .x (.int .i64 dl2), .x (.int .i64 dh2), .x (.int .i64 u0), .x (.int .i64 u1), .x (.int .i64 wi), .x (.int .i64 day), .mp mp]) => match getM mem mp with
    | some (.memo eh F) => match numsB [(z1, 0), (z2, 0), (z3, 0), (z4, 0), (z5, 0), (y1, 0), (y2, 0), (y3, 0), (y4, 0), (Tt, 69), (Tf, 43), (Tx, 31), (Te, 74), (Tr, 94), (sl, 4), (sm, 2), (sl2, 4), (sm2, 2), (fg, 22), (t, t'), (fo, fo'), (x, x'), (le, le')] && distB [t, fo, x, le, tr, mp] with
     | true => some (.needT ([isRec 4 n fr, isRec 2 m ft, isRec 1 k g, n ≤ 12, usB c u0 u1 wi = true, 0 ≤ day ∧ day ≤ 10000, eh = enH, F = enF c T lo hi n (col 0 fr) (col 1 fr) (col 2 fr) (col 3 fr) m (Pt.col 0 ft) (Pt.col 1 ft) pl ph dl dh u0 u1 wi day, sb = bitsL (outL k g), M = (N : Int), 0 ≤ s ∧ s ≤ n, k + N ≤ 1000, c2 = c, T2 = T, lo2 = lo, hi2 = hi, n2 = n, fr2 = fr, m2 = m, ft2 = ft, pl2 = pl, ph2 = ph, dl2 = dl, dh2 = dh] ++ keepN k ids mem)
       (.branch (lvF (enL c T lo hi n (col 0 fr) (col 1 fr) (col 2 fr) (col 3 fr) m (Pt.col 0 ft) (Pt.col 1 ft) pl ph dl dh u0 u1 wi day) n N (outL k g) s.toNat).isSome
        (.leaf (.lit true, (nx, .row 3 1 (lvG (enL c T lo hi n (col 0 fr) (col 1 fr) (col 2 fr) (col 3 fr) m (Pt.col 0 ft) (Pt.col 1 ft) pl ph dl dh u0 u1 wi day) n N (outL k g) s.toNat).length (fun j => [i (nthJ (lvG (enL c T lo hi n (col 0 fr) (col 1 fr) (col 2 fr) (col 3 fr) m (Pt.col 0 ft) (Pt.col 1 ft) pl ph dl dh u0 u1 wi day) n N (outL k g) s.toNat) j)])) :: setM (setM (noAka mem) fo (.cells 43 [.row nx])) mp (.memo eh F), nx + 1, sv))
        (.leaf (.lit false, setM (setM (noAka mem) fo (.cells 43 [.top])) mp (.memo eh F), nx, sv))))
     | false => none
    | _ => none
   | _ => none
  | _, _, _, _, _ => none
 | _ => none
theorem clI_atF (n : Nat) (f : Nat → Int) (pre0 : n ≤ 100000) : SoundFAt Try.prog 24 [.lst 1 n (fun k => [i (f k)])] 3 1 (n) (fun k => [i (f k)]) := by
 refine soundFAt_fin (G := []) (X := {}) (L := []) (SoundG.nil _) (SoundX.of (SoundRL.nil _) (SoundHL.nil _)) mixed Try.func24 (show Try.f24.body = some (bodyOf Try.f24) by kernel_rfl) noLoopsS (t := (Tree.may (n = 0) (leaf none) (need [(0 + n) * 8 ≤ 140737488355328, ∀ (i : Nat), i < n → ∀ (a : AV), a ∈ [Ytlinbkmpkcmniaa.i (f i)] → AV.one a = true] (leaf (some (3, 1, 0 + n, catF 0 (fun x => []) fun k => [iI (f k)])))))) (by kernel_rfl) ?_ (fun _ _ => rfl)
 simp only [Tree.sat, allP, fitF, true_and]
 refine ⟨fun h => h, ⟨by omega, fun k hk x hm => one_of (k := 0) (sz := 1) (l := [i (f k)]) (show x ∈ chunk 1 _ 0 from hm) (by simp [AV.one, Value.oneCell'])⟩, by omega, fun k hk => ⟨?_, ?_⟩⟩
 ·show mergeL (decide (k < 0)) [] [i (f (k - 0))] = _
  rw [show decide (k < 0) = false by simp]
  rfl
 ·intro x hm
  cases List.mem_singleton.1 hm
  exact True.intro
def F_clI : FSpec := fun l => match l with
 | [.lst 1 n f] => some ([isRec 1 n f, n ≤ 100000], 3, 1, n, fun j => [i (col 0 f j)])
 | _ => none
theorem SoundFAt.same {P : Program} {f : FuncId} {avs avs' : List AV} {T : TypeId} {sz n : Nat} {g : Nat → List AV} (h : SoundFAt P f avs' T sz n g) (k : Sames avs avs') : SoundFAt P f avs T sz n g := fun e w args hro hidf hr => h e w args hro (k.idf hidf) (k.rep hr)
theorem clI_okF : Sx.Enters Try.prog 24 ∧ ∀ avs ns T sz n g, F_clI avs = some (ns, T, sz, n, g) → (∀ q ∈ ns, q) → SoundFAt Try.prog 24 avs T sz n g := by
 refine ⟨⟨_, Try.func24, by kernel_rfl, by kernel_rfl⟩, ?_⟩
 intro avs ns T sz n g h hn
 unfold F_clI at h
 split at h
 ·rename_i n f
  cases h
  have hr : isRec 1 n f := hn _ (by simp)
  exact SoundFAt.same (clI_atF n (col 0 f) (hn _ (by simp))) (.cons (.lst 1 n _ _ hr) .nil)
 ·cases h
noncomputable def H_clI : HSpec := hOfF F_clI
theorem clI_okH : SoundHSpec Try.prog 24 H_clI := soundH_ofF clI_okF
noncomputable def E_et (c T lo hi : Int) (n : Nat) (a b u v : Nat → Int) (m : Nat) (p q : Nat → Int) (pl ph dl dh : Int) (u0 u1 wi day : Int) (s1 : Option Addr) (a1 b1 : Nat) (s2 : Option Addr) (a2 b2 : Nat) (s3 : Option Addr) (a3 b3 : Nat) (s4 : Option Addr) (a4 b4 : Nat) (out : List Int) (s : Nat) : St := (some { σ := [ptr 4 0, agg [iI (bitsL out)], top, ptr 13 0, AV.lit false, AV.x (Value.bool false), AV.lit false, ptr 21 0] ++ tpL 24 [lst 4 n fun k => [iI (a k), iI (b k), iI (u k), iI (v k)], iI (↑n : Int)] ++ tpL 44 [], m := [(950, Res.row 57 4 0 fun x => []), (21, Res.cells 31 [iI c, iI T, iI lo, iI hi, AV.row 950, lst 2 m fun k => [iI (p k), iI (q k)], iI pl, iI ph, iI dl, iI dh]), (13, Res.cells 71 [iI (bitsL out)]), (7, Res.cells 71 [iI (bitsL out)]), (0, Res.cells 69 [ptr 4 0]), (1, Res.cells 43 [top]), (2, Res.cells 31 [iI c, iI T, iI lo, iI hi, lst 4 n fun k => [iI (a k), iI (b k), iI (u k), iI (v k)], lst 2 m fun k => [iI (p k), iI (q k)], iI pl, iI ph, iI dl, iI dh]), (2, Res.cells 31 [iI c, iI T, iI lo, iI hi, AV.x (Value.slice s1 a1 b1), AV.x (Value.slice s2 a2 b2), iI pl, iI ph, iI dl, iI dh]), (3, Res.cells 74 [AV.fn (Fn.func 22) [] [ptr 0 0, ptr 1 0, ptr 2 0, ptr 3 0]]), (4, Res.cells 94 [iI c, iI T, iI lo, iI hi, lst 4 n fun k => [iI (a k), iI (b k), iI (u k), iI (v k)], lst 2 m fun k => [iI (p k), iI (q k)], iI pl, iI ph, iI dl, iI dh, iI u0, iI u1, iI wi, iI day, AV.mp 5]), (4, Res.cells 94 [iI c, iI T, iI lo, iI hi, AV.x (Value.slice s3 a3 b3), AV.x (Value.slice s4 a4 b4), iI pl, iI ph, iI dl, iI dh, iI u0, iI u1, iI wi, iI day, AV.mp 5]), (5, Res.memo (fun a => enH a) fun a_1 => Value.bool (enB c T lo hi n a b u v m p q pl ph dl dh u0 u1 wi day (keyI a_1))), (6, Res.row 3 1 (List.length out) fun j => [iI (nthJ out j)])], nx := 951, sv := [[AV.row 6, agg [iI (bitsL out)], iI (↑s : Int), iI (0 : Int), ptr 0 0, ptr 1 0, ptr 2 0, ptr 3 0, top, ptr 7 0, top, top, AV.lit false, top, iI (0 : Int), AV.lit true, ptr 4 0, agg [iI (bitsL out)], top, top, top, top, top, top, top, top, top, top, top, top, top, top, top, top, top, top, top, top, top, top, top, top, top, top, top], [ptr 0 0, ptr 1 0, ptr 2 0, ptr 3 0, AV.row 6, ptr 4 0, AV.mp 5]] } : Option St).getD { σ := [], m := [], nx := 0 }
noncomputable def B_et : Code := loopBody (loopAt (bodyOf Try.f23) 0)
noncomputable def inv_et (c T lo hi : Int) (n : Nat) (a b u v : Nat → Int) (m : Nat) (p q : Nat → Int) (pl ph dl dh : Int) (u0 u1 wi day : Int) (s1 : Option Addr) (a1 b1 : Nat) (s2 : Option Addr) (a2 b2 : Nat) (s3 : Option Addr) (a3 b3 : Nat) (s4 : Option Addr) (a4 b4 : Nat) (out : List Int) (s : Nat) (j : Nat) : St := { σ := ovrS [(34, i j)] (E_et c T lo hi n a b u v m p q pl ph dl dh u0 u1 wi day s1 a1 b1 s2 a2 b2 s3 a3 b3 s4 a4 b4 out s).σ, m := [(950, .row 57 4 (selL (bitsL out) j).length (fun q => [i (sg a (selL (bitsL out) j) q), i (sg b (selL (bitsL out) j) q), i (sg u (selL (bitsL out) j) q), i (sg v (selL (bitsL out) j) q)])), (21, .cells 31 [i c, i T, i lo, i hi, .row 950, Pt.scs m p q, i pl, i ph, i dl, i dh]), (13, .cells 71 [i (bitsL out)]), (7, .cells 71 [i (bitsL out)]), (0, .cells 69 [.ptr 4 0]), (1, .cells 43 [.top]), (2, .cells 31 [i c, i T, i lo, i hi, rds n a b u v, Pt.scs m p q, i pl, i ph, i dl, i dh]), (2, .cells 31 [i c, i T, i lo, i hi, .x (.slice s1 a1 b1), .x (.slice s2 a2 b2), i pl, i ph, i dl, i dh]), (3, .cells 74 [.fn (.func 22) [] [.ptr 0 0, .ptr 1 0, .ptr 2 0, .ptr 3 0]]), (4, .cells 94 [i c, i T, i lo, i hi, rds n a b u v, Pt.scs m p q, i pl, i ph, i dl, i dh, i u0, i u1, i wi, i day, .mp 5]), (4, .cells 94 [i c, i T, i lo, i hi, .x (.slice s3 a3 b3), .x (.slice s4 a4 b4), i pl, i ph, i dl, i dh, i u0, i u1, i wi, i day, .mp 5]), (5, .memo enH (enF c T lo hi n a b u v m p q pl ph dl dh u0 u1 wi day)), (6, .row 3 1 out.length (fun j => [i (nthJ out j)]))], nx := 951, sv := [mkS 45 [(0, .row 6), (1, .agg [i (bitsL out)]), (2, i s), (3, i 0), (4, .ptr 0 0), (5, .ptr 1 0), (6, .ptr 2 0), (7, .ptr 3 0), (9, .ptr 7 0), (12, .lit false), (14, i 0), (15, .lit true), (16, .ptr 4 0), (17, .agg [i (bitsL out)])], [.ptr 0 0, .ptr 1 0, .ptr 2 0, .ptr 3 0, .row 6, .ptr 4 0, .mp 5]] }
noncomputable def out_et (c T lo hi : Int) (n : Nat) (a b u v : Nat → Int) (m : Nat) (p q : Nat → Int) (pl ph dl dh : Int) (u0 u1 wi day : Int) (s1 : Option Addr) (a1 b1 : Nat) (s2 : Option Addr) (a2 b2 : Nat) (s3 : Option Addr) (a3 b3 : Nat) (s4 : Option Addr) (a4 b4 : Nat) (out : List Int) (s : Nat) (j : Nat) : AEx → Option St := fun ex => match ex with
 | .exit 0 => some { σ := ovrS [] (E_et c T lo hi n a b u v m p q pl ph dl dh u0 u1 wi day s1 a1 b1 s2 a2 b2 s3 a3 b3 s4 a4 b4 out s).σ, m := [(950, .row 57 4 (selL (bitsL out) n).length (fun q => [i (sg a (selL (bitsL out) n) q), i (sg b (selL (bitsL out) n) q), i (sg u (selL (bitsL out) n) q), i (sg v (selL (bitsL out) n) q)])), (21, .cells 31 [i c, i T, i lo, i hi, .row 950, Pt.scs m p q, i pl, i ph, i dl, i dh]), (13, .cells 71 [i (bitsL out)]), (7, .cells 71 [i (bitsL out)]), (0, .cells 69 [.ptr 4 0]), (1, .cells 43 [.top]), (2, .cells 31 [i c, i T, i lo, i hi, rds n a b u v, Pt.scs m p q, i pl, i ph, i dl, i dh]), (2, .cells 31 [i c, i T, i lo, i hi, .x (.slice s1 a1 b1), .x (.slice s2 a2 b2), i pl, i ph, i dl, i dh]), (3, .cells 74 [.fn (.func 22) [] [.ptr 0 0, .ptr 1 0, .ptr 2 0, .ptr 3 0]]), (4, .cells 94 [i c, i T, i lo, i hi, rds n a b u v, Pt.scs m p q, i pl, i ph, i dl, i dh, i u0, i u1, i wi, i day, .mp 5]), (4, .cells 94 [i c, i T, i lo, i hi, .x (.slice s3 a3 b3), .x (.slice s4 a4 b4), i pl, i ph, i dl, i dh, i u0, i u1, i wi, i day, .mp 5]), (5, .memo enH (enF c T lo hi n a b u v m p q pl ph dl dh u0 u1 wi day)), (6, .row 3 1 out.length (fun j => [i (nthJ out j)]))], nx := 951, sv := [mkS 45 [(0, .row 6), (1, .agg [i (bitsL out)]), (2, i s), (3, i 0), (4, .ptr 0 0), (5, .ptr 1 0), (6, .ptr 2 0), (7, .ptr 3 0), (9, .ptr 7 0), (12, .lit false), (14, i 0), (15, .lit true), (16, .ptr 4 0), (17, .agg [i (bitsL out)])], [.ptr 0 0, .ptr 1 0, .ptr 2 0, .ptr 3 0, .row 6, .ptr 4 0, .mp 5]] }
 | _ => none
noncomputable def T_et (c T lo hi : Int) (n : Nat) (a b u v : Nat → Int) (m : Nat) (p q : Nat → Int) (pl ph dl dh : Int) (u0 u1 wi day : Int) (s1 : Option Addr) (a1 b1 : Nat) (s2 : Option Addr) (a2 b2 : Nat) (s3 : Option Addr) (a3 b3 : Nat) (s4 : Option Addr) (a4 b4 : Nat) (out : List Int) (s : Nat) : CT := .leaf (.exit 0, ( out_et c T lo hi n a b u v m p q pl ph dl dh u0 u1 wi day s1 a1 b1 s2 a2 b2 s3 a3 b3 s4 a4 b4 out s 0 (.exit 0)).getD (E_et c T lo hi n a b u v m p q pl ph dl dh u0 u1 wi day s1 a1 b1 s2 a2 b2 s3 a3 b3 s4 a4 b4 out s))
noncomputable def LS_et (c T lo hi : Int) (n : Nat) (a b u v : Nat → Int) (m : Nat) (p q : Nat → Int) (pl ph dl dh : Int) (u0 u1 wi day : Int) (s1 : Option Addr) (a1 b1 : Nat) (s2 : Option Addr) (a2 b2 : Nat) (s3 : Option Addr) (a3 b3 : Nat) (s4 : Option Addr) (a4 b4 : Nat) (out : List Int) (s : Nat) : LSpec := normSp [(.cell 21 4, 950, 57, 4)] (sumL (inv_et c T lo hi n a b u v m p q pl ph dl dh u0 u1 wi day s1 a1 b1 s2 a2 b2 s3 a3 b3 s4 a4 b4 out s (0)) (T_et c T lo hi n a b u v m p q pl ph dl dh u0 u1 wi day s1 a1 b1 s2 a2 b2 s3 a3 b3 s4 a4 b4 out s))
theorem et_ls (c T lo hi : Int) (n : Nat) (a b u v : Nat → Int) (m : Nat) (p q : Nat → Int) (pl ph dl dh : Int) (u0 u1 wi day : Int) (s1 : Option Addr) (a1 b1 : Nat) (s2 : Option Addr) (a2 b2 : Nat) (s3 : Option Addr) (a3 b3 : Nat) (s4 : Option Addr) (a4 b4 : Nat) (out : List Int) (s : Nat) (pre0 : n ≤ 12) : LSound Try.prog (.loop B_et) (LS_et c T lo hi n a b u v m p q pl ph dl dh u0 u1 wi day s1 a1 b1 s2 a2 b2 s3 a3 b3 s4 a4 b4 out s) := by
 refine loop_roundsX [(.cell 21 4, 950, 57, 4)] (E := {}) (G := []) (L := []) (SoundG.nil _) (SoundX.of (SoundRL.nil _) (SoundHL.nil _)) mixed noLoops (X := Nat) (inv_et c T lo hi n a b u v m p q pl ph dl dh u0 u1 wi day s1 a1 b1 s2 a2 b2 s3 a3 b3 s4 a4 b4 out s) (fun j => j ≤ n) (fun j => n - j) (out_et c T lo hi n a b u v m p q pl ph dl dh u0 u1 wi day s1 a1 b1 s2 a2 b2 s3 a3 b3 s4 a4 b4 out s) (x0 := 0) (by simp) ?_ ?_ ?_
 ·rintro j
  kernel_rfl
 ·rintro j y E h
  unfold out_et at h
  split at h
  ·cases h; kernel_rfl
  ·cases h
 ·rintro Q hQ j hx
  refine ⟨(j + 1), ?_⟩
  have e : roundX Try.prog [] {} [] [(.cell 21 4, 950, 57, 4)] B_et (inv_et c T lo hi n a b u v m p q pl ph dl dh u0 u1 wi day s1 a1 b1 s2 a2 b2 s3 a3 b3 s4 a4 b4 out s j) (inv_et c T lo hi n a b u v m p q pl ph dl dh u0 u1 wi day s1 a1 b1 s2 a2 b2 s3 a3 b3 s4 a4 b4 out s ((j + 1))) (out_et c T lo hi n a b u v m p q pl ph dl dh u0 u1 wi day s1 a1 b1 s2 a2 b2 s3 a3 b3 s4 a4 b4 out s j) = (let z0 := enF c T lo hi n a b u v m p q pl ph dl dh u0 u1 wi day; let z1 := (selL (bitsL out) (j + 1)); let z2 := (agg [iI (bitsL out)]); let z3 := (AV.fn (Fn.func 22) [] [ptr 0 0, ptr 1 0, ptr 2 0, ptr 3 0]); let z4 := (lst 4 n (rq4 a b u v)); let z5 := (AV.x (Value.slice s1 a1 b1)); let z6 := (AV.x (Value.slice s2 a2 b2)); let z7 := (AV.x (Value.slice s3 a3 b3)); let z8 := (AV.x (Value.slice s4 a4 b4)); (branch (decide ((↑j : Int) < (↑n : Int))) (need [(0 : Int) ≤ (↑j : Int) ∧ (↑j : Int) < (↑n : Int)] (need [(0 : Int) ≤ (↑j : Int) ∧ (↑j : Int) ≤ 64] (branch (IntKind.wrap IntKind.i64 (↑(BitVec.toNat (BitVec.ofInt 64 (bitsL out / (2 : Int) ^ j) &&& BitVec.ofInt 64 (1 : Int))) : Int) == (1 : Int)) (need [(List.length (selL (bitsL out) j) + 1) * 32 ≤ 140737488355328, ∀ (i : Nat), i < 1 → ∀ (a_2 : AV), a_2 ∈ chunk 4 [iI (a j), iI (b j), iI (u j), iI (v j)] i → AV.one a_2 = true] (need [inI64 ((↑j : Int) + 1)] (need [Eq1 (ptr 4 0), Eq1 z2, Eq1 (ptr 13 0), Eq1 (AV.lit false), false = false, Eq1 (AV.lit false), Eq1 (ptr 21 0), z4 = lst 4 n (rq4 a b u v), Eq1 (↑n : Int), (↑j : Int) + 1 = (↑(j + 1) : Int), List.length (selL (bitsL out) j) + 1 = List.length z1, ∀ (i : Nat), i < List.length z1 → catF (List.length (selL (bitsL out) j)) (fun q => [Ytlinbkmpkcmniaa.i (sg a (selL (bitsL out) j) q), Ytlinbkmpkcmniaa.i (sg b (selL (bitsL out) j) q), Ytlinbkmpkcmniaa.i (sg u (selL (bitsL out) j) q), Ytlinbkmpkcmniaa.i (sg v (selL (bitsL out) j) q)]) (chunk 4 [iI (a j), iI (b j), iI (u j), iI (v j)]) i = [Ytlinbkmpkcmniaa.i (sg a z1 i), Ytlinbkmpkcmniaa.i (sg b z1 i), Ytlinbkmpkcmniaa.i (sg u z1 i), Ytlinbkmpkcmniaa.i (sg v z1 i)], c = c, T = T, lo = lo, hi = hi, Eq1 (AV.row 950), (lst 2 m fun k => [iI (p k), iI (q k)]) = lst 2 m fun k => [iI (p k), iI (q k)], pl = pl, ph = ph, dl = dl, dh = dh, Eq1 (bitsL out), Eq1 (bitsL out), Eq1 (ptr 4 0), c = c, T = T, lo = lo, hi = hi, z4 = lst 4 n (rq4 a b u v), (lst 2 m fun k => [iI (p k), iI (q k)]) = lst 2 m fun k => [iI (p k), iI (q k)], pl = pl, ph = ph, dl = dl, dh = dh, c = c, T = T, lo = lo, hi = hi, Eq1 z5, Eq1 z6, pl = pl, ph = ph, dl = dl, dh = dh, Eq1 z3, c = c, T = T, lo = lo, hi = hi, z4 = lst 4 n (rq4 a b u v), (lst 2 m fun k => [iI (p k), iI (q k)]) = lst 2 m fun k => [iI (p k), iI (q k)], pl = pl, ph = ph, dl = dl, dh = dh, u0 = u0, u1 = u1, wi = wi, day = day, Eq1 (AV.mp 5), c = c, T = T, lo = lo, hi = hi, Eq1 z7, Eq1 z8, pl = pl, ph = ph, dl = dl, dh = dh, u0 = u0, u1 = u1, wi = wi, day = day, Eq1 (AV.mp 5), ∀ (k : Value), enH k → enH k ∧ z0 k = z0 k, Eq1 (List.length out), ∀ (i : Nat), i < List.length out → [Ytlinbkmpkcmniaa.i (nthJ out i)] = [Ytlinbkmpkcmniaa.i (nthJ out i)], Eq1 (AV.row 6), Eq1 z2, Eq1 (↑s : Int), Eq1 (0 : Int), Eq1 (ptr 0 0), Eq1 (ptr 1 0), Eq1 (ptr 2 0), Eq1 (ptr 3 0), Eq1 (ptr 7 0), Eq1 (AV.lit false), Eq1 (0 : Int), Eq1 (AV.lit true), Eq1 (ptr 4 0), Eq1 z2, Eq1 (ptr 0 0), Eq1 (ptr 1 0), Eq1 (ptr 2 0), Eq1 (ptr 3 0), Eq1 (AV.row 6), Eq1 (ptr 4 0), Eq1 (AV.mp 5)] (leaf AEx.normal)))) (need [inI64 ((↑j : Int) + 1)] (need [Eq1 (ptr 4 0), Eq1 z2, Eq1 (ptr 13 0), Eq1 (AV.lit false), false = false, Eq1 (AV.lit false), Eq1 (ptr 21 0), z4 = lst 4 n (rq4 a b u v), Eq1 (↑n : Int), (↑j : Int) + 1 = (↑(j + 1) : Int), List.length (selL (bitsL out) j) = List.length z1, ∀ (i : Nat), i < List.length z1 → [Ytlinbkmpkcmniaa.i (sg a (selL (bitsL out) j) i), Ytlinbkmpkcmniaa.i (sg b (selL (bitsL out) j) i), Ytlinbkmpkcmniaa.i (sg u (selL (bitsL out) j) i), Ytlinbkmpkcmniaa.i (sg v (selL (bitsL out) j) i)] = [Ytlinbkmpkcmniaa.i (sg a z1 i), Ytlinbkmpkcmniaa.i (sg b z1 i), Ytlinbkmpkcmniaa.i (sg u z1 i), Ytlinbkmpkcmniaa.i (sg v z1 i)], c = c, T = T, lo = lo, hi = hi, Eq1 (AV.row 950), (lst 2 m fun k => [iI (p k), iI (q k)]) = lst 2 m fun k => [iI (p k), iI (q k)], pl = pl, ph = ph, dl = dl, dh = dh, Eq1 (bitsL out), Eq1 (bitsL out), Eq1 (ptr 4 0), c = c, T = T, lo = lo, hi = hi, z4 = lst 4 n (rq4 a b u v), (lst 2 m fun k => [iI (p k), iI (q k)]) = lst 2 m fun k => [iI (p k), iI (q k)], pl = pl, ph = ph, dl = dl, dh = dh, c = c, T = T, lo = lo, hi = hi, Eq1 z5, Eq1 z6, pl = pl, ph = ph, dl = dl, dh = dh, Eq1 z3, c = c, T = T, lo = lo, hi = hi, z4 = lst 4 n (rq4 a b u v), (lst 2 m fun k => [iI (p k), iI (q k)]) = lst 2 m fun k => [iI (p k), iI (q k)], pl = pl, ph = ph, dl = dl, dh = dh, u0 = u0, u1 = u1, wi = wi, day = day, Eq1 (AV.mp 5), c = c, T = T, lo = lo, hi = hi, Eq1 z7, Eq1 z8, pl = pl, ph = ph, dl = dl, dh = dh, u0 = u0, u1 = u1, wi = wi, day = day, Eq1 (AV.mp 5), ∀ (k : Value), enH k → enH k ∧ z0 k = z0 k, Eq1 (List.length out), ∀ (i : Nat), i < List.length out → [Ytlinbkmpkcmniaa.i (nthJ out i)] = [Ytlinbkmpkcmniaa.i (nthJ out i)], Eq1 (AV.row 6), Eq1 z2, Eq1 (↑s : Int), Eq1 (0 : Int), Eq1 (ptr 0 0), Eq1 (ptr 1 0), Eq1 (ptr 2 0), Eq1 (ptr 3 0), Eq1 (ptr 7 0), Eq1 (AV.lit false), Eq1 (0 : Int), Eq1 (AV.lit true), Eq1 (ptr 4 0), Eq1 z2, Eq1 (ptr 0 0), Eq1 (ptr 1 0), Eq1 (ptr 2 0), Eq1 (ptr 3 0), Eq1 (AV.row 6), Eq1 (ptr 4 0), Eq1 (AV.mp 5)] (leaf AEx.normal)))))) (need [Eq1 (ptr 4 0), Eq1 z2, Eq1 (ptr 13 0), Eq1 (AV.lit false), false = false, Eq1 (AV.lit false), Eq1 (ptr 21 0), z4 = lst 4 n (rq4 a b u v), Eq1 (↑n : Int), List.length (selL (bitsL out) j) = List.length (selL (bitsL out) n), ∀ (i : Nat), i < List.length (selL (bitsL out) n) → [Ytlinbkmpkcmniaa.i (sg a (selL (bitsL out) j) i), Ytlinbkmpkcmniaa.i (sg b (selL (bitsL out) j) i), Ytlinbkmpkcmniaa.i (sg u (selL (bitsL out) j) i), Ytlinbkmpkcmniaa.i (sg v (selL (bitsL out) j) i)] = [Ytlinbkmpkcmniaa.i (sg a (selL (bitsL out) n) i), Ytlinbkmpkcmniaa.i (sg b (selL (bitsL out) n) i), Ytlinbkmpkcmniaa.i (sg u (selL (bitsL out) n) i), Ytlinbkmpkcmniaa.i (sg v (selL (bitsL out) n) i)], c = c, T = T, lo = lo, hi = hi, Eq1 (AV.row 950), (lst 2 m fun k => [iI (p k), iI (q k)]) = lst 2 m fun k => [iI (p k), iI (q k)], pl = pl, ph = ph, dl = dl, dh = dh, Eq1 (bitsL out), Eq1 (bitsL out), Eq1 (ptr 4 0), c = c, T = T, lo = lo, hi = hi, z4 = lst 4 n (rq4 a b u v), (lst 2 m fun k => [iI (p k), iI (q k)]) = lst 2 m fun k => [iI (p k), iI (q k)], pl = pl, ph = ph, dl = dl, dh = dh, c = c, T = T, lo = lo, hi = hi, Eq1 z5, Eq1 z6, pl = pl, ph = ph, dl = dl, dh = dh, Eq1 z3, c = c, T = T, lo = lo, hi = hi, z4 = lst 4 n (rq4 a b u v), (lst 2 m fun k => [iI (p k), iI (q k)]) = lst 2 m fun k => [iI (p k), iI (q k)], pl = pl, ph = ph, dl = dl, dh = dh, u0 = u0, u1 = u1, wi = wi, day = day, Eq1 (AV.mp 5), c = c, T = T, lo = lo, hi = hi, Eq1 z7, Eq1 z8, pl = pl, ph = ph, dl = dl, dh = dh, u0 = u0, u1 = u1, wi = wi, day = day, Eq1 (AV.mp 5), ∀ (k : Value), enH k → enH k ∧ z0 k = z0 k, Eq1 (List.length out), ∀ (i : Nat), i < List.length out → [Ytlinbkmpkcmniaa.i (nthJ out i)] = [Ytlinbkmpkcmniaa.i (nthJ out i)], Eq1 (AV.row 6), Eq1 z2, Eq1 (↑s : Int), Eq1 (0 : Int), Eq1 (ptr 0 0), Eq1 (ptr 1 0), Eq1 (ptr 2 0), Eq1 (ptr 3 0), Eq1 (ptr 7 0), Eq1 (AV.lit false), Eq1 (0 : Int), Eq1 (AV.lit true), Eq1 (ptr 4 0), Eq1 z2, Eq1 (ptr 0 0), Eq1 (ptr 1 0), Eq1 (ptr 2 0), Eq1 (ptr 3 0), Eq1 (AV.row 6), Eq1 (ptr 4 0), Eq1 (AV.mp 5)] (leaf (AEx.exit 0))))) := by kernel_rfl
  rw [e]
  simp only [T_et, out_et, Tree.sat, Option.getD_some] at hQ
  have hl := selL_len (bitsL out) j
  have hs : selL (bitsL out) (j + 1) = if selB (bitsL out) j then selL (bitsL out) j ++ [j] else selL (bitsL out) j := rfl
  have hB : selB (bitsL out) j = (andI (bitsL out / 2 ^ j) 1 == 1) := rfl
  simp only [Tree.sat, allP, fitP, fitL, valEq, inI64, true_and, and_true, decide_eq_true_eq, decide_eq_false_iff_not, Int.toNat_natCast]
  clear e
  have hc4 : ∀ x1 x2 x3 x4 : Int, ∀ (q : Nat), q < 1 → ∀ y, y ∈ chunk 4 [iI x1, iI x2, iI x3, iI x4] q → AV.one y = true := fun _ _ _ _ q _ y hy => one_of hy (by simp [AV.one, Value.oneCell'])
  refine ⟨fun h => ⟨by omega, by omega, fun h2 => ?_, fun h2 => ?_⟩, fun h => ?_⟩
  ·have h3 : selB (bitsL out) j = true := h2
   rw [if_pos h3] at hs
   rw [hs, List.length_append]
   (repeat' first | with_reducible apply And.intro | with_reducible intro _)
   all_goals first | exact True.intro | omega | with_reducible rfl | exact hc4 _ _ _ _ _ (by assumption) _ (by assumption) | exact sg_cat (by assumption) | assumption | rfl
  ·have h3 : selB (bitsL out) j = false := h2
   rw [if_neg (by rw [h3]; simp)] at hs
   rw [hs]
   (repeat' first | with_reducible apply And.intro | with_reducible intro _)
   all_goals first | exact True.intro | omega | with_reducible rfl | assumption | rfl
  ·obtain rfl : j = n := by omega
   (repeat' first | with_reducible apply And.intro | with_reducible intro _)
   all_goals first | exact True.intro | omega | with_reducible rfl | (rename_i E hE; cases hE; exact hQ) | assumption | rfl
noncomputable def H_et (c T lo hi : Int) (n : Nat) (a b u v : Nat → Int) (m : Nat) (p q : Nat → Int) (pl ph dl dh : Int) (u0 u1 wi day : Int) (s1 : Option Addr) (a1 b1 : Nat) (s2 : Option Addr) (a2 b2 : Nat) (s3 : Option Addr) (a3 b3 : Nat) (s4 : Option Addr) (a4 b4 : Nat) (out : List Int) (s : Nat) : HSpec := inlH Try.prog [(26, S_kept)] { R := [], H := [], C := [(27, C_read)] } [needSp [n ≤ 12] (LS_et c T lo hi n a b u v m p q pl ph dl dh u0 u1 wi day s1 a1 b1 s2 a2 b2 s3 a3 b3 s4 a4 b4 out s)] Try.f23 (bodyOf Try.f23)
theorem et_okH (c T lo hi : Int) (n : Nat) (a b u v : Nat → Int) (m : Nat) (p q : Nat → Int) (pl ph dl dh : Int) (u0 u1 wi day : Int) (s1 : Option Addr) (a1 b1 : Nat) (s2 : Option Addr) (a2 b2 : Nat) (s3 : Option Addr) (a3 b3 : Nat) (s4 : Option Addr) (a4 b4 : Nat) (out : List Int) (s : Nat) : SoundHSpec Try.prog 23 (H_et c T lo hi n a b u v m p q pl ph dl dh u0 u1 wi day s1 a1 b1 s2 a2 b2 s3 a3 b3 s4 a4 b4 out s) :=
 inl_sound (G := [(26, S_kept)]) (X := { R := [], H := [], C := [(27, C_read)] }) (L := [needSp [n ≤ 12] (LS_et c T lo hi n a b u v m p q pl ph dl dh u0 u1 wi day s1 a1 b1 s2 a2 b2 s3 a3 b3 s4 a4 b4 out s)]) (SoundG.cons kept_ok (SoundG.nil _)) (SoundX.ofC (SoundRL.nil _) (SoundHL.nil _) (SoundCL.cons read_okC (SoundCL.nil _))) mixed ⟨_, Try.func23, by kernel_rfl, by kernel_rfl⟩ Try.func23 (show Try.f23.body = some (bodyOf Try.f23) by kernel_rfl) (one_loop (lpE (b := .loop B_et) (by kernel_rfl) <| needSp_sound (ps := [n ≤ 12]) (fun h => et_ls c T lo hi n a b u v m p q pl ph dl dh u0 u1 wi day s1 a1 b1 s2 a2 b2 s3 a3 b3 s4 a4 b4 out s h)))
theorem tk_zero (c T lo hi : Int) (n : Nat) (a b u v : Nat → Int) (m : Nat) (p q : Nat → Int) (pl ph dl dh : Int) (u0 u1 wi day : Int) (s1 : Option Addr) (a1 b1 : Nat) (s2 : Option Addr) (a2 b2 : Nat) (s3 : Option Addr) (a3 b3 : Nat) (s4 : Option Addr) (a4 b4 : Nat) (out : List Int) (s : Nat) (pre0 : n ≤ 12) (pre1 : usB c u0 u1 wi = true) (pre2 : 0 ≤ day ∧ day ≤ 10000) (pre3 : out.length ≤ 1000) : EndsTF Try.prog 22 [.row 6, .agg [i (bitsL out)], i s, i 0, .ptr 0 0, .ptr 1 0, .ptr 2 0, .ptr 3 0] (TM c T lo hi n a b u v m p q pl ph dl dh u0 u1 wi day s1 a1 b1 s2 a2 b2 s3 a3 b3 s4 a4 b4 out) 7 [[.ptr 0 0, .ptr 1 0, .ptr 2 0, .ptr 3 0, .row 6, .ptr 4 0, .mp 5]] (TT_ c T lo hi n a b u v m p q pl ph dl dh u0 u1 wi day s1 a1 b1 s2 a2 b2 s3 a3 b3 s4 a4 b4 out out) (TF_ c T lo hi n a b u v m p q pl ph dl dh u0 u1 wi day s1 a1 b1 s2 a2 b2 s3 a3 b3 s4 a4 b4 out) (enL c T lo hi n a b u v m p q pl ph dl dh u0 u1 wi day out) := by
 refine inl_ends (G := []) (X := { R := [], H := [(23, (H_et c T lo hi n a b u v m p q pl ph dl dh u0 u1 wi day s1 a1 b1 s2 a2 b2 s3 a3 b3 s4 a4 b4 out s)), (24, H_clI)] }) (L := []) (SoundG.nil _) (SoundX.of (SoundRL.nil _) (SoundHL.cons (et_okH c T lo hi n a b u v m p q pl ph dl dh u0 u1 wi day s1 a1 b1 s2 a2 b2 s3 a3 b3 s4 a4 b4 out s) (SoundHL.cons clI_okH (SoundHL.nil _)))) mixed ⟨_, Try.func22, by kernel_rfl, by kernel_rfl⟩ Try.func22 (show Try.f22.body = some (bodyOf Try.f22) by kernel_rfl) noLoops (N := [(.cell 1 0, 900, 3, 1)]) (t := (let z6 := (lst 4 n (rq4 a b u v)); let z9 := (AV.x (Value.slice s1 a1 b1)); let z10 := (AV.x (Value.slice s2 a2 b2)); let z5 := (AV.fn (Fn.func 22) [] [ptr 0 0, ptr 1 0, ptr 2 0, ptr 3 0]); let z11 := (AV.x (Value.slice s3 a3 b3)); let z12 := (AV.x (Value.slice s4 a4 b4)); let z4 := enF c T lo hi n a b u v m p q pl ph dl dh u0 u1 wi day; let z0 := (need [Eq1 (ptr 4 0), c = c, T = T, lo = lo, hi = hi, z6 = lst 4 n (rq4 a b u v), (lst 2 m fun k => [iI (p k), iI (q k)]) = lst 2 m fun k => [iI (p k), iI (q k)], pl = pl, ph = ph, dl = dl, dh = dh, c = c, T = T, lo = lo, hi = hi, Eq1 z9, Eq1 z10, pl = pl, ph = ph, dl = dl, dh = dh, Eq1 z5, c = c, T = T, lo = lo, hi = hi, z6 = lst 4 n (rq4 a b u v), (lst 2 m fun k => [iI (p k), iI (q k)]) = lst 2 m fun k => [iI (p k), iI (q k)], pl = pl, ph = ph, dl = dl, dh = dh, u0 = u0, u1 = u1, wi = wi, day = day, Eq1 (AV.mp 5), c = c, T = T, lo = lo, hi = hi, Eq1 z11, Eq1 z12, pl = pl, ph = ph, dl = dl, dh = dh, u0 = u0, u1 = u1, wi = wi, day = day, Eq1 (AV.mp 5), ∀ (k : Value), enH k → enH k ∧ z4 k = z4 k, Eq1 (List.length out), ∀ (i : Nat), i < List.length out → [Ytlinbkmpkcmniaa.i (nthJ out i)] = [Ytlinbkmpkcmniaa.i (nthJ out i)], Eq1 (ptr 0 0), Eq1 (ptr 1 0), Eq1 (ptr 2 0), Eq1 (ptr 3 0), Eq1 (AV.row 6), Eq1 (ptr 4 0), Eq1 (AV.mp 5)] (leaf false)); let z1 := (need [isRec 1 (List.length out) fun j => [i (nthJ out j)], List.length out ≤ 100000] (need [Eq1 (List.length out), ∀ (i : Nat), i < List.length out → [Ytlinbkmpkcmniaa.i (nthJ out i)] = [Ytlinbkmpkcmniaa.i (nthJ out i)], Eq1 (ptr 4 0), Eq1 (AV.row 900), c = c, T = T, lo = lo, hi = hi, z6 = lst 4 n (rq4 a b u v), (lst 2 m fun k => [iI (p k), iI (q k)]) = lst 2 m fun k => [iI (p k), iI (q k)], pl = pl, ph = ph, dl = dl, dh = dh, c = c, T = T, lo = lo, hi = hi, Eq1 z9, Eq1 z10, pl = pl, ph = ph, dl = dl, dh = dh, Eq1 z5, c = c, T = T, lo = lo, hi = hi, z6 = lst 4 n (rq4 a b u v), (lst 2 m fun k => [iI (p k), iI (q k)]) = lst 2 m fun k => [iI (p k), iI (q k)], pl = pl, ph = ph, dl = dl, dh = dh, u0 = u0, u1 = u1, wi = wi, day = day, Eq1 (AV.mp 5), c = c, T = T, lo = lo, hi = hi, Eq1 z11, Eq1 z12, pl = pl, ph = ph, dl = dl, dh = dh, u0 = u0, u1 = u1, wi = wi, day = day, Eq1 (AV.mp 5), ∀ (k : Value), enH k → enH k ∧ z4 k = z4 k, Eq1 (List.length out), ∀ (i : Nat), i < List.length out → [Ytlinbkmpkcmniaa.i (nthJ out i)] = [Ytlinbkmpkcmniaa.i (nthJ out i)], Eq1 (ptr 0 0), Eq1 (ptr 1 0), Eq1 (ptr 2 0), Eq1 (ptr 3 0), Eq1 (AV.row 6), Eq1 (ptr 4 0), Eq1 (AV.mp 5)] (leaf true))); let z7 := (List.length (selL (bitsL out) n)); let z13 := (sg a (selL (bitsL out) n)); let z14 := (sg b (selL (bitsL out) n)); let z15 := (sg u (selL (bitsL out) n)); let z16 := (sg v (selL (bitsL out) n)); let z2 := (wkA c T lo hi z7 z13 z14 z15 z16 m p q pl ph dl dh); let z3 := (Value.agg #[Value.int IntKind.i64 (bitsL out)]); let z8 := (need [MapKey Try.prog 92 enH z3 (Value.bool false), enH z3, Value.bool false = z4 z3] z0); let z17 := rdE c T lo hi z7 z13 z14 z15 z16 m p q pl ph dl dh; (branch ((0 : Int) == (0 : Int)) (need [MapKey Try.prog 92 enH z3 (Value.bool false)] (Tree.may (enH z3) (branch (enB c T lo hi n a b u v m p q pl ph dl dh u0 u1 wi day (keyI z3)) z1 z0) (need [n ≤ 12] (need [Eq1 (ptr 4 0), Eq1 (agg [iI (bitsL out)]), Eq1 (ptr 13 0), Eq1 (AV.lit false), false = false, Eq1 (AV.lit false), Eq1 (ptr 21 0), z6 = lst 4 n (rq4 a b u v), Eq1 (↑n : Int), (0 : Int) = (↑(0 : Nat) : Int), 0 = List.length (selL (bitsL out) 0), ∀ (i : Nat), i < List.length (selL (bitsL out) 0) → [] = [Ytlinbkmpkcmniaa.i (sg a (selL (bitsL out) 0) i), Ytlinbkmpkcmniaa.i (sg b (selL (bitsL out) 0) i), Ytlinbkmpkcmniaa.i (sg u (selL (bitsL out) 0) i), Ytlinbkmpkcmniaa.i (sg v (selL (bitsL out) 0) i)], c = c, T = T, lo = lo, hi = hi, Eq1 (AV.row 950), (lst 2 m fun k => [iI (p k), iI (q k)]) = lst 2 m fun k => [iI (p k), iI (q k)], pl = pl, ph = ph, dl = dl, dh = dh, Eq1 (bitsL out), Eq1 (bitsL out), Eq1 (ptr 4 0), c = c, T = T, lo = lo, hi = hi, z6 = lst 4 n (rq4 a b u v), (lst 2 m fun k => [iI (p k), iI (q k)]) = lst 2 m fun k => [iI (p k), iI (q k)], pl = pl, ph = ph, dl = dl, dh = dh, c = c, T = T, lo = lo, hi = hi, Eq1 z9, Eq1 z10, pl = pl, ph = ph, dl = dl, dh = dh, Eq1 z5, c = c, T = T, lo = lo, hi = hi, z6 = lst 4 n (rq4 a b u v), (lst 2 m fun k => [iI (p k), iI (q k)]) = lst 2 m fun k => [iI (p k), iI (q k)], pl = pl, ph = ph, dl = dl, dh = dh, u0 = u0, u1 = u1, wi = wi, day = day, Eq1 (AV.mp 5), c = c, T = T, lo = lo, hi = hi, Eq1 z11, Eq1 z12, pl = pl, ph = ph, dl = dl, dh = dh, u0 = u0, u1 = u1, wi = wi, day = day, Eq1 (AV.mp 5), ∀ (k : Value), enH k → enH k ∧ z4 k = z4 k, Eq1 (List.length out), ∀ (i : Nat), i < List.length out → [Ytlinbkmpkcmniaa.i (nthJ out i)] = [Ytlinbkmpkcmniaa.i (nthJ out i)], Eq1 (AV.row 6), Eq1 (agg [iI (bitsL out)]), Eq1 (↑s : Int), Eq1 (0 : Int), Eq1 (ptr 0 0), Eq1 (ptr 1 0), Eq1 (ptr 2 0), Eq1 (ptr 3 0), Eq1 (ptr 7 0), Eq1 (AV.lit false), Eq1 (0 : Int), Eq1 (AV.lit true), Eq1 (ptr 4 0), Eq1 (agg [iI (bitsL out)]), Eq1 (ptr 0 0), Eq1 (ptr 1 0), Eq1 (ptr 2 0), Eq1 (ptr 3 0), Eq1 (AV.row 6), Eq1 (ptr 4 0), Eq1 (AV.mp 5)] (need [isRec 4 z7 fun q => [i (sg a (selL (bitsL out) n) q), i (sg b (selL (bitsL out) n) q), i (sg u (selL (bitsL out) n) q), i (sg v (selL (bitsL out) n) q)], isRec 2 m fun k => [Pt.i (p k), Pt.i (q k)]] (branch (decide (z17 = (0 : Int))) (branch ((0 : Int) == (0 : Int)) (need [drB z2, bdB z2, (1 : Int) ≤ c ∧ c ≤ (10 : Int), (0 : Int) ≤ u0 ∧ u0 ≤ u1 ∧ u1 ≤ (10 : Int), (0 : Int) ≤ wi ∧ wi ≤ (1000000 : Int), (0 : Int) ≤ day ∧ day ≤ (100000 : Int)] (need [MapKey Try.prog 92 enH z3 (Value.bool false), enH z3, Value.bool (keB c z2 u0 u1 wi day) = z4 z3] (branch (keB c z2 u0 u1 wi day) z1 z0))) z8) (branch (z17 == (0 : Int)) Tree.fail z8))))))) Tree.fail))) (by kernel_rfl) (by kernel_rfl) rfl rfl (by kernel_rfl) ?_
 have ek : ∀ x : Int, keyI (Value.agg #[Value.int IntKind.i64 x]) = x := fun _ => rfl
 have hE : enB c T lo hi n a b u v m p q pl ph dl dh u0 u1 wi day (bitsL out) = (decide (rdE c T lo hi (selL (bitsL out) n).length (sg a (selL (bitsL out) n)) (sg b (selL (bitsL out) n)) (sg u (selL (bitsL out) n)) (sg v (selL (bitsL out) n)) m p q pl ph dl dh = 0) && keB c (wkA c T lo hi (selL (bitsL out) n).length (sg a (selL (bitsL out) n)) (sg b (selL (bitsL out) n)) (sg u (selL (bitsL out) n)) (sg v (selL (bitsL out) n)) m p q pl ph dl dh) u0 u1 wi day) := rfl
 have hF : enF c T lo hi n a b u v m p q pl ph dl dh u0 u1 wi day (Value.agg #[Value.int IntKind.i64 (bitsL out)]) = .bool (enB c T lo hi n a b u v m p q pl ph dl dh u0 u1 wi day (bitsL out)) := rfl
 have hH : enH (Value.agg #[Value.int IntKind.i64 (bitsL out)]) := ⟨_, rfl⟩
 have mk := mapKey_en (bitsL out)
 have hL : enL c T lo hi n a b u v m p q pl ph dl dh u0 u1 wi day out = enB c T lo hi n a b u v m p q pl ph dl dh u0 u1 wi day (bitsL out) := rfl
 have h00 : ((0 : Int) == 0) = true := rfl
 have s0 : selL (bitsL out) 0 = [] := rfl
 have hu := usB_iff.1 pre1
 simp only [Tree.sat, allP, fitP, fitL, valEq, inI64, true_and, and_true, decide_eq_true_eq, decide_eq_false_iff_not, Int.toNat_natCast, ek, hF, hL, h00, s0, true_implies, Bool.true_eq_false, false_implies, List.length_nil]
 generalize selL (bitsL out) n = L at hE ⊢
 generalize enB c T lo hi n a b u v m p q pl ph dl dh u0 u1 wi day (bitsL out) = B at hE ⊢
 refine ⟨mk, fun _ => ⟨fun h => ?_, fun h => ?_⟩, pre0, ?_, ⟨Bo.isRec4 _ _ _ _ _, Pt.isRec2 _ _ _⟩, fun h3 => ?_, fun h3 => ?_⟩
 ·subst h
  (repeat' first | with_reducible apply And.intro | with_reducible intro _)
  all_goals first | exact True.intro | exact isRec1 _ _ | omega | assumption | rfl | trace_state
 ·subst h
  (repeat' first | with_reducible apply And.intro | with_reducible intro _)
  all_goals first | exact True.intro | exact isRec1 _ _ | omega | assumption | rfl | trace_state
 ·(repeat' first | with_reducible apply And.intro | with_reducible intro _)
  all_goals first | exact True.intro | omega | assumption | rfl | (exfalso; omega) | trace_state
 ·rw [decide_eq_true h3, Bool.true_and] at hE
  have hw := wk_ok h3
  rw [← hE]
  (repeat' first | with_reducible apply And.intro | with_reducible intro _)
  all_goals first | exact True.intro | exact hw.1.1 | exact hw.1.2 | exact hw.2.1 | exact mk | exact hH | exact isRec1 _ _ | omega | assumption | rfl | (rename_i hb; exact hb.symm) | (rename_i hb _ _; exact hb.symm) | (simp_all; done) | trace_state
 ·rw [decide_eq_false h3, Bool.false_and] at hE
  subst hE
  (repeat' first | with_reducible apply And.intro | with_reducible intro _)
  all_goals first | exact True.intro | exact mk | exact hH | exact isRec1 _ _ | omega | assumption | rfl | (simp_all; done) | trace_state
end Go.Proofs.Ytlinbkmpkcmniaa
namespace Go.Proofs.Ytlinbkmpkcmniaa
open Go Go.Sx Go.RowKit Bo
open Go.Sx.Tree (need branch leaf)
open Go.Sx.AV (lst ptr agg roI tup top)
theorem bits_app (l : List Int) (x : Int) : bitsL (l ++ [x]) = orI (bitsL l) (1 * 2 ^ x.toNat) := by
 unfold bitsL
 rw [List.foldl_append]
 rfl
noncomputable def E_tk (c T lo hi : Int) (n : Nat) (a b u v : Nat → Int) (m : Nat) (p q : Nat → Int) (pl ph dl dh : Int) (u0 u1 wi day : Int) (s1 : Option Addr) (a1 b1 : Nat) (s2 : Option Addr) (a2 b2 : Nat) (s3 : Option Addr) (a3 b3 : Nat) (s4 : Option Addr) (a4 b4 : Nat) (out : List Int) (s : Nat) (N : Nat) : St := (some { σ := mkS 45 [(0, .row 6), (1, .agg [i (bitsL out)]), (2, i s), (3, i ((N + 1 : Nat) : Int)), (4, .ptr 0 0), (5, .ptr 1 0), (6, .ptr 2 0), (7, .ptr 3 0), (9, .ptr 7 0), (12, .lit false)], m := [(7, .cells 71 [i (bitsL out)]), (0, .cells 69 [.ptr 4 0]), (1, .cells 43 [.top]), (2, .cells 31 [i c, i T, i lo, i hi, rds n a b u v, Pt.scs m p q, i pl, i ph, i dl, i dh]), (2, .cells 31 [i c, i T, i lo, i hi, .x (.slice s1 a1 b1), .x (.slice s2 a2 b2), i pl, i ph, i dl, i dh]), (3, .cells 74 [.fn (.func 22) [] [.ptr 0 0, .ptr 1 0, .ptr 2 0, .ptr 3 0]]), (4, .cells 94 [i c, i T, i lo, i hi, rds n a b u v, Pt.scs m p q, i pl, i ph, i dl, i dh, i u0, i u1, i wi, i day, .mp 5]), (4, .cells 94 [i c, i T, i lo, i hi, .x (.slice s3 a3 b3), .x (.slice s4 a4 b4), i pl, i ph, i dl, i dh, i u0, i u1, i wi, i day, .mp 5]), (5, .memo enH (enF c T lo hi n a b u v m p q pl ph dl dh u0 u1 wi day)), (6, .row 3 1 out.length (fun j => [i (nthJ out j)]))], nx := 901, sv := [[.ptr 0 0, .ptr 1 0, .ptr 2 0, .ptr 3 0, .row 6, .ptr 4 0, .mp 5]] } : Option St).getD { σ := [], m := [], nx := 0 }
noncomputable def B_tk : Code := loopBody (loopAt (bodyOf Try.f22) 0)
noncomputable def inv_tk (c T lo hi : Int) (n : Nat) (a b u v : Nat → Int) (m : Nat) (p q : Nat → Int) (pl ph dl dh : Int) (u0 u1 wi day : Int) (s1 : Option Addr) (a1 b1 : Nat) (s2 : Option Addr) (a2 b2 : Nat) (s3 : Option Addr) (a3 b3 : Nat) (s4 : Option Addr) (a4 b4 : Nat) (out : List Int) (s : Nat) (N : Nat) (k : Nat) : St := { σ := ovrS [(13, i k)] (E_tk c T lo hi n a b u v m p q pl ph dl dh u0 u1 wi day s1 a1 b1 s2 a2 b2 s3 a3 b3 s4 a4 b4 out s N).σ, m := [(7, .cells 71 [i (bitsL out)]), (0, .cells 69 [.ptr 4 0]), (1, .cells 43 [.top]), (2, .cells 31 [i c, i T, i lo, i hi, rds n a b u v, Pt.scs m p q, i pl, i ph, i dl, i dh]), (2, .cells 31 [i c, i T, i lo, i hi, .x (.slice s1 a1 b1), .x (.slice s2 a2 b2), i pl, i ph, i dl, i dh]), (3, .cells 74 [.fn (.func 22) [] [.ptr 0 0, .ptr 1 0, .ptr 2 0, .ptr 3 0]]), (4, .cells 94 [i c, i T, i lo, i hi, rds n a b u v, Pt.scs m p q, i pl, i ph, i dl, i dh, i u0, i u1, i wi, i day, .mp 5]), (4, .cells 94 [i c, i T, i lo, i hi, .x (.slice s3 a3 b3), .x (.slice s4 a4 b4), i pl, i ph, i dl, i dh, i u0, i u1, i wi, i day, .mp 5]), (5, .memo enH (enF c T lo hi n a b u v m p q pl ph dl dh u0 u1 wi day)), (6, .row 3 1 out.length (fun j => [i (nthJ out j)]))], nx := (E_tk c T lo hi n a b u v m p q pl ph dl dh u0 u1 wi day s1 a1 b1 s2 a2 b2 s3 a3 b3 s4 a4 b4 out s N).nx, sv := [[.ptr 0 0, .ptr 1 0, .ptr 2 0, .ptr 3 0, .row 6, .ptr 4 0, .mp 5]] }
noncomputable def out_tk (c T lo hi : Int) (n : Nat) (a b u v : Nat → Int) (m : Nat) (p q : Nat → Int) (pl ph dl dh : Int) (u0 u1 wi day : Int) (s1 : Option Addr) (a1 b1 : Nat) (s2 : Option Addr) (a2 b2 : Nat) (s3 : Option Addr) (a3 b3 : Nat) (s4 : Option Addr) (a4 b4 : Nat) (out : List Int) (s : Nat) (N : Nat) (k : Nat) : AEx → Option St := fun ex => match ex with
 | .exit 0 => some { σ := ovrS [] (E_tk c T lo hi n a b u v m p q pl ph dl dh u0 u1 wi day s1 a1 b1 s2 a2 b2 s3 a3 b3 s4 a4 b4 out s N).σ, m := [(7, .cells 71 [i (bitsL out)]), (0, .cells 69 [.ptr 4 0]), (1, .cells 43 [.top]), (2, .cells 31 [i c, i T, i lo, i hi, rds n a b u v, Pt.scs m p q, i pl, i ph, i dl, i dh]), (2, .cells 31 [i c, i T, i lo, i hi, .x (.slice s1 a1 b1), .x (.slice s2 a2 b2), i pl, i ph, i dl, i dh]), (3, .cells 74 [.fn (.func 22) [] [.ptr 0 0, .ptr 1 0, .ptr 2 0, .ptr 3 0]]), (4, .cells 94 [i c, i T, i lo, i hi, rds n a b u v, Pt.scs m p q, i pl, i ph, i dl, i dh, i u0, i u1, i wi, i day, .mp 5]), (4, .cells 94 [i c, i T, i lo, i hi, .x (.slice s3 a3 b3), .x (.slice s4 a4 b4), i pl, i ph, i dl, i dh, i u0, i u1, i wi, i day, .mp 5]), (5, .memo enH (enF c T lo hi n a b u v m p q pl ph dl dh u0 u1 wi day)), (6, .row 3 1 out.length (fun j => [i (nthJ out j)]))], nx := (E_tk c T lo hi n a b u v m p q pl ph dl dh u0 u1 wi day s1 a1 b1 s2 a2 b2 s3 a3 b3 s4 a4 b4 out s N).nx, sv := [[.ptr 0 0, .ptr 1 0, .ptr 2 0, .ptr 3 0, .row 6, .ptr 4 0, .mp 5]] }
 | .ret => some { σ := ovrS [(12, .lit true)] (E_tk c T lo hi n a b u v m p q pl ph dl dh u0 u1 wi day s1 a1 b1 s2 a2 b2 s3 a3 b3 s4 a4 b4 out s N).σ, m := [(900, .row 3 1 (lvG (enL c T lo hi n a b u v m p q pl ph dl dh u0 u1 wi day) n (N + 1) out s).length (fun j => [i (nthJ (lvG (enL c T lo hi n a b u v m p q pl ph dl dh u0 u1 wi day) n (N + 1) out s) j)])), (7, .cells 71 [i (bitsL out)]), (0, .cells 69 [.ptr 4 0]), (1, .cells 43 [.row 900]), (2, .cells 31 [i c, i T, i lo, i hi, rds n a b u v, Pt.scs m p q, i pl, i ph, i dl, i dh]), (2, .cells 31 [i c, i T, i lo, i hi, .x (.slice s1 a1 b1), .x (.slice s2 a2 b2), i pl, i ph, i dl, i dh]), (3, .cells 74 [.fn (.func 22) [] [.ptr 0 0, .ptr 1 0, .ptr 2 0, .ptr 3 0]]), (4, .cells 94 [i c, i T, i lo, i hi, rds n a b u v, Pt.scs m p q, i pl, i ph, i dl, i dh, i u0, i u1, i wi, i day, .mp 5]), (4, .cells 94 [i c, i T, i lo, i hi, .x (.slice s3 a3 b3), .x (.slice s4 a4 b4), i pl, i ph, i dl, i dh, i u0, i u1, i wi, i day, .mp 5]), (5, .memo enH (enF c T lo hi n a b u v m p q pl ph dl dh u0 u1 wi day)), (6, .row 3 1 out.length (fun j => [i (nthJ out j)]))], nx := (E_tk c T lo hi n a b u v m p q pl ph dl dh u0 u1 wi day s1 a1 b1 s2 a2 b2 s3 a3 b3 s4 a4 b4 out s N).nx, sv := [[.ptr 0 0, .ptr 1 0, .ptr 2 0, .ptr 3 0, .row 6, .ptr 4 0, .mp 5]] }
 | _ => none
noncomputable def T_tk (c T lo hi : Int) (n : Nat) (a b u v : Nat → Int) (m : Nat) (p q : Nat → Int) (pl ph dl dh : Int) (u0 u1 wi day : Int) (s1 : Option Addr) (a1 b1 : Nat) (s2 : Option Addr) (a2 b2 : Nat) (s3 : Option Addr) (a3 b3 : Nat) (s4 : Option Addr) (a4 b4 : Nat) (out : List Int) (s : Nat) (N : Nat) : CT := .branch (lvF (enL c T lo hi n a b u v m p q pl ph dl dh u0 u1 wi day) n (N + 1) out s).isSome (.leaf (.ret, ( out_tk c T lo hi n a b u v m p q pl ph dl dh u0 u1 wi day s1 a1 b1 s2 a2 b2 s3 a3 b3 s4 a4 b4 out s N s .ret).getD (E_tk c T lo hi n a b u v m p q pl ph dl dh u0 u1 wi day s1 a1 b1 s2 a2 b2 s3 a3 b3 s4 a4 b4 out s N))) (.leaf (.exit 0, ( out_tk c T lo hi n a b u v m p q pl ph dl dh u0 u1 wi day s1 a1 b1 s2 a2 b2 s3 a3 b3 s4 a4 b4 out s N s (.exit 0)).getD (E_tk c T lo hi n a b u v m p q pl ph dl dh u0 u1 wi day s1 a1 b1 s2 a2 b2 s3 a3 b3 s4 a4 b4 out s N)))
noncomputable def LS_tk (c T lo hi : Int) (n : Nat) (a b u v : Nat → Int) (m : Nat) (p q : Nat → Int) (pl ph dl dh : Int) (u0 u1 wi day : Int) (s1 : Option Addr) (a1 b1 : Nat) (s2 : Option Addr) (a2 b2 : Nat) (s3 : Option Addr) (a3 b3 : Nat) (s4 : Option Addr) (a4 b4 : Nat) (out : List Int) (s : Nat) (N : Nat) : LSpec := normSp [(.cell 1 0, 900, 3, 1)] (sumL (inv_tk c T lo hi n a b u v m p q pl ph dl dh u0 u1 wi day s1 a1 b1 s2 a2 b2 s3 a3 b3 s4 a4 b4 out s N (s)) (T_tk c T lo hi n a b u v m p q pl ph dl dh u0 u1 wi day s1 a1 b1 s2 a2 b2 s3 a3 b3 s4 a4 b4 out s N))
theorem tk_ls (c T lo hi : Int) (n : Nat) (a b u v : Nat → Int) (m : Nat) (p q : Nat → Int) (pl ph dl dh : Int) (u0 u1 wi day : Int) (s1 : Option Addr) (a1 b1 : Nat) (s2 : Option Addr) (a2 b2 : Nat) (s3 : Option Addr) (a3 b3 : Nat) (s4 : Option Addr) (a4 b4 : Nat) (out : List Int) (s : Nat) (N : Nat) (pre0 : n ≤ 12) (pre1 : usB c u0 u1 wi = true) (pre2 : 0 ≤ day ∧ day ≤ 10000) (pre3 : out.length + (N + 1) ≤ 1000 ∧ s ≤ n) (pre4 : SoundHSpec Try.prog 22 (H_tk N)) : LSound Try.prog (.loop B_tk) (LS_tk c T lo hi n a b u v m p q pl ph dl dh u0 u1 wi day s1 a1 b1 s2 a2 b2 s3 a3 b3 s4 a4 b4 out s N) := by
 refine loop_roundsX [(.cell 1 0, 900, 3, 1)] (E := { R := [], H := [(22, (H_tk N))] }) (G := []) (L := []) (SoundG.nil _) (SoundX.of (SoundRL.nil _) (SoundHL.cons pre4 (SoundHL.nil _))) mixed noLoops (X := Nat) (inv_tk c T lo hi n a b u v m p q pl ph dl dh u0 u1 wi day s1 a1 b1 s2 a2 b2 s3 a3 b3 s4 a4 b4 out s N) (fun k => s ≤ k ∧ k ≤ n ∧ ∀ j, s ≤ j → j < k → lvF (enL c T lo hi n a b u v m p q pl ph dl dh u0 u1 wi day) n N (out ++ [(j : Int)]) (j + 1) = none) (fun k => n - k) (out_tk c T lo hi n a b u v m p q pl ph dl dh u0 u1 wi day s1 a1 b1 s2 a2 b2 s3 a3 b3 s4 a4 b4 out s N) (x0 := s) ⟨Nat.le_refl _, pre3.2, fun j h1 h2 => by omega⟩ ?_ ?_ ?_
 ·rintro k
  kernel_rfl
 ·rintro k y E h
  unfold out_tk at h
  split at h
  ·cases h; kernel_rfl
  ·cases h; kernel_rfl
  ·cases h
 ·rintro Q hQ k hx
  refine ⟨(k + 1), ?_⟩
  have e : roundX Try.prog [] { R := [], H := [(22, (H_tk N))] } [] [(.cell 1 0, 900, 3, 1)] B_tk (inv_tk c T lo hi n a b u v m p q pl ph dl dh u0 u1 wi day s1 a1 b1 s2 a2 b2 s3 a3 b3 s4 a4 b4 out s N k) (inv_tk c T lo hi n a b u v m p q pl ph dl dh u0 u1 wi day s1 a1 b1 s2 a2 b2 s3 a3 b3 s4 a4 b4 out s N ((k + 1))) (out_tk c T lo hi n a b u v m p q pl ph dl dh u0 u1 wi day s1 a1 b1 s2 a2 b2 s3 a3 b3 s4 a4 b4 out s N k) = (let z0 := enF c T lo hi n a b u v m p q pl ph dl dh u0 u1 wi day; let z1 := (enL c T lo hi n a b u v m p q pl ph dl dh u0 u1 wi day); let z2 := (AV.fn (Fn.func 22) [] [ptr 0 0, ptr 1 0, ptr 2 0, ptr 3 0]); let z3 := (lst 4 n (rq4 a b u v)); let z4 := (outL (List.length out + 1) (catF (List.length out) (fun j => [i (nthJ out j)]) (chunk 1 [iI (↑k : Int)]))); let z5 := (Int.toNat ((↑k : Int) + 1)); let z6 := (AV.x (Value.slice s1 a1 b1)); let z7 := (AV.x (Value.slice s2 a2 b2)); let z8 := (AV.x (Value.slice s3 a3 b3)); let z9 := (AV.x (Value.slice s4 a4 b4)); (branch (decide ((↑k : Int) < (↑n : Int))) (need [(List.length out + 1) * 8 ≤ 140737488355328, ∀ (i : Nat), i < 1 → ∀ (a : AV), a ∈ chunk 1 [iI (↑k : Int)] i → AV.one a = true] (need [(0 : Int) ≤ (↑k : Int) ∧ (↑k : Int) ≤ 64, inI64 ((1 : Int) * 2 ^ k)] (need [inI64 ((↑k : Int) + 1)] (need [inI64 ((↑(N + 1) : Int) - 1)] (need [isRec 4 n fun k => [Bo.i (a k), Bo.i (b k), Bo.i (u k), Bo.i (v k)], isRec 2 m fun k => [Pt.i (p k), Pt.i (q k)], isRec 1 (List.length out + 1) (catF (List.length out) (fun j => [i (nthJ out j)]) (chunk 1 [iI (↑k : Int)])), n ≤ 12, usB c u0 u1 wi = true, (0 : Int) ≤ day ∧ day ≤ (10000 : Int), enH = enH, Eq1 (z0), IntKind.wrap IntKind.i64 (↑(BitVec.toNat (BitVec.ofInt 64 (bitsL out) ||| BitVec.ofInt 64 ((1 : Int) * 2 ^ k))) : Int) = bitsL z4, (↑(N + 1) : Int) - 1 = (↑N : Int), (0 : Int) ≤ (↑k : Int) + 1 ∧ (↑k : Int) + 1 ≤ (↑n : Int), List.length out + 1 + N ≤ 1000, c = c, T = T, lo = lo, hi = hi, n = n, (fun k => [Bo.i (a k), Bo.i (b k), Bo.i (u k), Bo.i (v k)]) = fun k => [Bo.i (a k), Bo.i (b k), Bo.i (u k), Bo.i (v k)], m = m, (fun k => [Pt.i (p k), Pt.i (q k)]) = fun k => [Pt.i (p k), Pt.i (q k)], pl = pl, ph = ph, dl = dl, dh = dh, (3 : TypeId) = (3 : TypeId) ∧ 1 = 1 ∧ List.length out ≤ List.length out + 1 ∧ isRec 1 (List.length out) fun j => [i (nthJ out j)]] (branch (Option.isSome (lvF z1 n N z4 z5)) (need [Eq1 (AV.row 6), Eq1 (agg [iI (bitsL out)]), Eq1 (↑s : Int), Eq1 (↑(N + 1) : Int), Eq1 (ptr 0 0), Eq1 (ptr 1 0), Eq1 (ptr 2 0), Eq1 (ptr 3 0), Eq1 (ptr 7 0), Eq1 (AV.lit true), List.length (lvG z1 n N z4 z5) = List.length (lvG z1 n (N + 1) out s), ∀ (i : Nat), i < List.length (lvG z1 n (N + 1) out s) → [Ytlinbkmpkcmniaa.i (nthJ (lvG z1 n N (outL (List.length out + 1) (catF (List.length out) (fun j => [Ytlinbkmpkcmniaa.i (nthJ out j)]) (chunk 1 [iI (↑k : Int)]))) z5) i)] = [Ytlinbkmpkcmniaa.i (nthJ (lvG z1 n (N + 1) out s) i)], Eq1 (bitsL out), Eq1 (ptr 4 0), Eq1 (AV.row 900), c = c, T = T, lo = lo, hi = hi, z3 = lst 4 n (rq4 a b u v), (lst 2 m fun k => [iI (p k), iI (q k)]) = lst 2 m fun k => [iI (p k), iI (q k)], pl = pl, ph = ph, dl = dl, dh = dh, c = c, T = T, lo = lo, hi = hi, Eq1 z6, Eq1 z7, pl = pl, ph = ph, dl = dl, dh = dh, Eq1 z2, c = c, T = T, lo = lo, hi = hi, z3 = lst 4 n (rq4 a b u v), (lst 2 m fun k => [iI (p k), iI (q k)]) = lst 2 m fun k => [iI (p k), iI (q k)], pl = pl, ph = ph, dl = dl, dh = dh, u0 = u0, u1 = u1, wi = wi, day = day, Eq1 (AV.mp 5), c = c, T = T, lo = lo, hi = hi, Eq1 z8, Eq1 z9, pl = pl, ph = ph, dl = dl, dh = dh, u0 = u0, u1 = u1, wi = wi, day = day, Eq1 (AV.mp 5), ∀ (k : Value), enH k → enH k ∧ z0 k = z0 k, Eq1 (List.length out), ∀ (i : Nat), i < List.length out → [Ytlinbkmpkcmniaa.i (nthJ out i)] = [Ytlinbkmpkcmniaa.i (nthJ out i)], Eq1 (ptr 0 0), Eq1 (ptr 1 0), Eq1 (ptr 2 0), Eq1 (ptr 3 0), Eq1 (AV.row 6), Eq1 (ptr 4 0), Eq1 (AV.mp 5)] (leaf AEx.ret)) (need [inI64 ((↑k : Int) + 1)] (need [Eq1 (AV.row 6), Eq1 (agg [iI (bitsL out)]), Eq1 (↑s : Int), Eq1 (↑(N + 1) : Int), Eq1 (ptr 0 0), Eq1 (ptr 1 0), Eq1 (ptr 2 0), Eq1 (ptr 3 0), Eq1 (ptr 7 0), Eq1 (AV.lit false), (↑k : Int) + 1 = (↑(k + 1) : Int), Eq1 (bitsL out), Eq1 (ptr 4 0), c = c, T = T, lo = lo, hi = hi, z3 = lst 4 n (rq4 a b u v), (lst 2 m fun k => [iI (p k), iI (q k)]) = lst 2 m fun k => [iI (p k), iI (q k)], pl = pl, ph = ph, dl = dl, dh = dh, c = c, T = T, lo = lo, hi = hi, Eq1 z6, Eq1 z7, pl = pl, ph = ph, dl = dl, dh = dh, Eq1 z2, c = c, T = T, lo = lo, hi = hi, z3 = lst 4 n (rq4 a b u v), (lst 2 m fun k => [iI (p k), iI (q k)]) = lst 2 m fun k => [iI (p k), iI (q k)], pl = pl, ph = ph, dl = dl, dh = dh, u0 = u0, u1 = u1, wi = wi, day = day, Eq1 (AV.mp 5), c = c, T = T, lo = lo, hi = hi, Eq1 z8, Eq1 z9, pl = pl, ph = ph, dl = dl, dh = dh, u0 = u0, u1 = u1, wi = wi, day = day, Eq1 (AV.mp 5), ∀ (k : Value), enH k → enH k ∧ z0 k = z0 k, Eq1 (List.length out), ∀ (i : Nat), i < List.length out → [Ytlinbkmpkcmniaa.i (nthJ out i)] = [Ytlinbkmpkcmniaa.i (nthJ out i)], Eq1 (ptr 0 0), Eq1 (ptr 1 0), Eq1 (ptr 2 0), Eq1 (ptr 3 0), Eq1 (AV.row 6), Eq1 (ptr 4 0), Eq1 (AV.mp 5)] (leaf AEx.normal))))))))) (need [Eq1 (AV.row 6), Eq1 (agg [iI (bitsL out)]), Eq1 (↑s : Int), Eq1 (↑(N + 1) : Int), Eq1 (ptr 0 0), Eq1 (ptr 1 0), Eq1 (ptr 2 0), Eq1 (ptr 3 0), Eq1 (ptr 7 0), Eq1 (AV.lit false), Eq1 (bitsL out), Eq1 (ptr 4 0), c = c, T = T, lo = lo, hi = hi, z3 = lst 4 n (rq4 a b u v), (lst 2 m fun k => [iI (p k), iI (q k)]) = lst 2 m fun k => [iI (p k), iI (q k)], pl = pl, ph = ph, dl = dl, dh = dh, c = c, T = T, lo = lo, hi = hi, Eq1 z6, Eq1 z7, pl = pl, ph = ph, dl = dl, dh = dh, Eq1 z2, c = c, T = T, lo = lo, hi = hi, z3 = lst 4 n (rq4 a b u v), (lst 2 m fun k => [iI (p k), iI (q k)]) = lst 2 m fun k => [iI (p k), iI (q k)], pl = pl, ph = ph, dl = dl, dh = dh, u0 = u0, u1 = u1, wi = wi, day = day, Eq1 (AV.mp 5), c = c, T = T, lo = lo, hi = hi, Eq1 z8, Eq1 z9, pl = pl, ph = ph, dl = dl, dh = dh, u0 = u0, u1 = u1, wi = wi, day = day, Eq1 (AV.mp 5), ∀ (k : Value), enH k → enH k ∧ z0 k = z0 k, Eq1 (List.length out), ∀ (i : Nat), i < List.length out → [Ytlinbkmpkcmniaa.i (nthJ out i)] = [Ytlinbkmpkcmniaa.i (nthJ out i)], Eq1 (ptr 0 0), Eq1 (ptr 1 0), Eq1 (ptr 2 0), Eq1 (ptr 3 0), Eq1 (AV.row 6), Eq1 (ptr 4 0), Eq1 (AV.mp 5)] (leaf (AEx.exit 0))))) := by kernel_rfl
  rw [e]
  simp only [T_tk, out_tk, Tree.sat, Option.getD_some] at hQ
  obtain ⟨x1, x2, x3⟩ := hx
  have e1 : ((k : Int) + 1).toNat = k + 1 := by omega
  have hdef : lvF (enL c T lo hi n a b u v m p q pl ph dl dh u0 u1 wi day) n (N + 1) out s = firstO (fun k => lvF (enL c T lo hi n a b u v m p q pl ph dl dh u0 u1 wi day) n N (out ++ [(k : Int)]) (k + 1)) s (n - s) := rfl
  have hgood : k < n → (lvF (enL c T lo hi n a b u v m p q pl ph dl dh u0 u1 wi day) n N (out ++ [(k : Int)]) (k + 1)).isSome = true → (lvF (enL c T lo hi n a b u v m p q pl ph dl dh u0 u1 wi day) n (N + 1) out s).isSome = true ∧ lvG (enL c T lo hi n a b u v m p q pl ph dl dh u0 u1 wi day) n N (out ++ [(k : Int)]) (k + 1) = lvG (enL c T lo hi n a b u v m p q pl ph dl dh u0 u1 wi day) n (N + 1) out s := by
   intro h1 h2
   obtain ⟨r, hr⟩ := Option.isSome_iff_exists.1 h2
   have h3 : lvF (enL c T lo hi n a b u v m p q pl ph dl dh u0 u1 wi day) n (N + 1) out s = some r := by
    rw [hdef]
    exact firstO_some (q := k) hr x1 (by omega) x3
   unfold lvG
   rw [h3, hr]
   exact ⟨rfl, rfl⟩
  have hnext : (lvF (enL c T lo hi n a b u v m p q pl ph dl dh u0 u1 wi day) n N (out ++ [(k : Int)]) (k + 1)).isSome = false → ∀ j, s ≤ j → j < k + 1 → lvF (enL c T lo hi n a b u v m p q pl ph dl dh u0 u1 wi day) n N (out ++ [(j : Int)]) (j + 1) = none := by
   intro h1 j h2 h3
   rcases (show j = k ∨ j < k by omega) with rfl | h4
   ·simpa using h1
   ·exact x3 j h2 h4
  have hend : ¬ k < n → (lvF (enL c T lo hi n a b u v m p q pl ph dl dh u0 u1 wi day) n (N + 1) out s).isSome = false := by
   intro h1
   rw [hdef, firstO_none.2 (fun j h2 h3 => x3 j h2 (by omega))]
   rfl
  have hc1 : ∀ x : Int, ∀ (j : Nat), j < 1 → ∀ y, y ∈ chunk 1 [iI x] j → AV.one y = true := fun x j _ y hy => one_of hy (by simp [AV.one, Value.oneCell'])
  have hbits : orI (bitsL out) (1 * 2 ^ k) = bitsL (out ++ [(k : Int)]) := (bits_app out k).symm
  simp only [Tree.sat, allP, fitP, fitL, valEq, inI64, true_and, and_true, decide_eq_true_eq, decide_eq_false_iff_not, Int.toNat_natCast, outL_app, e1]
  clear e
  refine ⟨fun h => ?_, fun h => ?_⟩
  ·have hk : k < n := by omega
   have hp := pow12 (k := k) (by omega)
   refine ⟨⟨by omega, hc1 _⟩, ⟨by omega, by omega⟩, ⟨by omega, by omega⟩, ⟨by omega, by omega⟩, ⟨Bo.isRec4 n a b u v, Pt.isRec2 m p q, rec_app out _, pre0, pre1, pre2, hbits, by omega, by omega, by omega, by omega, isRec1 _ _⟩, fun h2 => ?_, fun h2 => ?_⟩
   ·obtain ⟨g1, g2⟩ := hgood hk h2
    rw [g2]
    (repeat' first | with_reducible apply And.intro | with_reducible intro _)
    all_goals first | exact True.intro | omega | with_reducible rfl | (rename_i E hE; cases hE; exact hQ.1 g1) | assumption | rfl
   ·have g1 := hnext h2
    (repeat' first | with_reducible apply And.intro | with_reducible intro _)
    all_goals first | exact True.intro | omega | with_reducible rfl | exact g1 _ (by assumption) (by assumption) | assumption | rfl
  ·have g1 := hend (by omega)
   (repeat' first | with_reducible apply And.intro | with_reducible intro _)
   all_goals first | exact True.intro | omega | with_reducible rfl | (rename_i E hE; cases hE; exact hQ.2 g1) | assumption | rfl
theorem tk_succ (c T lo hi : Int) (n : Nat) (a b u v : Nat → Int) (m : Nat) (p q : Nat → Int) (pl ph dl dh : Int) (u0 u1 wi day : Int) (s1 : Option Addr) (a1 b1 : Nat) (s2 : Option Addr) (a2 b2 : Nat) (s3 : Option Addr) (a3 b3 : Nat) (s4 : Option Addr) (a4 b4 : Nat) (out : List Int) (s : Nat) (N : Nat) (pre0 : n ≤ 12) (pre1 : usB c u0 u1 wi = true) (pre2 : 0 ≤ day ∧ day ≤ 10000) (pre3 : out.length + (N + 1) ≤ 1000 ∧ s ≤ n) (pre4 : SoundHSpec Try.prog 22 (H_tk N)) : EndsTF Try.prog 22 [.row 6, .agg [i (bitsL out)], i s, i ((N + 1 : Nat) : Int), .ptr 0 0, .ptr 1 0, .ptr 2 0, .ptr 3 0] (TM c T lo hi n a b u v m p q pl ph dl dh u0 u1 wi day s1 a1 b1 s2 a2 b2 s3 a3 b3 s4 a4 b4 out) 7 [[.ptr 0 0, .ptr 1 0, .ptr 2 0, .ptr 3 0, .row 6, .ptr 4 0, .mp 5]] (TT_ c T lo hi n a b u v m p q pl ph dl dh u0 u1 wi day s1 a1 b1 s2 a2 b2 s3 a3 b3 s4 a4 b4 out (lvG (enL c T lo hi n a b u v m p q pl ph dl dh u0 u1 wi day) n (N + 1) out s)) (TF_ c T lo hi n a b u v m p q pl ph dl dh u0 u1 wi day s1 a1 b1 s2 a2 b2 s3 a3 b3 s4 a4 b4 out) (lvF (enL c T lo hi n a b u v m p q pl ph dl dh u0 u1 wi day) n (N + 1) out s).isSome := by
 refine inl_ends (G := []) (X := { R := [], H := [(23, (H_et c T lo hi n a b u v m p q pl ph dl dh u0 u1 wi day s1 a1 b1 s2 a2 b2 s3 a3 b3 s4 a4 b4 out s)), (24, H_clI), (22, (H_tk N))] }) (L := [LS_tk c T lo hi n a b u v m p q pl ph dl dh u0 u1 wi day s1 a1 b1 s2 a2 b2 s3 a3 b3 s4 a4 b4 out s N]) (SoundG.nil _) (SoundX.of (SoundRL.nil _) (SoundHL.cons (et_okH c T lo hi n a b u v m p q pl ph dl dh u0 u1 wi day s1 a1 b1 s2 a2 b2 s3 a3 b3 s4 a4 b4 out s) (SoundHL.cons clI_okH (SoundHL.cons pre4 (SoundHL.nil _))))) mixed ⟨_, Try.func22, by kernel_rfl, by kernel_rfl⟩ Try.func22 (show Try.f22.body = some (bodyOf Try.f22) by kernel_rfl) (one_loop (lpE (b := .loop B_tk) (by kernel_rfl) <| tk_ls c T lo hi n a b u v m p q pl ph dl dh u0 u1 wi day s1 a1 b1 s2 a2 b2 s3 a3 b3 s4 a4 b4 out s N pre0 pre1 pre2 pre3 pre4)) (N := [(.cell 1 0, 900, 3, 1)]) (t := (let z7 := (lst 4 n (rq4 a b u v)); let z8 := (AV.x (Value.slice s1 a1 b1)); let z9 := (AV.x (Value.slice s2 a2 b2)); let z6 := (AV.fn (Fn.func 22) [] [ptr 0 0, ptr 1 0, ptr 2 0, ptr 3 0]); let z10 := (AV.x (Value.slice s3 a3 b3)); let z11 := (AV.x (Value.slice s4 a4 b4)); let z2 := enF c T lo hi n a b u v m p q pl ph dl dh u0 u1 wi day; let z0 := (need [Eq1 (ptr 4 0), c = c, T = T, lo = lo, hi = hi, z7 = lst 4 n (rq4 a b u v), (lst 2 m fun k => [iI (p k), iI (q k)]) = lst 2 m fun k => [iI (p k), iI (q k)], pl = pl, ph = ph, dl = dl, dh = dh, c = c, T = T, lo = lo, hi = hi, Eq1 z8, Eq1 z9, pl = pl, ph = ph, dl = dl, dh = dh, Eq1 z6, c = c, T = T, lo = lo, hi = hi, z7 = lst 4 n (rq4 a b u v), (lst 2 m fun k => [iI (p k), iI (q k)]) = lst 2 m fun k => [iI (p k), iI (q k)], pl = pl, ph = ph, dl = dl, dh = dh, u0 = u0, u1 = u1, wi = wi, day = day, Eq1 (AV.mp 5), c = c, T = T, lo = lo, hi = hi, Eq1 z10, Eq1 z11, pl = pl, ph = ph, dl = dl, dh = dh, u0 = u0, u1 = u1, wi = wi, day = day, Eq1 (AV.mp 5), ∀ (k : Value), enH k → enH k ∧ z2 k = z2 k, Eq1 (List.length out), ∀ (i : Nat), i < List.length out → [Ytlinbkmpkcmniaa.i (nthJ out i)] = [Ytlinbkmpkcmniaa.i (nthJ out i)], Eq1 (ptr 0 0), Eq1 (ptr 1 0), Eq1 (ptr 2 0), Eq1 (ptr 3 0), Eq1 (AV.row 6), Eq1 (ptr 4 0), Eq1 (AV.mp 5)] (leaf false)); let z15 := (enL c T lo hi n a b u v m p q pl ph dl dh u0 u1 wi day); let z5 := (lvG z15 n (N + 1) out s); let z1 := (need [isRec 1 (List.length out) fun j => [i (nthJ out j)], List.length out ≤ 100000] (need [List.length out = List.length z5, ∀ (i : Nat), i < List.length z5 → [Ytlinbkmpkcmniaa.i (nthJ out i)] = [Ytlinbkmpkcmniaa.i (nthJ z5 i)], Eq1 (ptr 4 0), Eq1 (AV.row 900), c = c, T = T, lo = lo, hi = hi, z7 = lst 4 n (rq4 a b u v), (lst 2 m fun k => [iI (p k), iI (q k)]) = lst 2 m fun k => [iI (p k), iI (q k)], pl = pl, ph = ph, dl = dl, dh = dh, c = c, T = T, lo = lo, hi = hi, Eq1 z8, Eq1 z9, pl = pl, ph = ph, dl = dl, dh = dh, Eq1 z6, c = c, T = T, lo = lo, hi = hi, z7 = lst 4 n (rq4 a b u v), (lst 2 m fun k => [iI (p k), iI (q k)]) = lst 2 m fun k => [iI (p k), iI (q k)], pl = pl, ph = ph, dl = dl, dh = dh, u0 = u0, u1 = u1, wi = wi, day = day, Eq1 (AV.mp 5), c = c, T = T, lo = lo, hi = hi, Eq1 z10, Eq1 z11, pl = pl, ph = ph, dl = dl, dh = dh, u0 = u0, u1 = u1, wi = wi, day = day, Eq1 (AV.mp 5), ∀ (k : Value), enH k → enH k ∧ z2 k = z2 k, Eq1 (List.length out), ∀ (i : Nat), i < List.length out → [Ytlinbkmpkcmniaa.i (nthJ out i)] = [Ytlinbkmpkcmniaa.i (nthJ out i)], Eq1 (ptr 0 0), Eq1 (ptr 1 0), Eq1 (ptr 2 0), Eq1 (ptr 3 0), Eq1 (AV.row 6), Eq1 (ptr 4 0), Eq1 (AV.mp 5)] (leaf true))); let z12 := (List.length (selL (bitsL out) n)); let z16 := (sg a (selL (bitsL out) n)); let z17 := (sg b (selL (bitsL out) n)); let z18 := (sg u (selL (bitsL out) n)); let z19 := (sg v (selL (bitsL out) n)); let z3 := (wkA c T lo hi z12 z16 z17 z18 z19 m p q pl ph dl dh); let z4 := (Value.agg #[Value.int IntKind.i64 (bitsL out)]); let z13 := (need [MapKey Try.prog 92 enH z4 (Value.bool false), enH z4, Value.bool false = z2 z4] z0); let z14 := (agg [iI (bitsL out)]); let z20 := rdE c T lo hi z12 z16 z17 z18 z19 m p q pl ph dl dh; (branch ((↑(N + 1) : Int) == (0 : Int)) (need [MapKey Try.prog 92 enH z4 (Value.bool false)] (Tree.may (enH z4) (branch (enB c T lo hi n a b u v m p q pl ph dl dh u0 u1 wi day (keyI z4)) z1 z0) (need [n ≤ 12] (need [Eq1 (ptr 4 0), Eq1 z14, Eq1 (ptr 13 0), Eq1 (AV.lit false), false = false, Eq1 (AV.lit false), Eq1 (ptr 21 0), z7 = lst 4 n (rq4 a b u v), Eq1 (↑n : Int), (0 : Int) = (↑(0 : Nat) : Int), 0 = List.length (selL (bitsL out) 0), ∀ (i : Nat), i < List.length (selL (bitsL out) 0) → [] = [Ytlinbkmpkcmniaa.i (sg a (selL (bitsL out) 0) i), Ytlinbkmpkcmniaa.i (sg b (selL (bitsL out) 0) i), Ytlinbkmpkcmniaa.i (sg u (selL (bitsL out) 0) i), Ytlinbkmpkcmniaa.i (sg v (selL (bitsL out) 0) i)], c = c, T = T, lo = lo, hi = hi, Eq1 (AV.row 950), (lst 2 m fun k => [iI (p k), iI (q k)]) = lst 2 m fun k => [iI (p k), iI (q k)], pl = pl, ph = ph, dl = dl, dh = dh, Eq1 (bitsL out), Eq1 (bitsL out), Eq1 (ptr 4 0), c = c, T = T, lo = lo, hi = hi, z7 = lst 4 n (rq4 a b u v), (lst 2 m fun k => [iI (p k), iI (q k)]) = lst 2 m fun k => [iI (p k), iI (q k)], pl = pl, ph = ph, dl = dl, dh = dh, c = c, T = T, lo = lo, hi = hi, Eq1 z8, Eq1 z9, pl = pl, ph = ph, dl = dl, dh = dh, Eq1 z6, c = c, T = T, lo = lo, hi = hi, z7 = lst 4 n (rq4 a b u v), (lst 2 m fun k => [iI (p k), iI (q k)]) = lst 2 m fun k => [iI (p k), iI (q k)], pl = pl, ph = ph, dl = dl, dh = dh, u0 = u0, u1 = u1, wi = wi, day = day, Eq1 (AV.mp 5), c = c, T = T, lo = lo, hi = hi, Eq1 z10, Eq1 z11, pl = pl, ph = ph, dl = dl, dh = dh, u0 = u0, u1 = u1, wi = wi, day = day, Eq1 (AV.mp 5), ∀ (k : Value), enH k → enH k ∧ z2 k = z2 k, Eq1 (List.length out), ∀ (i : Nat), i < List.length out → [Ytlinbkmpkcmniaa.i (nthJ out i)] = [Ytlinbkmpkcmniaa.i (nthJ out i)], Eq1 (AV.row 6), Eq1 z14, Eq1 (↑s : Int), (↑(N + 1) : Int) = 0, Eq1 (ptr 0 0), Eq1 (ptr 1 0), Eq1 (ptr 2 0), Eq1 (ptr 3 0), Eq1 (ptr 7 0), Eq1 (AV.lit false), (↑(N + 1) : Int) = 0, Eq1 (AV.lit true), Eq1 (ptr 4 0), Eq1 z14, Eq1 (ptr 0 0), Eq1 (ptr 1 0), Eq1 (ptr 2 0), Eq1 (ptr 3 0), Eq1 (AV.row 6), Eq1 (ptr 4 0), Eq1 (AV.mp 5)] (need [isRec 4 z12 fun q => [i (sg a (selL (bitsL out) n) q), i (sg b (selL (bitsL out) n) q), i (sg u (selL (bitsL out) n) q), i (sg v (selL (bitsL out) n) q)], isRec 2 m fun k => [Pt.i (p k), Pt.i (q k)]] (branch (decide (z20 = (0 : Int))) (branch ((0 : Int) == (0 : Int)) (need [drB z3, bdB z3, (1 : Int) ≤ c ∧ c ≤ (10 : Int), (0 : Int) ≤ u0 ∧ u0 ≤ u1 ∧ u1 ≤ (10 : Int), (0 : Int) ≤ wi ∧ wi ≤ (1000000 : Int), (0 : Int) ≤ day ∧ day ≤ (100000 : Int)] (need [MapKey Try.prog 92 enH z4 (Value.bool false), enH z4, Value.bool (keB c z3 u0 u1 wi day) = z2 z4] (branch (keB c z3 u0 u1 wi day) z1 z0))) z13) (branch (z20 == (0 : Int)) Tree.fail z13))))))) (need [Eq1 (AV.row 6), Eq1 z14, Eq1 (↑s : Int), Eq1 (↑(N + 1) : Int), Eq1 (ptr 0 0), Eq1 (ptr 1 0), Eq1 (ptr 2 0), Eq1 (ptr 3 0), Eq1 (ptr 7 0), Eq1 (AV.lit false), Eq1 (↑s : Int), Eq1 (bitsL out), Eq1 (ptr 4 0), c = c, T = T, lo = lo, hi = hi, z7 = lst 4 n (rq4 a b u v), (lst 2 m fun k => [iI (p k), iI (q k)]) = lst 2 m fun k => [iI (p k), iI (q k)], pl = pl, ph = ph, dl = dl, dh = dh, c = c, T = T, lo = lo, hi = hi, Eq1 z8, Eq1 z9, pl = pl, ph = ph, dl = dl, dh = dh, Eq1 z6, c = c, T = T, lo = lo, hi = hi, z7 = lst 4 n (rq4 a b u v), (lst 2 m fun k => [iI (p k), iI (q k)]) = lst 2 m fun k => [iI (p k), iI (q k)], pl = pl, ph = ph, dl = dl, dh = dh, u0 = u0, u1 = u1, wi = wi, day = day, Eq1 (AV.mp 5), c = c, T = T, lo = lo, hi = hi, Eq1 z10, Eq1 z11, pl = pl, ph = ph, dl = dl, dh = dh, u0 = u0, u1 = u1, wi = wi, day = day, Eq1 (AV.mp 5), ∀ (k : Value), enH k → enH k ∧ z2 k = z2 k, Eq1 (List.length out), ∀ (i : Nat), i < List.length out → [Ytlinbkmpkcmniaa.i (nthJ out i)] = [Ytlinbkmpkcmniaa.i (nthJ out i)], Eq1 (ptr 0 0), Eq1 (ptr 1 0), Eq1 (ptr 2 0), Eq1 (ptr 3 0), Eq1 (AV.row 6), Eq1 (ptr 4 0), Eq1 (AV.mp 5)] (branch (Option.isSome (lvF z15 n (N + 1) out s)) (need [Eq1 (List.length z5), ∀ (i : Nat), i < List.length z5 → [Ytlinbkmpkcmniaa.i (nthJ z5 i)] = [Ytlinbkmpkcmniaa.i (nthJ z5 i)], Eq1 (ptr 4 0), Eq1 (AV.row 900), c = c, T = T, lo = lo, hi = hi, z7 = lst 4 n (rq4 a b u v), (lst 2 m fun k => [iI (p k), iI (q k)]) = lst 2 m fun k => [iI (p k), iI (q k)], pl = pl, ph = ph, dl = dl, dh = dh, c = c, T = T, lo = lo, hi = hi, Eq1 z8, Eq1 z9, pl = pl, ph = ph, dl = dl, dh = dh, Eq1 z6, c = c, T = T, lo = lo, hi = hi, z7 = lst 4 n (rq4 a b u v), (lst 2 m fun k => [iI (p k), iI (q k)]) = lst 2 m fun k => [iI (p k), iI (q k)], pl = pl, ph = ph, dl = dl, dh = dh, u0 = u0, u1 = u1, wi = wi, day = day, Eq1 (AV.mp 5), c = c, T = T, lo = lo, hi = hi, Eq1 z10, Eq1 z11, pl = pl, ph = ph, dl = dl, dh = dh, u0 = u0, u1 = u1, wi = wi, day = day, Eq1 (AV.mp 5), ∀ (k : Value), enH k → enH k ∧ z2 k = z2 k, Eq1 (List.length out), ∀ (i : Nat), i < List.length out → [Ytlinbkmpkcmniaa.i (nthJ out i)] = [Ytlinbkmpkcmniaa.i (nthJ out i)], Eq1 (ptr 0 0), Eq1 (ptr 1 0), Eq1 (ptr 2 0), Eq1 (ptr 3 0), Eq1 (AV.row 6), Eq1 (ptr 4 0), Eq1 (AV.mp 5)] (leaf true)) z0))))) (by kernel_rfl) (by kernel_rfl) rfl rfl (by kernel_rfl) ?_
 have hz : ¬ (((N + 1 : Nat) : Int) == 0) = true := by
  rw [beq_iff_eq]
  omega
 simp only [Tree.sat, allP, true_and, and_true]
 refine ⟨fun h => absurd h hz, fun _ => ?_⟩
 (repeat' first | with_reducible apply And.intro | with_reducible intro _)
 all_goals first | exact True.intro | omega | with_reducible rfl | (rename_i h; exact h.symm) | assumption | rfl | trace_state
end Go.Proofs.Ytlinbkmpkcmniaa
namespace Go.Proofs.Ytlinbkmpkcmniaa
open Go Go.Sx Go.RowKit Bo
open Go.Sx.Tree (need branch leaf)
open Go.Sx.AV (lst ptr agg roI tup top)
abbrev ptrV (b : Nat) : Value := .pointer (some ⟨b, 0, none⟩)
abbrev fnV (bt bf bx be : Nat) : Value := .func (.func 22) #[] #[ptrV bt, ptrV bf, ptrV bx, ptrV be]
def TkSmall (N : Nat) : Prop := ∀ (c T lo hi : Int) (n : Nat) (a b u v : Nat → Int) (m : Nat) (p q : Nat → Int) (pl ph dl dh : Int) (u0 u1 wi day : Int) (s1 : Option Addr) (a1 b1 : Nat) (s2 : Option Addr) (a2 b2 : Nat) (s3 : Option Addr) (a3 b3 : Nat) (s4 : Option Addr) (a4 b4 : Nat) (out : List Int) (s : Nat), n ≤ 12 → usB c u0 u1 wi = true → 0 ≤ day ∧ day ≤ 10000 → out.length + N ≤ 1000 → s ≤ n →
 EndsTF Try.prog 22 [.row 6, .agg [i (bitsL out)], i s, i (N : Int), .ptr 0 0, .ptr 1 0, .ptr 2 0, .ptr 3 0] (TM c T lo hi n a b u v m p q pl ph dl dh u0 u1 wi day s1 a1 b1 s2 a2 b2 s3 a3 b3 s4 a4 b4 out) 7 [[.ptr 0 0, .ptr 1 0, .ptr 2 0, .ptr 3 0, .row 6, .ptr 4 0, .mp 5]] (TT_ c T lo hi n a b u v m p q pl ph dl dh u0 u1 wi day s1 a1 b1 s2 a2 b2 s3 a3 b3 s4 a4 b4 out (lvG (enL c T lo hi n a b u v m p q pl ph dl dh u0 u1 wi day) n N out s)) (TF_ c T lo hi n a b u v m p q pl ph dl dh u0 u1 wi day s1 a1 b1 s2 a2 b2 s3 a3 b3 s4 a4 b4 out) (lvF (enL c T lo hi n a b u v m p q pl ph dl dh u0 u1 wi day) n N out s).isSome
theorem row_blk {w : World} {ov : Value} {n : Nat} {xs : List Value} (h : w.ownsRow 0 3 1 ov n xs) {b : Nat} (hb : ov.ownBlock = some b) : b < w.heap.size := (h.lt b hb).2
theorem lst_slice {e : Env} {w : World} {sz n : Nat} {f : Nat → List AV} {v : Value} (h : Rep e w (.lst sz n f) v) : ∃ a k c, v = .slice a k c := by
 cases h with
 | lstNil => exact ⟨_, _, _, rfl⟩
 | lst => exact ⟨_, _, _, rfl⟩
theorem scs_idf (m : Nat) (p q : Nat → Int) : Idf (Pt.scs m p q) := .lst 2 m _ fun i hi a ha => by
 simp only [List.mem_cons, List.not_mem_nil, or_false] at ha
 rcases ha with rfl | rfl <;> exact .x _
theorem rds_idf (n : Nat) (a b u v : Nat → Int) : Idf (rds n a b u v) := .lst 4 n _ fun i hi a ha => by
 simp only [List.mem_cons, List.not_mem_nil, or_false] at ha
 rcases ha with rfl | rfl | rfl | rfl <;> exact .x _
theorem tk_small {N : Nat} (hs : TkSmall N) {c T lo hi : Int} {n : Nat} {a b u v : Nat → Int} {m : Nat} {p q : Nat → Int} {pl ph dl dh u0 u1 wi day : Int} {out : List Int} {s : Nat} (g1 : n ≤ 12) (g2 : usB c u0 u1 wi = true) (g3 : 0 ≤ day ∧ day ≤ 10000) (h2 : out.length + N ≤ 1000) (h3 : s ≤ n) {w : World} {bt bf bx be br bm : Nat} {vl vt wl wt ov y : Value} {es : Array MapEntry} {cc : Nat} {R : Env}
  (ht : w.heap[bt]? = some (.cells #[ptrV br] 69 (0, 0))) (hf : w.heap[bf]? = some (.cells #[y] 43 (0, 0))) (hx : w.heap[bx]? = some (.cells #[.int .i64 c, .int .i64 T, .int .i64 lo, .int .i64 hi, vl, vt, .int .i64 pl, .int .i64 ph, .int .i64 dl, .int .i64 dh] 31 (0, 0))) (he : w.heap[be]? = some (.cells #[fnV bt bf bx be] 74 (0, 0))) (hr : w.heap[br]? = some (.cells #[.int .i64 c, .int .i64 T, .int .i64 lo, .int .i64 hi, wl, wt, .int .i64 pl, .int .i64 ph, .int .i64 dl, .int .i64 dh, .int .i64 u0, .int .i64 u1, .int .i64 wi, .int .i64 day, .map (some bm)] 94 (0, 0)))
  (hm : w.heap[bm]? = some (.map es cc)) (hes : ∀ x ∈ es.toList, enH x.key ∧ x.val = enF c T lo hi n a b u v m p q pl ph dl dh u0 u1 wi day x.key)
  (d01 : bt ≠ bf) (d02 : bt ≠ bx) (d03 : bt ≠ be) (d04 : bt ≠ br) (d05 : bt ≠ bm) (d12 : bf ≠ bx) (d13 : bf ≠ be) (d14 : bf ≠ br) (d15 : bf ≠ bm) (d23 : bx ≠ be) (d24 : bx ≠ br) (d25 : bx ≠ bm) (d34 : be ≠ br) (d35 : be ≠ bm) (d45 : br ≠ bm) (ho : w.ownsRow 0 3 1 ov out.length (out.map (Value.int .i64))) (hov : ∃ a n c, ov = .slice a n c) (hob : ∀ x, ov.ownBlock = some x → x ≠ bt ∧ x ≠ bf ∧ x ≠ bx ∧ x ≠ be ∧ x ≠ br ∧ x ≠ bm)
  (hRl : Rep R w (rds n a b u v) vl) (hRt : Rep R w (Pt.scs m p q) vt) (hSl : Rep R w (rds n a b u v) wl) (hSt : Rep R w (Pt.scs m p q) wt) (hro : ∀ x, R.ro x → x < w.heap.size ∧ (x ≠ bt ∧ x ≠ bf ∧ x ≠ bx ∧ x ≠ be ∧ x ≠ br ∧ x ≠ bm) ∧ ov.ownBlock ≠ some x) :
  Calls Try.prog 22 #[ov, .agg #[.int .i64 (bitsL out)], .int .i64 s, .int .i64 N, ptrV bt, ptrV bf, ptrV bx, ptrV be] w fun en w1 => en = .returned (.bool (lvF (enL c T lo hi n a b u v m p q pl ph dl dh u0 u1 wi day) n N out s).isSome) ∧ w.heap.size ≤ w1.heap.size ∧ w1.os = w.os ∧ w1.tape = w.tape ∧ w1.output = w.output ∧
   (∀ x, x < w.heap.size → x ≠ bf → x ≠ bm → ov.ownBlock ≠ some x → w1.heap[x]? = w.heap[x]?) ∧ w1.ownsRow 0 3 1 ov out.length (out.map (Value.int .i64)) ∧ (∃ (es' : Array MapEntry) (cc' : Nat), w1.heap[bm]? = some (.map es' cc') ∧ ∀ x ∈ es'.toList, enH x.key ∧ x.val = enF c T lo hi n a b u v m p q pl ph dl dh u0 u1 wi day x.key) ∧
   ∃ y', w1.heap[bf]? = some (.cells #[y'] 43 (0, 0)) ∧ ((lvF (enL c T lo hi n a b u v m p q pl ph dl dh u0 u1 wi day) n N out s).isSome = true → (∃ a n c, y' = .slice a n c) ∧ w1.ownsRow 0 3 1 y' (lvG (enL c T lo hi n a b u v m p q pl ph dl dh u0 u1 wi day) n N out s).length ((lvG (enL c T lo hi n a b u v m p q pl ph dl dh u0 u1 wi day) n N out s).map (Value.int .i64)) ∧ ∀ x, y'.ownBlock = some x → w.heap.size ≤ x) := by
 have hlb0 := (Array.getElem?_eq_some_iff.1 ht).1
 have hlb1 := (Array.getElem?_eq_some_iff.1 hf).1
 have hlb2 := (Array.getElem?_eq_some_iff.1 hx).1
 have hlb3 := (Array.getElem?_eq_some_iff.1 he).1
 have hlb4 := (Array.getElem?_eq_some_iff.1 hr).1
 have hlb5 := (Array.getElem?_eq_some_iff.1 hm).1
 obtain ⟨s1, a1, b1, e1⟩ : ∃ a k c, vl = .slice a k c := lst_slice hRl
 obtain ⟨s2, a2, b2, e2⟩ : ∃ a k c, vt = .slice a k c := lst_slice hRt
 obtain ⟨s3, a3, b3, e3⟩ : ∃ a k c, wl = .slice a k c := lst_slice hSl
 obtain ⟨s4, a4, b4, e4⟩ : ∃ a k c, wt = .slice a k c := lst_slice hSt
 obtain ⟨oa, on, oc, hov⟩ := hov
 let e0 : Env := { ro := fun x => x < w.heap.size ∧ (x ≠ bt ∧ x ≠ bf ∧ x ≠ bx ∧ x ≠ be ∧ x ≠ br ∧ x ≠ bm) ∧ ov.ownBlock ≠ some x, own := fun x => if x = bt then some 0 else if x = bf then some 1 else if x = bx then some 2 else if x = be then some 3 else if x = br then some 4 else if x = bm then some 5 else if ov.ownBlock = some x then some 6 else none, live := fun k => k < 7, blk := fun k => if k = 0 then bt else if k = 1 then bf else if k = 2 then bx else if k = 3 then be else if k = 4 then br else bm, val := fun _ => ov }
 let c0 : Cx := { M := fun _ => False, Φ := fun _ _ _ => True, K := fun x o => e0.ro x ∧ w.heap[x]? = some o, saved := [[ptrV bt, ptrV bf, ptrV bx, ptrV be, ov, ptrV br, .map (some bm)]], sz := w.heap.size }
 let w00 : World := { w with heap := #[] }
 have o0 : e0.own bt = some 0 := by simp [e0]
 have o1 : e0.own bf = some 1 := by simp [e0, Ne.symm d01]
 have o2 : e0.own bx = some 2 := by simp [e0, Ne.symm d02, Ne.symm d12]
 have o3 : e0.own be = some 3 := by simp [e0, Ne.symm d03, Ne.symm d13, Ne.symm d23]
 have o4 : e0.own br = some 4 := by simp [e0, Ne.symm d04, Ne.symm d14, Ne.symm d24, Ne.symm d34]
 have o5 : e0.own bm = some 5 := by simp [e0, Ne.symm d05, Ne.symm d15, Ne.symm d25, Ne.symm d35, Ne.symm d45]
 have o6 : ∀ x, ov.ownBlock = some x → e0.own x = some 6 := by
  intro x hx
  obtain ⟨q0, q1, q2, q3, q4, q5⟩ := hob x hx
  simp [e0, q0, q1, q2, q3, q4, q5, hx]
 have hE : EnvOk e0 w00.heap.size w := by
  refine ⟨fun x hx => ?_, fun x k hk => ⟨Nat.zero_le _, ?_⟩⟩
  ·obtain ⟨z0, ⟨q0, q1, q2, q3, q4, q5⟩, q6⟩ := hx
   exact ⟨by simp [e0, q0, q1, q2, q3, q4, q5, q6], z0⟩
  ·have hk : (if x = bt then some 0 else if x = bf then some 1 else if x = bx then some 2 else if x = be then some 3 else if x = br then some 4 else if x = bm then some 5 else if ov.ownBlock = some x then some 6 else none) = some k := hk
   split at hk
   ·rename_i h; rw [h]; exact hlb0
   split at hk
   ·rename_i h; rw [h]; exact hlb1
   split at hk
   ·rename_i h; rw [h]; exact hlb2
   split at hk
   ·rename_i h; rw [h]; exact hlb3
   split at hk
   ·rename_i h; rw [h]; exact hlb4
   split at hk
   ·rename_i h; rw [h]; exact hlb5
   split at hk
   ·rename_i h; exact row_blk ho h
   ·cases hk
 have p0 : Rep e0 w (.ptr 0 0) (ptrV bt) := .ptr 0 0 (show 0 < 7 by omega)
 have p1 : Rep e0 w (.ptr 1 0) (ptrV bf) := .ptr 1 0 (show 1 < 7 by omega)
 have p2 : Rep e0 w (.ptr 2 0) (ptrV bx) := .ptr 2 0 (show 2 < 7 by omega)
 have p3 : Rep e0 w (.ptr 3 0) (ptrV be) := .ptr 3 0 (show 3 < 7 by omega)
 have p4 : Rep e0 w (.ptr 4 0) (ptrV br) := .ptr 4 0 (show 4 < 7 by omega)
 have p5 : Rep e0 w (.mp 5) (.map (some bm)) := .mp 5 (show 5 < 7 by omega)
 have p6 : Rep e0 w (.row 6) ov := by
  rw [hov]
  exact .row 6 _ _ _ (show 6 < 7 by omega) hov
 have hcaps : RepL e0 w [.ptr 0 0, .ptr 1 0, .ptr 2 0, .ptr 3 0] [ptrV bt, ptrV bf, ptrV bx, ptrV be] := .cons p0 (.cons p1 (.cons p2 (.cons p3 (.nil _ _))))
 have hfn : Rep e0 w (.fn (.func 22) [] [.ptr 0 0, .ptr 1 0, .ptr 2 0, .ptr 3 0]) (fnV bt bf bx be) := .fn _ [] _ [] _ rfl (fun i a v h => by simp at h) hcaps.1 hcaps.2
 have rl : Rep e0 w (rds n a b u v) vl := Rep.idf (e := R) (e' := e0) (fun x hx => hro x hx) hRl (rds_idf _ _ _ _ _)
 have rt : Rep e0 w (Pt.scs m p q) vt := Rep.idf (e := R) (e' := e0) (fun x hx => hro x hx) hRt (scs_idf _ _ _)
 have sl : Rep e0 w (rds n a b u v) wl := Rep.idf (e := R) (e' := e0) (fun x hx => hro x hx) hSl (rds_idf _ _ _ _ _)
 have st : Rep e0 w (Pt.scs m p q) wt := Rep.idf (e := R) (e' := e0) (fun x hx => hro x hx) hSt (scs_idf _ _ _)
 have hM : MemOk e0 (TM c T lo hi n a b u v m p q pl ph dl dh u0 u1 wi day s1 a1 b1 s2 a2 b2 s3 a3 b3 s4 a4 b4 out) w := by
  intro pp hp
  unfold TM at hp
  simp only [List.mem_cons, List.not_mem_nil, or_false] at hp
  rcases hp with rfl | rfl | rfl | rfl | rfl | rfl | rfl | rfl | rfl
  ·exact ⟨show 0 < 7 by omega, o0, [ptrV br], ht, .cons p4 (.nil _ _)⟩
  ·exact ⟨show 1 < 7 by omega, o1, [y], hf, .cons (.top _) (.nil _ _)⟩
  ·exact ⟨show 2 < 7 by omega, o2, [.int .i64 c, .int .i64 T, .int .i64 lo, .int .i64 hi, vl, vt, .int .i64 pl, .int .i64 ph, .int .i64 dl, .int .i64 dh], hx, .cons (.x _) (.cons (.x _) (.cons (.x _) (.cons (.x _) (.cons rl (.cons rt (.cons (.x _) (.cons (.x _) (.cons (.x _) (.cons (.x _) (.nil _ _))))))))))⟩
  ·exact ⟨show 2 < 7 by omega, o2, [.int .i64 c, .int .i64 T, .int .i64 lo, .int .i64 hi, vl, vt, .int .i64 pl, .int .i64 ph, .int .i64 dl, .int .i64 dh], hx, .cons (.x _) (.cons (.x _) (.cons (.x _) (.cons (.x _) (.cons (by rw [e1]; exact .x _) (.cons (by rw [e2]; exact .x _) (.cons (.x _) (.cons (.x _) (.cons (.x _) (.cons (.x _) (.nil _ _))))))))))⟩
  ·exact ⟨show 3 < 7 by omega, o3, [fnV bt bf bx be], he, .cons hfn (.nil _ _)⟩
  ·exact ⟨show 4 < 7 by omega, o4, [.int .i64 c, .int .i64 T, .int .i64 lo, .int .i64 hi, wl, wt, .int .i64 pl, .int .i64 ph, .int .i64 dl, .int .i64 dh, .int .i64 u0, .int .i64 u1, .int .i64 wi, .int .i64 day, .map (some bm)], hr, .cons (.x _) (.cons (.x _) (.cons (.x _) (.cons (.x _) (.cons sl (.cons st (.cons (.x _) (.cons (.x _) (.cons (.x _) (.cons (.x _) (.cons (.x _) (.cons (.x _) (.cons (.x _) (.cons (.x _) (.cons p5 (.nil _ _)))))))))))))))⟩
  ·exact ⟨show 4 < 7 by omega, o4, [.int .i64 c, .int .i64 T, .int .i64 lo, .int .i64 hi, wl, wt, .int .i64 pl, .int .i64 ph, .int .i64 dl, .int .i64 dh, .int .i64 u0, .int .i64 u1, .int .i64 wi, .int .i64 day, .map (some bm)], hr, .cons (.x _) (.cons (.x _) (.cons (.x _) (.cons (.x _) (.cons (by rw [e3]; exact .x _) (.cons (by rw [e4]; exact .x _) (.cons (.x _) (.cons (.x _) (.cons (.x _) (.cons (.x _) (.cons (.x _) (.cons (.x _) (.cons (.x _) (.cons (.x _) (.cons p5 (.nil _ _)))))))))))))))⟩
  ·exact ⟨show 5 < 7 by omega, o5, es, cc, hm, hes⟩
  ·refine ⟨show 6 < 7 by omega, o6, fun i hi => ⟨rfl, fun a ha => by rw [List.mem_singleton.1 ha]; exact .x _⟩, _, ho, fun i j a v hi ha hv => ?_⟩
   cases j with
   | zero =>
    simp only [List.getElem?_cons_zero, Option.some.injEq] at ha
    subst ha
    rw [show i * 1 + 0 = i by omega, List.getElem?_map, nthJ_bang out i hi] at hv
    simp only [Option.map_some, Option.some.injEq] at hv
    rw [← hv]
    exact .x _
   | succ j => simp at ha
 have hX : Xt c0 e0 [[.ptr 0 0, .ptr 1 0, .ptr 2 0, .ptr 3 0, .row 6, .ptr 4 0, .mp 5]] [] w :=
  ⟨⟨fun d hd => (by cases hd), List.nodup_nil⟩, fun x o hk => ⟨hk.1, hk.1.1, hk.2⟩, RepLL.cons (.cons p0 (.cons p1 (.cons p2 (.cons p3 (.cons p6 (.cons p4 (.cons p5 (.nil _ _)))))))) ⟨rfl, fun i a v h => by simp at h⟩, Nat.le_refl _⟩
 have hag : Rep e0 w (.agg [i (bitsL out)]) (.agg #[.int .i64 (bitsL out)]) := Rep.aggL (RepL.one (.x _))
 have hA : RepL e0 w [.row 6, .agg [i (bitsL out)], i s, i (N : Int), .ptr 0 0, .ptr 1 0, .ptr 2 0, .ptr 3 0] [ov, .agg #[.int .i64 (bitsL out)], .int .i64 s, .int .i64 N, ptrV bt, ptrV bf, ptrV bx, ptrV be] := .cons p6 (.cons hag (.cons (.x _) (.cons (.x _) hcaps)))
 have hcall := hs c T lo hi n a b u v m p q pl ph dl dh u0 u1 wi day s1 a1 b1 s2 a2 b2 s3 a3 b3 s4 a4 b4 out s g1 g2 g3 h2 h3 c0 w00 (fun _ => False) e0 [] [ov, .agg #[.int .i64 (bitsL out)], .int .i64 s, .int .i64 N, ptrV bt, ptrV bf, ptrV bx, ptrV be] w hE ⟨rfl, rfl, rfl, Nat.zero_le _, fun k hk => absurd hk (Nat.not_lt_zero _)⟩ hM (fun k hk => hk) (fun _ h => h.elim) hX hA
 refine hcall.mono ?_
 rintro en w1 ⟨hen, e1', f1, f2, f3, f4, _, f6⟩
 have hsv : (cond (lvF (enL c T lo hi n a b u v m p q pl ph dl dh u0 u1 wi day) n N out s).isSome (TT_ c T lo hi n a b u v m p q pl ph dl dh u0 u1 wi day s1 a1 b1 s2 a2 b2 s3 a3 b3 s4 a4 b4 out (lvG (enL c T lo hi n a b u v m p q pl ph dl dh u0 u1 wi day) n N out s)) (TF_ c T lo hi n a b u v m p q pl ph dl dh u0 u1 wi day s1 a1 b1 s2 a2 b2 s3 a3 b3 s4 a4 b4 out)).sv = [[.ptr 0 0, .ptr 1 0, .ptr 2 0, .ptr 3 0, .row 6, .ptr 4 0, .mp 5]] := by
  cases (lvF (enL c T lo hi n a b u v m p q pl ph dl dh u0 u1 wi day) n N out s).isSome <;> rfl
 have hsd := f6.saved
 rw [hsv] at hsd
 have hs1 := hsd.2 0 _ _ rfl rfl
 obtain ⟨v0, l0, qq, r0, hs1⟩ := hs1.cons_inv
 obtain ⟨rfl, rfl⟩ := List.cons.inj qq
 obtain ⟨v1, l1, qq, r1, hs1⟩ := hs1.cons_inv
 obtain ⟨rfl, rfl⟩ := List.cons.inj qq
 obtain ⟨v2, l2, qq, r2, hs1⟩ := hs1.cons_inv
 obtain ⟨rfl, rfl⟩ := List.cons.inj qq
 obtain ⟨v3, l3, qq, r3, hs1⟩ := hs1.cons_inv
 obtain ⟨rfl, rfl⟩ := List.cons.inj qq
 obtain ⟨v4, l4, qq, r4, hs1⟩ := hs1.cons_inv
 obtain ⟨rfl, rfl⟩ := List.cons.inj qq
 obtain ⟨v5, l5, qq, r5, hs1⟩ := hs1.cons_inv
 obtain ⟨rfl, rfl⟩ := List.cons.inj qq
 obtain ⟨v6, l6, qq, r6, hs1⟩ := hs1.cons_inv
 obtain ⟨rfl, rfl⟩ := List.cons.inj qq
 have ptr_inv : ∀ {k x : Nat}, Rep e1' w1 (.ptr k 0) (ptrV x) → e1'.blk k = x := by
  intro k x h
  cases h
  rfl
 have b0 := ptr_inv r0
 have b1' := ptr_inv r1
 have b2' := ptr_inv r2
 have b3' := ptr_inv r3
 have b4' := ptr_inv r5
 have b5' : e1'.blk 5 = bm := by
  cases r6
  rfl
 have b6' : e1'.val 6 = ov := by
  generalize ov = z at r4
  cases r4 with
  | row _ a n c _ hv => exact hv
 have z : ∀ {k : Nat} {x : Value}, Rep e1' w1 (.ptr k 0) x → x = ptrV (e1'.blk k) := by
  intro k x h
  cases h
  rfl
 have zm : ∀ {k : Nat} {x : Value}, Rep e1' w1 (.mp k) x → x = .map (some (e1'.blk k)) := by
  intro k x h
  cases h
  rfl
 have hmem : ∀ pp : Nat × Res, (pp ∈ (TT_ c T lo hi n a b u v m p q pl ph dl dh u0 u1 wi day s1 a1 b1 s2 a2 b2 s3 a3 b3 s4 a4 b4 out (lvG (enL c T lo hi n a b u v m p q pl ph dl dh u0 u1 wi day) n N out s)).m ∧ pp ∈ (TF_ c T lo hi n a b u v m p q pl ph dl dh u0 u1 wi day s1 a1 b1 s2 a2 b2 s3 a3 b3 s4 a4 b4 out).m) → Holds e1' w1 pp.1 pp.2 := by
  intro pp hp
  refine f3 pp ?_
  cases (lvF (enL c T lo hi n a b u v m p q pl ph dl dh u0 u1 wi day) n N out s).isSome
  ·exact hp.2
  ·exact hp.1
 have k0 := hmem (0, .cells 69 [.ptr 4 0]) ⟨by simp [TT_], by simp [TF_]⟩
 have k2 := hmem (2, .cells 31 [i c, i T, i lo, i hi, .x (.slice s1 a1 b1), .x (.slice s2 a2 b2), i pl, i ph, i dl, i dh]) ⟨by simp [TT_], by simp [TF_]⟩
 have k3 := hmem (3, .cells 74 [.fn (.func 22) [] [.ptr 0 0, .ptr 1 0, .ptr 2 0, .ptr 3 0]]) ⟨by simp [TT_], by simp [TF_]⟩
 have k4 := hmem (4, .cells 94 [i c, i T, i lo, i hi, .x (.slice s3 a3 b3), .x (.slice s4 a4 b4), i pl, i ph, i dl, i dh, i u0, i u1, i wi, i day, .mp 5]) ⟨by simp [TT_], by simp [TF_]⟩
 have k5 := hmem (5, .memo enH (enF c T lo hi n a b u v m p q pl ph dl dh u0 u1 wi day)) ⟨by simp [TT_], by simp [TF_]⟩
 have k6 := hmem (6, .row 3 1 out.length (fun j => [i (nthJ out j)])) ⟨by simp [TT_], by simp [TF_]⟩
 have m0 : w1.heap[bt]? = w.heap[bt]? := by
  obtain ⟨_, _, vs, q1, q2⟩ := k0
  obtain ⟨x, xs, rfl, q3, q4⟩ := q2.cons_inv
  obtain rfl := q4.nil_inv
  rw [b0] at q1
  rw [q1, ht, z q3, b4']
 have m2 : w1.heap[bx]? = w.heap[bx]? := by
  obtain ⟨_, _, vs, q1, q2⟩ := k2
  obtain ⟨x1, xs, rfl, t1, q2⟩ := q2.cons_inv
  obtain ⟨x2, xs, rfl, t2, q2⟩ := q2.cons_inv
  obtain ⟨x3, xs, rfl, t3, q2⟩ := q2.cons_inv
  obtain ⟨x4, xs, rfl, t4, q2⟩ := q2.cons_inv
  obtain ⟨x5, xs, rfl, t5, q2⟩ := q2.cons_inv
  obtain ⟨x6, xs, rfl, t6, q2⟩ := q2.cons_inv
  obtain ⟨x7, xs, rfl, t7, q2⟩ := q2.cons_inv
  obtain ⟨x8, xs, rfl, t8, q2⟩ := q2.cons_inv
  obtain ⟨x9, xs, rfl, t9, q2⟩ := q2.cons_inv
  obtain ⟨x10, xs, rfl, t10, q2⟩ := q2.cons_inv
  obtain rfl := q2.nil_inv
  rw [b2'] at q1
  rw [q1, hx, t1.x_inv, t2.x_inv, t3.x_inv, t4.x_inv, t5.x_inv, t6.x_inv, t7.x_inv, t8.x_inv, t9.x_inv, t10.x_inv, e1, e2]
 have m3 : w1.heap[be]? = w.heap[be]? := by
  obtain ⟨_, _, vs, q1, q2⟩ := k3
  obtain ⟨x, xs, rfl, t1, q2⟩ := q2.cons_inv
  obtain rfl := q2.nil_inv
  obtain ⟨us, us', rfl, t2, t3⟩ := t1.fn_inv
  obtain rfl := t2.nil_inv
  obtain ⟨x1, xs, rfl, s1, t3⟩ := t3.cons_inv
  obtain ⟨x2, xs, rfl, s2, t3⟩ := t3.cons_inv
  obtain ⟨x3, xs, rfl, s3, t3⟩ := t3.cons_inv
  obtain ⟨x4, xs, rfl, s4, t3⟩ := t3.cons_inv
  obtain rfl := t3.nil_inv
  rw [b3'] at q1
  rw [q1, he, z s1, z s2, z s3, z s4, b0, b1', b2', b3']
 have m4 : w1.heap[br]? = w.heap[br]? := by
  obtain ⟨_, _, vs, q1, q2⟩ := k4
  obtain ⟨x1, xs, rfl, t1, q2⟩ := q2.cons_inv
  obtain ⟨x2, xs, rfl, t2, q2⟩ := q2.cons_inv
  obtain ⟨x3, xs, rfl, t3, q2⟩ := q2.cons_inv
  obtain ⟨x4, xs, rfl, t4, q2⟩ := q2.cons_inv
  obtain ⟨x5, xs, rfl, t5, q2⟩ := q2.cons_inv
  obtain ⟨x6, xs, rfl, t6, q2⟩ := q2.cons_inv
  obtain ⟨x7, xs, rfl, t7, q2⟩ := q2.cons_inv
  obtain ⟨x8, xs, rfl, t8, q2⟩ := q2.cons_inv
  obtain ⟨x9, xs, rfl, t9, q2⟩ := q2.cons_inv
  obtain ⟨x10, xs, rfl, t10, q2⟩ := q2.cons_inv
  obtain ⟨x11, xs, rfl, t11, q2⟩ := q2.cons_inv
  obtain ⟨x12, xs, rfl, t12, q2⟩ := q2.cons_inv
  obtain ⟨x13, xs, rfl, t13, q2⟩ := q2.cons_inv
  obtain ⟨x14, xs, rfl, t14, q2⟩ := q2.cons_inv
  obtain ⟨x15, xs, rfl, t15, q2⟩ := q2.cons_inv
  obtain rfl := q2.nil_inv
  rw [b4'] at q1
  rw [q1, hr, t1.x_inv, t2.x_inv, t3.x_inv, t4.x_inv, t5.x_inv, t6.x_inv, t7.x_inv, t8.x_inv, t9.x_inv, t10.x_inv, t11.x_inv, t12.x_inv, t13.x_inv, t14.x_inv, zm t15, b5', e3, e4]
 have hsame : ∀ x, x < w.heap.size → x ≠ bf → x ≠ bm → ov.ownBlock ≠ some x → w1.heap[x]? = w.heap[x]? := by
  intro x hx hxf hxm hxo
  rcases Classical.em (x = bt) with rfl | n0
  ·exact m0
  rcases Classical.em (x = bx) with rfl | n1
  ·exact m2
  rcases Classical.em (x = be) with rfl | n3
  ·exact m3
  rcases Classical.em (x = br) with rfl | n4
  ·exact m4
  have hk := f6.kept x w.heap[x] ⟨⟨hx, ⟨n0, hxf, n1, n3, n4, hxm⟩, hxo⟩, by simp [hx]⟩
  rw [hk.2.2]
  simp [hx]
 have ho1 : w1.ownsRow 0 3 1 ov out.length (out.map (Value.int .i64)) := by
  have := row_ex2 k6 (isRec1 _ _)
  rw [b6', outL_list rfl (fun j _ => rfl)] at this
  exact this
 have hmm : ∃ (es' : Array MapEntry) (cc' : Nat), w1.heap[bm]? = some (.map es' cc') ∧ ∀ x ∈ es'.toList, enH x.key ∧ x.val = enF c T lo hi n a b u v m p q pl ph dl dh u0 u1 wi day x.key := by
  obtain ⟨_, _, es', cc', q1, q2⟩ := k5
  rw [b5'] at q1
  exact ⟨es', cc', q1, q2⟩
 have hsz : w.heap.size ≤ w1.heap.size := f6.size
 refine ⟨hen, hsz, f2.os, f2.tape, f2.output, hsame, ho1, hmm, ?_⟩
 cases hb : (lvF (enL c T lo hi n a b u v m p q pl ph dl dh u0 u1 wi day) n N out s).isSome with
 | false =>
  rw [hb] at f3
  have k1 := f3 (1, .cells 43 [.top]) (by simp [TF_])
  obtain ⟨_, _, vs, q1, q2⟩ := k1
  obtain ⟨x, xs, rfl, _, q2⟩ := q2.cons_inv
  obtain rfl := q2.nil_inv
  rw [b1'] at q1
  exact ⟨x, q1, fun h => by cases h⟩
 | true =>
  rw [hb] at f3
  have k1 := f3 (1, .cells 43 [.row 900]) (by simp [TT_])
  have k9 := f3 (900, .row 3 1 (lvG (enL c T lo hi n a b u v m p q pl ph dl dh u0 u1 wi day) n N out s).length (fun j => [i (nthJ (lvG (enL c T lo hi n a b u v m p q pl ph dl dh u0 u1 wi day) n N out s) j)])) (by simp [TT_])
  have own1 := k1.2.1
  obtain ⟨_, _, vs, q1, q2⟩ := k1
  obtain ⟨x, xs, rfl, t1, q2⟩ := q2.cons_inv
  obtain rfl := q2.nil_inv
  rw [b1'] at q1
  have hx : (∃ a n c, x = .slice a n c) ∧ e1'.val 900 = x := by
   cases t1 with
   | row _ a n c _ hv => exact ⟨⟨a, n, c, rfl⟩, hv⟩
  have h9 := row_ex2 k9 (isRec1 _ _)
  rw [hx.2, outL_list rfl (fun j _ => rfl)] at h9
  refine ⟨x, q1, fun _ => ⟨hx.1, h9, fun y hy => ?_⟩⟩
  rcases Nat.lt_or_ge y w.heap.size with hlt | hge
  ·exfalso
   have hoz : e1'.own y = some 900 := k9.2.1 y (by show (e1'.val 900).ownBlock = some y; rw [hx.2]; exact hy)
   rcases Classical.em (y = bt) with rfl | n0
   ·have := k0.2.1
    rw [b0] at this
    rw [this] at hoz; cases hoz
   rcases Classical.em (y = bf) with rfl | n1
   ·rw [b1'] at own1
    rw [own1] at hoz; cases hoz
   rcases Classical.em (y = bx) with rfl | n2
   ·have := k2.2.1
    rw [b2'] at this
    rw [this] at hoz; cases hoz
   rcases Classical.em (y = be) with rfl | n3
   ·have := k3.2.1
    rw [b3'] at this
    rw [this] at hoz; cases hoz
   rcases Classical.em (y = br) with rfl | n4
   ·have := k4.2.1
    rw [b4'] at this
    rw [this] at hoz; cases hoz
   rcases Classical.em (y = bm) with rfl | n5
   ·have := k5.2.1
    rw [b5'] at this
    rw [this] at hoz; cases hoz
   rcases Classical.em (ov.ownBlock = some y) with n6 | n6
   ·have := k6.2.1 y (by show (e1'.val 6).ownBlock = some y; rw [b6']; exact n6)
    rw [this] at hoz; cases hoz
   have hk := f6.kept y w.heap[y] ⟨⟨hlt, ⟨n0, n1, n2, n3, n4, n5⟩, n6⟩, by simp [hlt]⟩
   rw [(f1.apart y hk.1).1] at hoz
   cases hoz
  ·exact hge
end Go.Proofs.Ytlinbkmpkcmniaa
namespace Go.Proofs.Ytlinbkmpkcmniaa
open Go Go.Sx Go.RowKit Bo
open Go.Sx.Tree (need branch leaf)
open Go.Sx.AV (lst ptr agg roI tup top)
theorem distB_cons {x : Nat} {l : List Nat} : distB (x :: l) = true ↔ (∀ y ∈ l, x ≠ y) ∧ distB l = true := by
 show (match l.all (fun y => !Nat.beq x y) with | true => distB l | false => false) = true ↔ _
 cases h : l.all (fun y => !Nat.beq x y) with
 | true => exact ⟨fun h2 => ⟨fun y hy => nbeq_ne (List.all_eq_true.1 h y hy), h2⟩, fun h2 => h2.2⟩
 | false =>
  refine ⟨fun h2 => (by cases h2), fun h2 => ?_⟩
  exfalso
  have : l.all (fun y => !Nat.beq x y) = true := List.all_eq_true.2 fun y hy => by
   cases hb : Nat.beq x y with
   | true => exact absurd (Nat.eq_of_beq_eq_true hb) (h2.1 y hy)
   | false => rfl
  rw [h] at this
  cases this
theorem tk_frame {N : Nat} (hs : TkSmall N) : SoundHSpec Try.prog 22 (H_tk N) := by
 refine ⟨⟨_, Try.func22, by kernel_rfl, by kernel_rfl⟩, ?_⟩
 intro avs mem nx sv tree ht Q hQ cx w0 TT e ds args w hE hB hm hlv hfoe hxt hr
 unfold H_tk at ht
 split at ht
 ·rename_i o sb s M t z1 fo z2 x z3 le z4
  split at ht
  ·rename_i Tt tr z5 Tf xf Tx c T lo hi sl n fr sm m ft pl ph dl dh Te fg t' y1 fo' y2 x' y3 le' y4 ids k g h1 h2 h3 h4 h5
   split at ht
   ·rename_i Tr c2 T2 lo2 hi2 sl2 n2 fr2 sm2 m2 ft2 pl2 ph2 dl2 dh2 u0 u1 wi day mp h6
    split at ht
    ·rename_i eh F h7
     split at ht
     ·rename_i hb
      rw [Bool.and_eq_true] at hb
      obtain ⟨hb1, hb2⟩ := hb
      simp only [numsB_cons] at hb1
      obtain ⟨rfl, rfl, rfl, rfl, rfl, rfl, rfl, rfl, rfl, rfl, rfl, rfl, rfl, rfl, rfl, rfl, rfl, rfl, rfl, rfl, rfl, rfl, rfl, _⟩ := hb1
      simp only [distB_cons, List.mem_cons, List.not_mem_nil, or_false, forall_eq_or_imp, forall_eq] at hb2
      obtain ⟨⟨d01, d02, d03, d04, d05⟩, ⟨d12, d13, d14, d15⟩, ⟨d23, d24, d25⟩, ⟨d34, d35⟩, d45, _⟩ := hb2
      cases ht
      obtain ⟨hn, hq⟩ := Tree.sat_needT hQ
      have hn := allP_mem hn
      have n1 : isRec 4 n fr := hn _ (List.mem_append_left _ (by simp))
      have n2' : isRec 2 m ft := hn _ (List.mem_append_left _ (by simp))
      have n3 : isRec 1 k g := hn _ (List.mem_append_left _ (by simp))
      have n4 : n ≤ 12 := hn _ (List.mem_append_left _ (by simp))
      have n5 : usB c u0 u1 wi = true := hn _ (List.mem_append_left _ (by simp))
      have n6 : 0 ≤ day ∧ day ≤ 10000 := hn _ (List.mem_append_left _ (by simp))
      have n7 : eh = enH := hn _ (List.mem_append_left _ (by simp))
      have n8 : F = enF c T lo hi n (col 0 fr) (col 1 fr) (col 2 fr) (col 3 fr) m (Pt.col 0 ft) (Pt.col 1 ft) pl ph dl dh u0 u1 wi day := hn _ (List.mem_append_left _ (by simp))
      have n9 : sb = bitsL (outL k g) := hn _ (List.mem_append_left _ (by simp))
      have n10 : M = (N : Int) := hn _ (List.mem_append_left _ (by simp))
      have n11 : 0 ≤ s ∧ s ≤ n := hn _ (List.mem_append_left _ (by simp))
      have n12 : k + N ≤ 1000 := hn _ (List.mem_append_left _ (by simp))
      obtain rfl : c = c2 := (show c2 = c from hn _ (List.mem_append_left _ (by simp))).symm
      obtain rfl : T = T2 := (show T2 = T from hn _ (List.mem_append_left _ (by simp))).symm
      obtain rfl : lo = lo2 := (show lo2 = lo from hn _ (List.mem_append_left _ (by simp))).symm
      obtain rfl : hi = hi2 := (show hi2 = hi from hn _ (List.mem_append_left _ (by simp))).symm
      obtain rfl : n = n2 := (show n2 = n from hn _ (List.mem_append_left _ (by simp))).symm
      obtain rfl : fr = fr2 := (show fr2 = fr from hn _ (List.mem_append_left _ (by simp))).symm
      obtain rfl : m = m2 := (show m2 = m from hn _ (List.mem_append_left _ (by simp))).symm
      obtain rfl : ft = ft2 := (show ft2 = ft from hn _ (List.mem_append_left _ (by simp))).symm
      obtain rfl : pl = pl2 := (show pl2 = pl from hn _ (List.mem_append_left _ (by simp))).symm
      obtain rfl : ph = ph2 := (show ph2 = ph from hn _ (List.mem_append_left _ (by simp))).symm
      obtain rfl : dl = dl2 := (show dl2 = dl from hn _ (List.mem_append_left _ (by simp))).symm
      obtain rfl : dh = dh2 := (show dh2 = dh from hn _ (List.mem_append_left _ (by simp))).symm
      have hkeep := keepN_spec (fun p hp => hn p (List.mem_append_right _ hp))
      clear hn hQ
      subst n10
      subst n9
      subst n8
      subst n7
      obtain ⟨s, rfl⟩ : ∃ s' : Nat, s = s' := ⟨s.toNat, by omega⟩
      simp only [Int.toNat_natCast] at hq
      obtain ⟨ov, l1, rfl, r1, hr⟩ := hr.cons_inv
      obtain ⟨v2, l2, rfl, r2, hr⟩ := hr.cons_inv
      obtain ⟨v3, l3, rfl, r3, hr⟩ := hr.cons_inv
      obtain ⟨v4, l4, rfl, r4, hr⟩ := hr.cons_inv
      obtain ⟨v5, l5, rfl, r5, hr⟩ := hr.cons_inv
      obtain ⟨v6, l6, rfl, r6, hr⟩ := hr.cons_inv
      obtain ⟨v7, l7, rfl, r7, hr⟩ := hr.cons_inv
      obtain ⟨v8, l8, rfl, r8, hr⟩ := hr.cons_inv
      obtain rfl := hr.nil_inv
      have z : ∀ {k : Nat} {x : Value}, Rep e w (.ptr k 0) x → x = ptrV (e.blk k) := by
       intro k x h
       cases h
       rfl
      have zm : ∀ {k : Nat} {x : Value}, Rep e w (.mp k) x → x = .map (some (e.blk k)) := by
       intro k x h
       cases h
       rfl
      obtain ⟨va, rfl, ra⟩ := r2.agg_inv
      obtain ⟨xa, xsa, rfl, ta, ra⟩ := ra.cons_inv
      obtain rfl := ra.nil_inv
      obtain rfl := ta.x_inv
      obtain rfl := r3.x_inv
      obtain rfl := r4.x_inv
      obtain rfl := z r5
      obtain rfl := z r6
      obtain rfl := z r7
      obtain rfl := z r8
      have m1 := getM_mem h1
      have m2 := getM_mem h2
      have m3 := getM_mem h3
      have m4 := getM_mem h4
      have m6 := getM_mem h6
      have m7 := getM_mem h7
      obtain ⟨_, ownt, vs1, hp1, q1⟩ := hm _ m1
      obtain ⟨vt0, xs1, rfl, rt0, q1⟩ := q1.cons_inv
      obtain rfl := q1.nil_inv
      obtain rfl := z rt0
      obtain ⟨livefo, ownfo, vs3, hp2, q2⟩ := hm _ m2
      obtain ⟨y, xs3, rfl, _, q2⟩ := q2.cons_inv
      obtain rfl := q2.nil_inv
      obtain ⟨_, ownx, vsx, hp3, q3⟩ := hm _ m3
      obtain ⟨x_1, xs, rfl, tx1, q3⟩ := q3.cons_inv
      obtain ⟨x_2, xs, rfl, tx2, q3⟩ := q3.cons_inv
      obtain ⟨x_3, xs, rfl, tx3, q3⟩ := q3.cons_inv
      obtain ⟨x_4, xs, rfl, tx4, q3⟩ := q3.cons_inv
      obtain ⟨x_5, xs, rfl, tx5, q3⟩ := q3.cons_inv
      obtain ⟨x_6, xs, rfl, tx6, q3⟩ := q3.cons_inv
      obtain ⟨x_7, xs, rfl, tx7, q3⟩ := q3.cons_inv
      obtain ⟨x_8, xs, rfl, tx8, q3⟩ := q3.cons_inv
      obtain ⟨x_9, xs, rfl, tx9, q3⟩ := q3.cons_inv
      obtain ⟨x_10, xs, rfl, tx10, q3⟩ := q3.cons_inv
      obtain rfl := q3.nil_inv
      obtain rfl := tx1.x_inv
      obtain rfl := tx2.x_inv
      obtain rfl := tx3.x_inv
      obtain rfl := tx4.x_inv
      obtain rfl := tx7.x_inv
      obtain rfl := tx8.x_inv
      obtain rfl := tx9.x_inv
      obtain rfl := tx10.x_inv
      obtain ⟨_, ownle, vs4, hp4, q4⟩ := hm _ m4
      obtain ⟨fv, xs4, rfl, t5, q4⟩ := q4.cons_inv
      obtain rfl := q4.nil_inv
      obtain ⟨us, us', rfl, t6, t7⟩ := t5.fn_inv
      obtain rfl := t6.nil_inv
      obtain ⟨w1', xs, rfl, s1, t7⟩ := t7.cons_inv
      obtain ⟨w2', xs, rfl, s2, t7⟩ := t7.cons_inv
      obtain ⟨w3', xs, rfl, s3, t7⟩ := t7.cons_inv
      obtain ⟨w4', xs, rfl, s4, t7⟩ := t7.cons_inv
      obtain rfl := t7.nil_inv
      obtain rfl := z s1
      obtain rfl := z s2
      obtain rfl := z s3
      obtain rfl := z s4
      obtain ⟨_, owntr, vst, hp6, q6⟩ := hm _ m6
      obtain ⟨y_1, xs, rfl, tt1, q6⟩ := q6.cons_inv
      obtain ⟨y_2, xs, rfl, tt2, q6⟩ := q6.cons_inv
      obtain ⟨y_3, xs, rfl, tt3, q6⟩ := q6.cons_inv
      obtain ⟨y_4, xs, rfl, tt4, q6⟩ := q6.cons_inv
      obtain ⟨y_5, xs, rfl, tt5, q6⟩ := q6.cons_inv
      obtain ⟨y_6, xs, rfl, tt6, q6⟩ := q6.cons_inv
      obtain ⟨y_7, xs, rfl, tt7, q6⟩ := q6.cons_inv
      obtain ⟨y_8, xs, rfl, tt8, q6⟩ := q6.cons_inv
      obtain ⟨y_9, xs, rfl, tt9, q6⟩ := q6.cons_inv
      obtain ⟨y_10, xs, rfl, tt10, q6⟩ := q6.cons_inv
      obtain ⟨y_11, xs, rfl, tt11, q6⟩ := q6.cons_inv
      obtain ⟨y_12, xs, rfl, tt12, q6⟩ := q6.cons_inv
      obtain ⟨y_13, xs, rfl, tt13, q6⟩ := q6.cons_inv
      obtain ⟨y_14, xs, rfl, tt14, q6⟩ := q6.cons_inv
      obtain ⟨y_15, xs, rfl, tt15, q6⟩ := q6.cons_inv
      obtain rfl := q6.nil_inv
      obtain rfl := tt1.x_inv
      obtain rfl := tt2.x_inv
      obtain rfl := tt3.x_inv
      obtain rfl := tt4.x_inv
      obtain rfl := tt7.x_inv
      obtain rfl := tt8.x_inv
      obtain rfl := tt9.x_inv
      obtain rfl := tt10.x_inv
      obtain rfl := tt11.x_inv
      obtain rfl := tt12.x_inv
      obtain rfl := tt13.x_inv
      obtain rfl := tt14.x_inv
      obtain rfl := zm tt15
      obtain ⟨livemp, ownmp, es, cc, hp7, hes⟩ := hm _ m7
      replace ownt : e.own (e.blk t) = some t := ownt
      replace ownfo : e.own (e.blk fo) = some fo := ownfo
      replace ownx : e.own (e.blk x) = some x := ownx
      replace ownle : e.own (e.blk le) = some le := ownle
      replace owntr : e.own (e.blk tr) = some tr := owntr
      replace ownmp : e.own (e.blk mp) = some mp := ownmp
      obtain ⟨hsl, ho, hob⟩ := lvOut_of h5 hm n3 r1
      have hk : (outL k g).length = k := by simp [outL]
      have notin : ∀ {id : Nat} {r : Res}, (id, r) ∈ mem → isAka r = false → (∀ n' f', r ≠ .row 3 1 n' f') → id ∉ ids := by
       intro id r hmem hna hnr hin
       rcases hkeep _ hmem hin with h | ⟨_, _, h, _⟩
       ·rw [hna] at h; cases h
       ·exact hnr _ _ h
      have dne : ∀ {x y j j' : Nat}, e.own x = some j → e.own y = some j' → j ≠ j' → x ≠ y := by
       rintro x y j j' hx hy hj rfl
       rw [hx] at hy
       exact hj (Option.some.inj hy)
      have hobn : ∀ x_, ov.ownBlock = some x_ → x_ ≠ e.blk t ∧ x_ ≠ e.blk fo ∧ x_ ≠ e.blk x ∧ x_ ≠ e.blk le ∧ x_ ≠ e.blk tr ∧ x_ ≠ e.blk mp := by
       intro x_ hx
       obtain ⟨j, hj, hj2⟩ := hob x_ hx
       have nt : ∀ {id : Nat} {r : Res}, (id, r) ∈ mem → isAka r = false → (∀ n' f', r ≠ .row 3 1 n' f') → j ≠ id := fun h1 h2 h3 h4 => notin h1 h2 h3 (h4 ▸ hj)
       exact ⟨dne hj2 ownt (nt m1 rfl (fun _ _ h => by cases h)), dne hj2 ownfo (nt m2 rfl (fun _ _ h => by cases h)), dne hj2 ownx (nt m3 rfl (fun _ _ h => by cases h)), dne hj2 ownle (nt m4 rfl (fun _ _ h => by cases h)), dne hj2 owntr (nt m6 rfl (fun _ _ h => by cases h)), dne hj2 ownmp (nt m7 rfl (fun _ _ h => by cases h))⟩
      have hro : ∀ x_, e.ro x_ → x_ < w.heap.size ∧ (x_ ≠ e.blk t ∧ x_ ≠ e.blk fo ∧ x_ ≠ e.blk x ∧ x_ ≠ e.blk le ∧ x_ ≠ e.blk tr ∧ x_ ≠ e.blk mp) ∧ ov.ownBlock ≠ some x_ := by
       intro x_ hx
       obtain ⟨hx1, hx2⟩ := hE.apart x_ hx
       have nx_ : ∀ {y j : Nat}, e.own y = some j → x_ ≠ y := by
        rintro y j hy rfl
        rw [hx1] at hy
        cases hy
       refine ⟨hx2, ⟨nx_ ownt, nx_ ownfo, nx_ ownx, nx_ ownle, nx_ owntr, nx_ ownmp⟩, fun h => ?_⟩
       obtain ⟨j, _, hj2⟩ := hob x_ h
       rw [hx1] at hj2
       cases hj2
      have hcall := tk_small hs (out := outL k g) (s := s) (a := col 0 fr) (b := col 1 fr) (u := col 2 fr) (v := col 3 fr) (p := Pt.col 0 ft) (q := Pt.col 1 ft) n4 n5 n6 (by rw [hk]; exact n12) (by omega) (w := w) (bt := e.blk t) (bf := e.blk fo) (bx := e.blk x) (be := e.blk le) (br := e.blk tr) (bm := e.blk mp) (ov := ov) (y := y) (R := e)
       hp1 hp2 hp3 hp4 hp6 hp7 hes (dne ownt ownfo d01) (dne ownt ownx d02) (dne ownt ownle d03) (dne ownt owntr d04) (dne ownt ownmp d05) (dne ownfo ownx d12) (dne ownfo ownle d13) (dne ownfo owntr d14) (dne ownfo ownmp d15) (dne ownx ownle d23) (dne ownx owntr d24) (dne ownx ownmp d25) (dne ownle owntr d34) (dne ownle ownmp d35) (dne owntr ownmp d45) (by rw [hk]; exact ho) hsl hobn ((Same.lst 4 n _ _ n1).rep tx5) ((Same.lst 2 m _ _ n2').rep tx6) ((Same.lst 4 n _ _ n1).rep tt5) ((Same.lst 2 m _ _ n2').rep tt6) hro
      refine hcall.mono ?_
      rintro en w1 ⟨rfl, hsz, q1, q2, q3, hsame, ho1, ⟨es', cc', hmm, hes'⟩, y', hy, htrue⟩
      rw [hk] at ho1
      have hlt : ∀ {x j : Nat}, e.own x = some j → w0.heap.size ≤ x := fun h => (hE.owned _ _ h).1
      have hBel : Below w0.heap.size w0 w1 := by
       refine ⟨q1.trans hB.os, q2.trans hB.tape, q3.trans hB.output, Nat.le_trans hB.size hsz, fun x_ hx => ?_⟩
       rw [hsame x_ (Nat.lt_of_lt_of_le hx hB.size) (fun h => by have := hlt ownfo; rw [h] at hx; omega) (fun h => by have := hlt ownmp; rw [h] at hx; omega) (fun h => by obtain ⟨j, _, hj2⟩ := hob x_ h; have := hlt hj2; omega)]
       exact hB.block x_ hx
      have hros : ∀ x_, x_ < w.heap.size → e.ro x_ → w1.heap[x_]? = w.heap[x_]? := fun x_ hx hx2 => hsame x_ hx (hro x_ hx2).2.1.2.1 (hro x_ hx2).2.1.2.2.2.2.2 (hro x_ hx2).2.2
      cases hb : (lvF (enL c T lo hi n (col 0 fr) (col 1 fr) (col 2 fr) (col 3 fr) m (Pt.col 0 ft) (Pt.col 1 ft) pl ph dl dh u0 u1 wi day) n N (outL k g) s).isSome with
      | false =>
       have hq := hq.2 hb
       have st : Step e e w w1 := ⟨fun x hx hx2 => ⟨hx2, hros x hx hx2⟩, fun _ h => ⟨h, rfl, rfl⟩, hsz⟩
       refine ⟨_, _, _, _, _, e, rfl, hq, ⟨fun x hx => ⟨(hE.apart x hx).1, Nat.lt_of_lt_of_le (hE.apart x hx).2 hsz⟩, fun x j hx => ⟨(hE.owned x j hx).1, Nat.lt_of_lt_of_le (hE.owned x j hx).2 hsz⟩⟩, hBel, ?_, hlv, hfoe, hxt.step st, .lit false⟩
       intro p hp
       rcases setM_mem hp with rfl | ⟨hp, hne2, _⟩
       ·exact ⟨livemp, ownmp, es', cc', hmm, hes'⟩
       rcases setM_mem hp with rfl | ⟨hp, hne, _⟩
       ·exact ⟨livefo, ownfo, [y'], hy, .cons (.top _) (.nil _ _)⟩
       ·obtain ⟨hpm, hna⟩ := noAka_mem hp
        exact holds_lv st (fun _ _ h => h) hE hsame ownfo ownmp hob ho ho1 hne hne2 hna (fun hi => hkeep p hpm hi) (hm p hpm)
      | true =>
       have hq := hq.1 hb
       obtain ⟨⟨ya, yn, yc, hy0⟩, hy1, hy2⟩ := htrue hb
       have hid : ¬ e.live nx := fun h => Nat.lt_irrefl _ (hlv _ h)
       have hfr : ∀ x, x < w.heap.size → y'.ownBlock ≠ some x := fun x hx h => by have := hy2 x h; omega
       have hown : ∀ x j, e.own x = some j → (e.app nx y').own x = some j := by
        intro x j hx
        simp only [Env.app]
        rw [if_neg (hfr x (hE.owned x j hx).2)]
        exact hx
       have st : Step e (e.app nx y') w w1 := ⟨fun x hx hx2 => ⟨hx2, hros x hx hx2⟩, fun j hj => ⟨.inr hj, rfl, by
        have : j ≠ nx := fun h => hid (h ▸ hj)
        simp [Env.app, this]⟩, hsz⟩
       refine ⟨_, _, _, _, _, e.app nx y', rfl, hq, ⟨fun x hx => ⟨?_, Nat.lt_of_lt_of_le (hE.apart x hx).2 hsz⟩, fun x j hx => ?_⟩, hBel, ?_, ?_, hfoe, hxt.step st, .lit true⟩
       ·simp only [Env.app]
        rw [if_neg (hfr x (hE.apart x hx).2)]
        exact (hE.apart x hx).1
       ·simp only [Env.app] at hx
        split at hx
        ·rename_i hxb
         exact ⟨Nat.le_trans hB.size (hy2 x hxb), (hy1.lt x hxb).2⟩
        ·exact ⟨(hE.owned x j hx).1, Nat.lt_of_lt_of_le (hE.owned x j hx).2 hsz⟩
       ·intro p hp
        rcases List.mem_cons.1 hp with rfl | hp
        ·refine ⟨.inl rfl, fun x hx => ?_, fun i hi => ⟨rfl, fun a ha => by rw [List.mem_singleton.1 ha]; exact .x _⟩, (lvG (enL c T lo hi n (col 0 fr) (col 1 fr) (col 2 fr) (col 3 fr) m (Pt.col 0 ft) (Pt.col 1 ft) pl ph dl dh u0 u1 wi day) n N (outL k g) s).map (Value.int .i64), ?_, fun i j a v hi ha hv => ?_⟩
         ·have hx : y'.ownBlock = some x := by simpa [Env.app] using hx
          simp [Env.app, hx]
         ·show w1.ownsRow 0 3 1 (if nx = nx then y' else e.val nx) _ _
          rw [if_pos rfl]
          exact hy1
         ·cases j with
          | zero =>
           simp only [List.getElem?_cons_zero, Option.some.injEq] at ha
           subst ha
           rw [show i * 1 + 0 = i by omega, List.getElem?_map, nthJ_bang _ i hi] at hv
           simp only [Option.map_some, Option.some.injEq] at hv
           rw [← hv]
           exact .x _
          | succ j => simp at ha
        ·rcases setM_mem hp with rfl | ⟨hp, hne2, _⟩
         ·exact ⟨.inr livemp, hown _ _ ownmp, es', cc', hmm, hes'⟩
         rcases setM_mem hp with rfl | ⟨hp, hne, _⟩
         ·refine ⟨.inr livefo, hown _ _ ownfo, [y'], hy, .cons ?_ (.nil _ _)⟩
          rw [hy0]
          exact .row nx _ _ _ (.inl rfl) (by simp [Env.app])
         ·obtain ⟨hpm, hna⟩ := noAka_mem hp
          exact holds_lv st hown hE hsame ownfo ownmp hob ho ho1 hne hne2 hna (fun hi => hkeep p hpm hi) (hm p hpm)
       ·rintro j (rfl | hj)
        ·exact Nat.lt_succ_self _
        ·exact Nat.lt_succ_of_lt (hlv j hj)
     ·cases ht
    ·cases ht
   ·cases ht
  ·cases ht
 ·cases ht
theorem tk_all : ∀ N : Nat, SoundHSpec Try.prog 22 (H_tk N)
 | 0 => tk_frame fun c T lo hi n a b u v m p q pl ph dl dh u0 u1 wi day s1 a1 b1 s2 a2 b2 s3 a3 b3 s4 a4 b4 out s h1 h2 h3 h4 h5 => by
  have h := tk_zero c T lo hi n a b u v m p q pl ph dl dh u0 u1 wi day s1 a1 b1 s2 a2 b2 s3 a3 b3 s4 a4 b4 out s h1 h2 h3 (by omega)
  have e1 : lvF (enL c T lo hi n a b u v m p q pl ph dl dh u0 u1 wi day) n 0 out s = if (enL c T lo hi n a b u v m p q pl ph dl dh u0 u1 wi day) out then some out else none := rfl
  unfold lvG
  rw [e1]
  cases hb : (enL c T lo hi n a b u v m p q pl ph dl dh u0 u1 wi day) out with
  | true =>
   rw [hb] at h
   exact h
  | false =>
   rw [hb] at h
   exact h
 | N + 1 => tk_frame fun c T lo hi n a b u v m p q pl ph dl dh u0 u1 wi day s1 a1 b1 s2 a2 b2 s3 a3 b3 s4 a4 b4 out s h1 h2 h3 h4 h5 => tk_succ c T lo hi n a b u v m p q pl ph dl dh u0 u1 wi day s1 a1 b1 s2 a2 b2 s3 a3 b3 s4 a4 b4 out s N h1 h2 h3 ⟨h4, h5⟩ (tk_all N)
end Go.Proofs.Ytlinbkmpkcmniaa
namespace Go.Proofs.Ytlinbkmpkcmniaa
open Go Go.Sx Go.RowKit Bo
open Go.Sx.Tree (need branch leaf)
open Go.Sx.AV (lst ptr agg roI tup top)
def ofB (bits : Int) (k : Nat) : Bool := (bits / 2 ^ k).tmod 2 == 1
def ofL (bits : Int) : Nat → List Int
 | 0 => []
 | k + 1 => if ofB bits k then ofL bits k ++ [(k : Int)] else ofL bits k
end Go.Proofs.Ytlinbkmpkcmniaa
namespace Go.Proofs.Ytlinbkmpkcmniaa.Bo
open Go Go.Sx Go.RowKit
open Go.Sx.Tree (need branch leaf)
open Go.Sx.AV (lst ptr agg roI tup top)
theorem allI_congr {p q : Nat → Bool} : ∀ {n : Nat}, (∀ j, j < n → p j = q j) → allI p n = allI q n
 | 0, _ => rfl
 | n + 1, h => by
  rw [Bool.eq_iff_iff, allI_iff, allI_iff]
  exact ⟨fun k j hj => by rw [← h j hj]; exact k j hj, fun k j hj => by rw [h j hj]; exact k j hj⟩
theorem flt_congr {c T lo hi : Int} {n : Nat} {a b u v a' b' u' v' : Nat → Int} (h : ∀ j, j < n → a j = a' j ∧ b j = b' j ∧ u j = u' j ∧ v j = v' j) : flt c T lo hi n a b u v = flt c T lo hi n a' b' u' v' := by
 unfold flt allR
 rw [allI_congr (q := fun k => rdB c (a' k) (b' k) (u' k) (v' k)) (fun j hj => by
  obtain ⟨h1, h2, h3, h4⟩ := h j hj
  rw [h1, h2, h3, h4])]
theorem eB_congr {c T lo hi : Int} {n : Nat} {a b u v a' b' u' v' : Nat → Int} (h : ∀ j, j < n → a j = a' j ∧ b j = b' j ∧ u j = u' j ∧ v j = v' j) : eB c T lo hi n a b u v = eB c T lo hi n a' b' u' v' ∧ lenB c T lo hi n a b u v = lenB c T lo hi n a' b' u' v' ∧ fwB c T lo hi n a b u v = fwB c T lo hi n a' b' u' v' ∧ True := by
 have h1 : eB c T lo hi n a b u v = eB c T lo hi n a' b' u' v' := by
  unfold eB fltB okB
  rw [flt_congr h, okR_congr h]
 have h2 : fwB c T lo hi n a b u v = fwB c T lo hi n a' b' u' v' := by
  unfold fwB
  rw [fwM_congr h]
 refine ⟨h1, ?_, h2, trivial⟩
 unfold lenB
 rw [h1]
end Go.Proofs.Ytlinbkmpkcmniaa.Bo
namespace Go.Proofs.Ytlinbkmpkcmniaa
open Go Go.Sx Go.RowKit Bo
open Go.Sx.Tree (need branch leaf)
open Go.Sx.AV (lst ptr agg roI tup top)
theorem ofB_nat (j k : Nat) : ofB (j : Int) k = j.testBit k := by
 unfold ofB
 rw [Nat.testBit_eq_decide_div_mod_eq]
 have e1 : ((j : Int) / 2 ^ k) = ((j / 2 ^ k : Nat) : Int) := by
  rw [Int.natCast_ediv]
  simp
 rw [e1]
 generalize j / 2 ^ k = q
 have e2 : Int.tmod (q : Int) 2 = ((q % 2 : Nat) : Int) := by
  rw [Int.tmod_eq_emod_of_nonneg (by omega)]
  omega
 rw [e2, Bool.eq_iff_iff, beq_iff_eq, decide_eq_true_eq]
 omega
theorem ofL_congr {x y : Int} : ∀ {k : Nat}, (∀ j, j < k → ofB x j = ofB y j) → ofL x k = ofL y k
 | 0, _ => rfl
 | k + 1, h => by
  unfold ofL
  rw [h k (by omega), ofL_congr (fun j hj => h j (by omega))]
theorem risF_last : ∀ {S : List Int} {s n : Nat}, risF s (n + 1) S → risF s n S ∨ ∃ S', S = S' ++ [(n : Int)] ∧ risF s n S'
 | [], _, _, _ => .inl trivial
 | x :: t, s, n, hr => by
  obtain ⟨h1, h2, h3⟩ := hr
  rcases risF_last h3 with h4 | ⟨S', h4, h5⟩
  ·rcases (show x < n ∨ x = n by omega) with h6 | h6
   ·exact .inl ⟨h1, h6, h4⟩
   ·refine .inr ⟨[], ?_, trivial⟩
    have : t = [] := by
     cases t with
     | nil => rfl
     | cons y t' =>
      obtain ⟨g1, g2, _⟩ := h4
      omega
    rw [this, h6]
    rfl
  ·rcases (show x < n ∨ x = n by omega) with h6 | h6
   ·exact .inr ⟨x :: S', by rw [h4]; rfl, h1, h6, h5⟩
   ·exfalso
    obtain ⟨g1, g2, _⟩ : ((x.toNat + 1 : Nat) : Int) ≤ n ∧ (n : Int) < n + 1 ∧ True := by
     have hmem : ∀ {S : List Int} {s m : Nat} {y : Int}, risF s m S → y ∈ S → (s : Int) ≤ y := by
      intro S
      induction S with
      | nil => intro s m y _ h; cases h
      | cons z t ih =>
       intro s m y h hy
       obtain ⟨q1, q2, q3⟩ := h
       rcases List.mem_cons.1 hy with rfl | hy
       ·exact q1
       ·have := ih q3 hy
        omega
     exact ⟨hmem h3 (by rw [h4]; simp), by omega, trivial⟩
    omega
theorem ofL_onto : ∀ {n : Nat} {S : List Int}, risF 0 n S → ∃ j : Nat, j < 2 ^ n ∧ ofL (j : Int) n = S
 | 0, S, h => by
  have := risF_len h
  exact ⟨0, by simp, (List.eq_nil_of_length_eq_zero (by omega)).symm⟩
 | n + 1, S, h => by
  rcases risF_last h with h1 | ⟨S', rfl, h1⟩
  ·obtain ⟨j, hj, rfl⟩ := ofL_onto h1
   refine ⟨j, by rw [Nat.pow_succ]; omega, ?_⟩
   have : ofB (j : Int) n = false := by rw [ofB_nat, Nat.testBit_lt_two_pow hj]
   show (if ofB (j : Int) n then ofL j n ++ [(n : Int)] else ofL j n) = ofL j n
   rw [if_neg (by rw [this]; simp)]
  ·obtain ⟨j, hj, rfl⟩ := ofL_onto h1
   refine ⟨2 ^ n + j, by rw [Nat.pow_succ]; omega, ?_⟩
   have h2 : ofB ((2 ^ n + j : Nat) : Int) n = true := by
    rw [ofB_nat, Nat.testBit_two_pow_add_eq, Nat.testBit_lt_two_pow hj]
    rfl
   show (if ofB ((2 ^ n + j : Nat) : Int) n then ofL ((2 ^ n + j : Nat) : Int) n ++ [(n : Int)] else ofL ((2 ^ n + j : Nat) : Int) n) = _
   rw [if_pos h2]
   congr 1
   refine ofL_congr fun k hk => ?_
   rw [ofB_nat, ofB_nat, Nat.testBit_two_pow_add_gt hk]
theorem wrap_nat {q : Nat} (h : q < 2 ^ 40) : IntKind.i64.wrap (q : Int) = q := by
 have e : IntKind.i64.wrap (q : Int) = if (true && decide ((q : Int) % 2 ^ 64 ≥ 2 ^ 63)) = true then (q : Int) % 2 ^ 64 - 2 ^ 64 else (q : Int) % 2 ^ 64 := rfl
 have e2 : (q : Int) % 2 ^ 64 = q := Int.emod_eq_of_lt (by omega) (by omega)
 rw [e, e2, if_neg]
 rw [Bool.true_and, decide_eq_true_eq]
 omega
theorem bv_nat {z : Nat} (hz : z < 8192) : (BitVec.ofInt 64 (z : Int)).toNat = z := by
 rw [BitVec.toNat_ofInt]
 omega
theorem orI_nat {x y : Nat} (hx : x < 8192) (hy : y < 8192) : orI x y = ((x ||| y : Nat) : Int) := by
 unfold orI
 rw [BitVec.toNat_or, bv_nat hx, bv_nat hy]
 have hlt : x ||| y < 2 ^ 13 := Nat.or_lt_two_pow (by omega) (by omega)
 exact wrap_nat (by omega)
theorem andI_one {x : Nat} (hx : x < 8192) : andI x 1 = ((x % 2 : Nat) : Int) := by
 unfold andI
 rw [BitVec.toNat_and, bv_nat hx, show (BitVec.ofInt 64 1).toNat = 1 from rfl, Nat.and_one_is_mod]
 exact wrap_nat (by omega)
theorem div_pow (j k : Nat) : ((j : Int) / 2 ^ k) = ((j / 2 ^ k : Nat) : Int) := by
 rw [Int.natCast_ediv]
 simp
theorem selB_nat {j k : Nat} (hj : j < 8192) : selB (j : Int) k = j.testBit k := by
 unfold selB
 rw [div_pow, andI_one (Nat.lt_of_le_of_lt (Nat.div_le_self _ _) hj), Nat.testBit_eq_decide_div_mod_eq, Bool.eq_iff_iff, beq_iff_eq, decide_eq_true_eq]
 omega
theorem selL_of {j : Nat} (hj : j < 8192) : ∀ k, selL (j : Int) k = (ofL (j : Int) k).map Int.toNat
 | 0 => rfl
 | k + 1 => by
  unfold selL ofL
  rw [selB_nat hj, ofB_nat, selL_of hj k]
  split
  ·rw [List.map_append]
   rfl
  ·rfl
theorem pow_le {n : Nat} (h : n ≤ 12) : 2 ^ n ≤ 4096 := by
 have : (2 : Nat) ^ n ≤ 2 ^ 12 := Nat.pow_le_pow_right (by omega) h
 omega
theorem bits_of {j : Nat} : ∀ {n : Nat}, n ≤ 12 → bitsL (ofL (j : Int) n) = ((j % 2 ^ n : Nat) : Int)
 | 0, _ => by
  show (0 : Int) = _
  rw [Nat.pow_zero, Nat.mod_one]
  rfl
 | n + 1, h => by
  have ih := bits_of (j := j) (n := n) (by omega)
  have hp := pow_le (n := n) (by omega)
  have hlt : j % 2 ^ n < 2 ^ n := Nat.mod_lt _ (Nat.two_pow_pos n)
  have hm : j % 2 ^ (n + 1) = j % 2 ^ n + 2 ^ n * (j / 2 ^ n % 2) := by rw [Nat.pow_succ, Nat.mod_mul]
  have ht := ofB_nat j n
  rw [Nat.testBit_eq_decide_div_mod_eq] at ht
  unfold ofL
  by_cases hb : j / 2 ^ n % 2 = 1
  ·rw [ht, decide_eq_true hb, if_pos rfl, bits_app, ih, Int.toNat_natCast]
   have e : (1 : Int) * 2 ^ n = ((2 ^ n : Nat) : Int) := by simp
   have h2 := Nat.two_pow_add_eq_or_of_lt hlt 1
   rw [Nat.mul_one] at h2
   rw [e, orI_nat (by omega) (by omega), hm, hb, Nat.mul_one, Nat.or_comm, ← h2]
   congr 1
   exact Nat.add_comm _ _
  ·rw [ht, decide_eq_false hb, if_neg (by decide), ih, hm, show j / 2 ^ n % 2 = 0 by omega]
   congr 1
theorem sel_bits {n : Nat} {S : List Int} (hn : n ≤ 12) (h : risF 0 n S) : selL (bitsL S) n = S.map Int.toNat := by
 obtain ⟨j, hj, rfl⟩ := ofL_onto h
 have hp := pow_le hn
 rw [bits_of hn, Nat.mod_eq_of_lt hj]
 exact selL_of (by omega) n
theorem sg_map (f : Nat → Int) (S : List Int) {j : Nat} (hj : j < S.length) : sg f (S.map Int.toNat) j = selF f (nthJ S) j := by
 unfold sg selF
 rw [List.getD_eq_getElem?_getD, List.getElem?_map, List.getElem?_eq_getElem hj, nthJ_get hj]
 rfl
def kpS (c T lo hi : Int) (n : Nat) (a b u v : Nat → Int) (m : Nat) (p q : Nat → Int) (pl ph dl dh : Int) (u0 u1 wi day : Int) (S : List Int) : Bool := decide (rdE c T lo hi S.length (selF a (nthJ S)) (selF b (nthJ S)) (selF u (nthJ S)) (selF v (nthJ S)) m p q pl ph dl dh = 0) && keB c (wkA c T lo hi S.length (selF a (nthJ S)) (selF b (nthJ S)) (selF u (nthJ S)) (selF v (nthJ S)) m p q pl ph dl dh) u0 u1 wi day
theorem rd_congr {c T lo hi : Int} {n : Nat} {a b u v a' b' u' v' : Nat → Int} {m : Nat} {p q : Nat → Int} {pl ph dl dh : Int} (h : ∀ j, j < n → a j = a' j ∧ b j = b' j ∧ u j = u' j ∧ v j = v' j) : rdE c T lo hi n a b u v m p q pl ph dl dh = rdE c T lo hi n a' b' u' v' m p q pl ph dl dh ∧ wkA c T lo hi n a b u v m p q pl ph dl dh = wkA c T lo hi n a' b' u' v' m p q pl ph dl dh := by
 obtain ⟨h1, h2, h3, h4⟩ := eB_congr (c := c) (T := T) (lo := lo) (hi := hi) h
 unfold rdE wkA bdL bdH
 rw [h1, h3]
 exact ⟨rfl, rfl⟩
theorem en_kp {c T lo hi : Int} {n : Nat} {a b u v : Nat → Int} {m : Nat} {p q : Nat → Int} {pl ph dl dh u0 u1 wi day : Int} {S : List Int} (hn : n ≤ 12) (h : risF 0 n S) : enL c T lo hi n a b u v m p q pl ph dl dh u0 u1 wi day S = kpS c T lo hi n a b u v m p q pl ph dl dh u0 u1 wi day S := by
 unfold enL enB kpS enS
 rw [sel_bits hn h]
 obtain ⟨h1, h2⟩ := rd_congr (c := c) (T := T) (lo := lo) (hi := hi) (n := (S.map Int.toNat).length) (m := m) (p := p) (q := q) (pl := pl) (ph := ph) (dl := dl) (dh := dh) (a := sg a (S.map Int.toNat)) (b := sg b (S.map Int.toNat)) (u := sg u (S.map Int.toNat)) (v := sg v (S.map Int.toNat)) (a' := selF a (nthJ S)) (b' := selF b (nthJ S)) (u' := selF u (nthJ S)) (v' := selF v (nthJ S)) fun j hj => by
  rw [List.length_map] at hj
  exact ⟨sg_map a S hj, sg_map b S hj, sg_map u S hj, sg_map v S hj⟩
 rw [h1, h2, List.length_map]
theorem kp_all {c T lo hi : Int} {n : Nat} {a b u v : Nat → Int} {m : Nat} {p q : Nat → Int} {pl ph dl dh u0 u1 wi day : Int} : kpS c T lo hi n a b u v m p q pl ph dl dh u0 u1 wi day (numsL 0 n) = (decide (rdE c T lo hi n a b u v m p q pl ph dl dh = 0) && keB c (wkA c T lo hi n a b u v m p q pl ph dl dh) u0 u1 wi day) := by
 unfold kpS
 rw [numsL_len]
 have e : ∀ f : Nat → Int, ∀ j, j < n → selF f (nthJ (numsL 0 n)) j = f j := fun f j hj => by
  unfold selF
  rw [numsL_nth hj, Int.toNat_natCast, Nat.zero_add]
 obtain ⟨h1, h2⟩ := rd_congr (c := c) (T := T) (lo := lo) (hi := hi) (n := n) (m := m) (p := p) (q := q) (pl := pl) (ph := ph) (dl := dl) (dh := dh) (a := selF a (nthJ (numsL 0 n))) (b := selF b (nthJ (numsL 0 n))) (u := selF u (nthJ (numsL 0 n))) (v := selF v (nthJ (numsL 0 n))) (a' := a) (b' := b) (u' := u) (v' := v) fun j hj => ⟨e a j hj, e b j hj, e u j hj, e v j hj⟩
 rw [h1, h2]
theorem numsL_risn (n : Nat) : risF 0 n (numsL 0 n) := numsL_ris (Nat.le_of_eq (Nat.zero_add n))
end Go.Proofs.Ytlinbkmpkcmniaa
namespace Go.Proofs.Ytlinbkmpkcmniaa
open Go Go.Sx Go.RowKit Bo
open Go.Sx.Tree (need branch leaf)
open Go.Sx.AV (lst ptr agg roI tup top)
noncomputable def H_tkA : HSpec := fun avs m nx sv => match avs with
 | [o, g, s, .x (.int .i64 M), t, f, x, e] => H_tk M.toNat [o, g, s, .x (.int .i64 M), t, f, x, e] m nx sv
 | _ => none
def egL (c T lo hi : Int) (n : Nat) (a b u v : Nat → Int) (m : Nat) (p q : Nat → Int) (pl ph dl dh : Int) (u0 u1 wi day : Int) : List Int := if hgE c T lo hi n a b u v m p q pl ph dl dh u0 u1 wi day = 0 then blR (enL c T lo hi n a b u v m p q pl ph dl dh u0 u1 wi day) n else []
theorem tkA_okH : SoundHSpec Try.prog 22 H_tkA := by
 refine ⟨(tk_all 0).1, ?_⟩
 intro avs m nx sv t ht
 unfold H_tkA at ht
 split at ht
 ·exact (tk_all _).2 _ m nx sv t ht
 ·cases ht
theorem hg_0 {c T lo hi : Int} {n : Nat} {a b u v : Nat → Int} {m : Nat} {p q : Nat → Int} {pl ph dl dh u0 u1 wi day : Int} : hgE c T lo hi n a b u v m p q pl ph dl dh u0 u1 wi day = 0 ↔ asE c T lo hi n a b u v m p q pl ph dl dh u0 u1 wi day = 0 ∧ keB c (wkA c T lo hi n a b u v m p q pl ph dl dh) u0 u1 wi day = true := by
 unfold hgE
 by_cases h : asE c T lo hi n a b u v m p q pl ph dl dh u0 u1 wi day = 0
 ·rw [if_pos h]
  cases hk : keB c (wkA c T lo hi n a b u v m p q pl ph dl dh) u0 u1 wi day with
  | true => exact ⟨fun _ => ⟨h, rfl⟩, fun _ => rfl⟩
  | false => exact ⟨fun h => (by cases h), fun h => (by cases h.2)⟩
 ·rw [if_neg h]
  exact ⟨fun h2 => absurd h2 h, fun h2 => h2.1⟩
theorem eg_spec {c T lo hi : Int} {n : Nat} {a b u v : Nat → Int} {m : Nat} {p q : Nat → Int} {pl ph dl dh u0 u1 wi day : Int} (h : rdE c T lo hi n a b u v m p q pl ph dl dh = 0) (hk : keB c (wkA c T lo hi n a b u v m p q pl ph dl dh) u0 u1 wi day = true) : ∃ m_, m_ ≤ n ∧ lvF (enL c T lo hi n a b u v m p q pl ph dl dh u0 u1 wi day) n m_ [] 0 = some (blR (enL c T lo hi n a b u v m p q pl ph dl dh u0 u1 wi day) n) ∧ (∀ j, j < m_ → lvF (enL c T lo hi n a b u v m p q pl ph dl dh u0 u1 wi day) n j [] 0 = none) ∧ risF 0 n (blR (enL c T lo hi n a b u v m p q pl ph dl dh u0 u1 wi day) n) ∧ enL c T lo hi n a b u v m p q pl ph dl dh u0 u1 wi day (blR (enL c T lo hi n a b u v m p q pl ph dl dh u0 u1 wi day) n) = true ∧ (blR (enL c T lo hi n a b u v m p q pl ph dl dh u0 u1 wi day) n).length = m_ ∧
  ∀ S, risF 0 n S → enL c T lo hi n a b u v m p q pl ph dl dh u0 u1 wi day S = true → m_ ≤ S.length ∧ (S.length = m_ → lexL S (blR (enL c T lo hi n a b u v m p q pl ph dl dh u0 u1 wi day) n) = false) :=
 blR_spec (numsL_risn n) (by rw [en_kp (rdE_0 h).1 (numsL_risn n), kp_all, h, hk]; rfl)
noncomputable def E_em (c T lo hi : Int) (n : Nat) (a b u v : Nat → Int) (m : Nat) (p q : Nat → Int) (pl ph dl dh : Int) (u0 u1 wi day : Int) : St := (some { σ := mkS 39 [(0, .agg [i c, i T, i lo, i hi, rds n a b u v, Pt.scs m p q, i pl, i ph, i dl, i dh]), (1, .agg [i u0, i u1, i wi]), (2, i day), (3, .ptr 0 0), (4, .ptr 1 0), (6, .x (.slice none 0 0)), (7, i 0), (8, .ptr 47 0), (9, .ptr 48 0), (10, i 0), (11, .ptr 54 0), (12, .ptr 55 0), (29, i ((n : Int) + 1))], m := [(55, .cells 74 [.fn (.func 22) [] [.ptr 47 0, .ptr 54 0, .ptr 0 0, .ptr 55 0]]), (54, .cells 43 [.top]), (47, .cells 69 [.ptr 33 0]), (33, .cells 94 [i c, i T, i lo, i hi, rds n a b u v, Pt.scs m p q, i pl, i ph, i dl, i dh, i u0, i u1, i wi, i day, .mp 31]), (31, .memo enH (enF c T lo hi n a b u v m p q pl ph dl dh u0 u1 wi day)), (0, .cells 31 [i c, i T, i lo, i hi, rds n a b u v, Pt.scs m p q, i pl, i ph, i dl, i dh])], nx := 901 } : Option St).getD { σ := [], m := [], nx := 0 }
noncomputable def B_em : Code := loopBody (loopAt (bodyOf Try.f9) 0)
noncomputable def inv_em (c T lo hi : Int) (n : Nat) (a b u v : Nat → Int) (m : Nat) (p q : Nat → Int) (pl ph dl dh : Int) (u0 u1 wi day : Int) (k : Nat) : St := { σ := ovrS [(30, i k)] (E_em c T lo hi n a b u v m p q pl ph dl dh u0 u1 wi day).σ, m := [(55, .cells 74 [.fn (.func 22) [] [.ptr 47 0, .ptr 54 0, .ptr 0 0, .ptr 55 0]]), (54, .cells 43 [.top]), (47, .cells 69 [.ptr 33 0]), (33, .cells 94 [i c, i T, i lo, i hi, rds n a b u v, Pt.scs m p q, i pl, i ph, i dl, i dh, i u0, i u1, i wi, i day, .mp 31]), (31, .memo enH (enF c T lo hi n a b u v m p q pl ph dl dh u0 u1 wi day)), (0, .cells 31 [i c, i T, i lo, i hi, rds n a b u v, Pt.scs m p q, i pl, i ph, i dl, i dh])], nx := 901 }
noncomputable def out_em (c T lo hi : Int) (n : Nat) (a b u v : Nat → Int) (m : Nat) (p q : Nat → Int) (pl ph dl dh : Int) (u0 u1 wi day : Int) (k : Nat) : AEx → Option St := fun ex => match ex with
 | .exit 0 => some { σ := ovrS [] (E_em c T lo hi n a b u v m p q pl ph dl dh u0 u1 wi day).σ, m := [(900, .row 3 1 (blR (enL c T lo hi n a b u v m p q pl ph dl dh u0 u1 wi day) n).length (fun j => [i (nthJ (blR (enL c T lo hi n a b u v m p q pl ph dl dh u0 u1 wi day) n) j)])), (55, .cells 74 [.fn (.func 22) [] [.ptr 47 0, .ptr 54 0, .ptr 0 0, .ptr 55 0]]), (54, .cells 43 [.row 900]), (47, .cells 69 [.ptr 33 0]), (33, .cells 94 [i c, i T, i lo, i hi, rds n a b u v, Pt.scs m p q, i pl, i ph, i dl, i dh, i u0, i u1, i wi, i day, .mp 31]), (31, .memo enH (enF c T lo hi n a b u v m p q pl ph dl dh u0 u1 wi day)), (0, .cells 31 [i c, i T, i lo, i hi, rds n a b u v, Pt.scs m p q, i pl, i ph, i dl, i dh])], nx := 901 }
 | _ => none
noncomputable def T_em (c T lo hi : Int) (n : Nat) (a b u v : Nat → Int) (m : Nat) (p q : Nat → Int) (pl ph dl dh : Int) (u0 u1 wi day : Int) : CT := .leaf (.exit 0, ( out_em c T lo hi n a b u v m p q pl ph dl dh u0 u1 wi day 0 (.exit 0)).getD (E_em c T lo hi n a b u v m p q pl ph dl dh u0 u1 wi day))
noncomputable def LS_em (c T lo hi : Int) (n : Nat) (a b u v : Nat → Int) (m : Nat) (p q : Nat → Int) (pl ph dl dh : Int) (u0 u1 wi day : Int) : LSpec := normSp [(.cell 54 0, 900, 3, 1)] (sumL (inv_em c T lo hi n a b u v m p q pl ph dl dh u0 u1 wi day (0)) (T_em c T lo hi n a b u v m p q pl ph dl dh u0 u1 wi day))
theorem em_ls (c T lo hi : Int) (n : Nat) (a b u v : Nat → Int) (m : Nat) (p q : Nat → Int) (pl ph dl dh : Int) (u0 u1 wi day : Int) (pre0 : rdE c T lo hi n a b u v m p q pl ph dl dh = 0) (pre1 : usB c u0 u1 wi = true) (pre2 : 0 ≤ day ∧ day ≤ 10000) (pre3 : keB c (wkA c T lo hi n a b u v m p q pl ph dl dh) u0 u1 wi day = true) : LSound Try.prog (.loop B_em) (LS_em c T lo hi n a b u v m p q pl ph dl dh u0 u1 wi day) := by
 refine loop_roundsX [(.cell 54 0, 900, 3, 1)] (E := { R := [], H := [(22, H_tkA)] }) (G := []) (L := []) (SoundG.nil _) (SoundX.of (SoundRL.nil _) (SoundHL.cons tkA_okH (SoundHL.nil _))) mixed noLoops (X := Nat) (inv_em c T lo hi n a b u v m p q pl ph dl dh u0 u1 wi day) (fun k => k ≤ n + 1 ∧ ∀ j, j < k → lvF (enL c T lo hi n a b u v m p q pl ph dl dh u0 u1 wi day) n j [] 0 = none) (fun k => n + 1 - k) (out_em c T lo hi n a b u v m p q pl ph dl dh u0 u1 wi day) (x0 := 0) ⟨Nat.zero_le _, fun j h1 => by omega⟩ ?_ ?_ ?_
 ·rintro k
  kernel_rfl
 ·rintro k y E h
  unfold out_em at h
  split at h
  ·cases h; kernel_rfl
  ·cases h
 ·rintro Q hQ k hx
  refine ⟨(k + 1), ?_⟩
  have e : roundX Try.prog [] { R := [], H := [(22, H_tkA)] } [] [(.cell 54 0, 900, 3, 1)] B_em (inv_em c T lo hi n a b u v m p q pl ph dl dh u0 u1 wi day k) (inv_em c T lo hi n a b u v m p q pl ph dl dh u0 u1 wi day ((k + 1))) (out_em c T lo hi n a b u v m p q pl ph dl dh u0 u1 wi day k) = (let z0 := (agg [iI c, iI T, iI lo, iI hi, lst 4 n (rq4 a b u v), lst 2 m fun k => [iI (p k), iI (q k)], iI pl, iI ph, iI dl, iI dh]); let z1 := enF c T lo hi n a b u v m p q pl ph dl dh u0 u1 wi day; let z2 := (enL c T lo hi n a b u v m p q pl ph dl dh u0 u1 wi day); let z3 := (AV.fn (Fn.func 22) [] [ptr 47 0, ptr 54 0, ptr 0 0, ptr 55 0]); let z4 := (lst 4 n (rq4 a b u v)); let z5 := (agg [iI u0, iI u1, iI wi]); let z6 := (AV.x (Value.slice none 0 0)); let z7 := (lvG z2 n k (outL 0 fun x => []) (Int.toNat (0 : Int))); (branch (decide ((↑k : Int) < (↑n : Int) + 1)) (need [isRec 4 n fun k => [Bo.i (a k), Bo.i (b k), Bo.i (u k), Bo.i (v k)], isRec 2 m fun k => [Pt.i (p k), Pt.i (q k)], isRec 1 0 fun x => [], n ≤ 12, usB c u0 u1 wi = true, (0 : Int) ≤ day ∧ day ≤ (10000 : Int), enH = enH, Eq1 (z1), (0 : Int) = bitsL (outL 0 fun x => []), Eq1 (↑k : Int), (0 : Int) ≤ 0 ∧ (0 : Int) ≤ (↑n : Int), 0 + k ≤ 1000, c = c, T = T, lo = lo, hi = hi, n = n, (fun k => [Bo.i (a k), Bo.i (b k), Bo.i (u k), Bo.i (v k)]) = fun k => [Bo.i (a k), Bo.i (b k), Bo.i (u k), Bo.i (v k)], m = m, (fun k => [Pt.i (p k), Pt.i (q k)]) = fun k => [Pt.i (p k), Pt.i (q k)], pl = pl, ph = ph, dl = dl, dh = dh] (branch (Option.isSome (lvF z2 n k (outL 0 fun x => []) (Int.toNat (0 : Int)))) (need [Eq1 z0, Eq1 z5, day = day, Eq1 (ptr 0 0), Eq1 (ptr 1 0), Eq1 z6, Eq1 (0 : Int), Eq1 (ptr 47 0), Eq1 (ptr 48 0), Eq1 (0 : Int), Eq1 (ptr 54 0), Eq1 (ptr 55 0), Eq1 ((↑n : Int) + 1), List.length z7 = List.length (blR z2 n), ∀ (i : Nat), i < List.length (blR z2 n) → [Ytlinbkmpkcmniaa.i (nthJ z7 i)] = [Ytlinbkmpkcmniaa.i (nthJ (blR z2 n) i)], Eq1 z3, Eq1 (AV.row 900), Eq1 (ptr 33 0), c = c, T = T, lo = lo, hi = hi, z4 = lst 4 n (rq4 a b u v), (lst 2 m fun k => [iI (p k), iI (q k)]) = lst 2 m fun k => [iI (p k), iI (q k)], pl = pl, ph = ph, dl = dl, dh = dh, u0 = u0, u1 = u1, wi = wi, day = day, Eq1 (AV.mp 31), ∀ (k : Value), enH k → enH k ∧ z1 k = z1 k, c = c, T = T, lo = lo, hi = hi, z4 = lst 4 n (rq4 a b u v), (lst 2 m fun k => [iI (p k), iI (q k)]) = lst 2 m fun k => [iI (p k), iI (q k)], pl = pl, ph = ph, dl = dl, dh = dh] (leaf (AEx.exit 0))) (need [inI64 ((↑k : Int) + 1)] (need [Eq1 z0, Eq1 z5, day = day, Eq1 (ptr 0 0), Eq1 (ptr 1 0), Eq1 z6, Eq1 (0 : Int), Eq1 (ptr 47 0), Eq1 (ptr 48 0), Eq1 (0 : Int), Eq1 (ptr 54 0), Eq1 (ptr 55 0), Eq1 ((↑n : Int) + 1), (↑k : Int) + 1 = (↑(k + 1) : Int), Eq1 z3, Eq1 (ptr 33 0), c = c, T = T, lo = lo, hi = hi, z4 = lst 4 n (rq4 a b u v), (lst 2 m fun k => [iI (p k), iI (q k)]) = lst 2 m fun k => [iI (p k), iI (q k)], pl = pl, ph = ph, dl = dl, dh = dh, u0 = u0, u1 = u1, wi = wi, day = day, Eq1 (AV.mp 31), ∀ (k : Value), enH k → enH k ∧ z1 k = z1 k, c = c, T = T, lo = lo, hi = hi, z4 = lst 4 n (rq4 a b u v), (lst 2 m fun k => [iI (p k), iI (q k)]) = lst 2 m fun k => [iI (p k), iI (q k)], pl = pl, ph = ph, dl = dl, dh = dh] (leaf AEx.normal))))) (need [Eq1 z0, Eq1 z5, day = day, Eq1 (ptr 0 0), Eq1 (ptr 1 0), Eq1 z6, Eq1 (0 : Int), Eq1 (ptr 47 0), Eq1 (ptr 48 0), Eq1 (0 : Int), Eq1 (ptr 54 0), Eq1 (ptr 55 0), Eq1 ((↑n : Int) + 1), False, Eq1 z3, top = AV.row 900, Eq1 (ptr 33 0), c = c, T = T, lo = lo, hi = hi, z4 = lst 4 n (rq4 a b u v), (lst 2 m fun k => [iI (p k), iI (q k)]) = lst 2 m fun k => [iI (p k), iI (q k)], pl = pl, ph = ph, dl = dl, dh = dh, u0 = u0, u1 = u1, wi = wi, day = day, Eq1 (AV.mp 31), ∀ (k : Value), enH k → enH k ∧ z1 k = z1 k, c = c, T = T, lo = lo, hi = hi, z4 = lst 4 n (rq4 a b u v), (lst 2 m fun k => [iI (p k), iI (q k)]) = lst 2 m fun k => [iI (p k), iI (q k)], pl = pl, ph = ph, dl = dl, dh = dh] (leaf (AEx.exit 0))))) := by kernel_rfl
  rw [e]
  simp only [T_em, out_em, Tree.sat, Option.getD_some] at hQ
  obtain ⟨x1, x2⟩ := hx
  have hn := (rdE_0 pre0).1
  obtain ⟨m_, hm, hlm, hnone, _⟩ := eg_spec (u0 := u0) (u1 := u1) (wi := wi) (day := day) pre0 pre3
  have hO : outL 0 (fun _ => ([] : List AV)) = [] := rfl
  have hz : Int.toNat 0 = 0 := rfl
  have hgood : (lvF (enL c T lo hi n a b u v m p q pl ph dl dh u0 u1 wi day) n k [] 0).isSome = true → lvG (enL c T lo hi n a b u v m p q pl ph dl dh u0 u1 wi day) n k [] 0 = blR (enL c T lo hi n a b u v m p q pl ph dl dh u0 u1 wi day) n := by
   intro h
   have hk : k = m_ := by
    rcases (show k < m_ ∨ k = m_ ∨ m_ < k by omega) with h1 | h1 | h1
    ·rw [hnone k h1] at h
     cases h
    ·exact h1
    ·rw [x2 m_ h1] at hlm
     cases hlm
   subst hk
   unfold lvG
   rw [hlm]
   rfl
  have hnext : (lvF (enL c T lo hi n a b u v m p q pl ph dl dh u0 u1 wi day) n k [] 0).isSome = false → ∀ j, j < k + 1 → lvF (enL c T lo hi n a b u v m p q pl ph dl dh u0 u1 wi day) n j [] 0 = none := by
   intro h j hj
   rcases (show j = k ∨ j < k by omega) with rfl | h4
   ·simpa using h
   ·exact x2 j h4
  simp only [Tree.sat, allP, fitP, fitL, valEq, inI64, true_and, and_true, decide_eq_true_eq, decide_eq_false_iff_not, Int.toNat_natCast, hO, hz]
  clear e
  refine ⟨fun h => ?_, fun h => ?_⟩
  ·refine ⟨⟨Bo.isRec4 n a b u v, Pt.isRec2 m p q, fun j hj => absurd hj (Nat.not_lt_zero _), hn, pre1, pre2, rfl, ⟨by omega, by omega⟩, by omega⟩, fun h2 => ?_, fun h2 => ?_⟩
   ·rw [hgood h2]
    (repeat' first | with_reducible apply And.intro | with_reducible intro _)
    all_goals first | exact True.intro | omega | with_reducible rfl | (rename_i E hE; cases hE; exact hQ) | assumption | rfl
   ·have g1 := hnext h2
    (repeat' first | with_reducible apply And.intro | with_reducible intro _)
    all_goals first | exact True.intro | omega | with_reducible rfl | exact g1 _ (by assumption) | assumption | rfl
  ·exfalso
   rw [x2 m_ (by omega)] at hlm
   cases hlm
theorem Enough_at (c T lo hi : Int) (n : Nat) (a b u v : Nat → Int) (m : Nat) (p q : Nat → Int) (pl ph dl dh : Int) (u0 u1 wi day : Int) : SoundAt Try.prog 9 [.agg [i c, i T, i lo, i hi, rds n a b u v, Pt.scs m p q, i pl, i ph, i dl, i dh], .agg [i u0, i u1, i wi], i day] (.tup [.lst 1 (egL c T lo hi n a b u v m p q pl ph dl dh u0 u1 wi day).length (fun j => [i (nthJ (egL c T lo hi n a b u v m p q pl ph dl dh u0 u1 wi day) j)]), i (hgE c T lo hi n a b u v m p q pl ph dl dh u0 u1 wi day)]) := by
 refine soundAt_finX (G := []) (X := { R := [], H := [(21, H_trial), (22, H_tkA)] }) (L := [needSp [rdE c T lo hi n a b u v m p q pl ph dl dh = 0, usB c u0 u1 wi = true, 0 ≤ day ∧ day ≤ 10000, keB c (wkA c T lo hi n a b u v m p q pl ph dl dh) u0 u1 wi day = true] (LS_em c T lo hi n a b u v m p q pl ph dl dh u0 u1 wi day)]) (SoundG.nil _) (SoundX.of (SoundRL.nil _) (SoundHL.cons trial_okH (SoundHL.cons tkA_okH (SoundHL.nil _)))) mixed Try.func9 (show Try.f9.body = some (bodyOf Try.f9) by kernel_rfl) (one_loop (lpE (b := .loop B_em) (by kernel_rfl) <| (needSp_sound (ps := [rdE c T lo hi n a b u v m p q pl ph dl dh = 0, usB c u0 u1 wi = true, 0 ≤ day ∧ day ≤ 10000, keB c (wkA c T lo hi n a b u v m p q pl ph dl dh) u0 u1 wi day = true]) (fun h => em_ls c T lo hi n a b u v m p q pl ph dl dh u0 u1 wi day h.1 h.2.1 h.2.2.1 h.2.2.2)).N)) (t := (let z10 := (blR (enL c T lo hi n a b u v m p q pl ph dl dh u0 u1 wi day) n); let z0 := (leaf (RV.tup [RV.lst 1 (List.length z10) fun j => [iI (nthJ z10 j)], RV.x (Value.int IntKind.i64 (0 : Int))])); let z1 := (agg [iI c, iI T, iI lo, iI hi, lst 4 n (rq4 a b u v), lst 2 m fun k => [iI (p k), iI (q k)], iI pl, iI ph, iI dl, iI dh]); let z2 := (wkA c T lo hi n a b u v m p q pl ph dl dh); let z3 := asE c T lo hi n a b u v m p q pl ph dl dh u0 u1 wi day; let z4 := (lst 4 n (rq4 a b u v)); let z5 := rdE c T lo hi n a b u v m p q pl ph dl dh; let z6 := (leaf (RV.tup [RV.x (Value.slice none 0 0), RV.x (Value.int IntKind.i64 (0 : Int))])); let z7 := (agg [iI u0, iI u1, iI wi]); let z8 := (AV.x (Value.slice none 0 0)); let z9 := keB c z2 u0 u1 wi day; (need [isRec 4 n fun k => [Bo.i (a k), Bo.i (b k), Bo.i (u k), Bo.i (v k)], isRec 2 m fun k => [Pt.i (p k), Pt.i (q k)]] (branch (decide (z3 = (0 : Int))) (branch ((0 : Int) != (0 : Int)) (branch ((0 : Int) != (0 : Int)) z6 (need [inI64 ((↑n : Int) + 1)] (need [z5 = (0 : Int), usB c u0 u1 wi = true, (0 : Int) ≤ day ∧ day ≤ (10000 : Int), z9 = true] (need [Eq1 z1, Eq1 z7, day = day, Eq1 (ptr 0 0), Eq1 (ptr 1 0), Eq1 z8, Eq1 (0 : Int), ptr 32 0 = ptr 47 0, ptr 33 0 = ptr 48 0, Eq1 (0 : Int), ptr 39 0 = ptr 54 0, ptr 40 0 = ptr 55 0, Eq1 ((↑n : Int) + 1), (0 : Int) = (↑(0 : Nat) : Int), False, False, False, False, False, c = c, T = T, lo = lo, hi = hi, z4 = lst 4 n (rq4 a b u v), (lst 2 m fun k => [iI (p k), iI (q k)]) = lst 2 m fun k => [iI (p k), iI (q k)], pl = pl, ph = ph, dl = dl, dh = dh] z0)))) (need [drB z2, bdB z2, (1 : Int) ≤ c ∧ c ≤ (10 : Int), (0 : Int) ≤ u0 ∧ u0 ≤ u1 ∧ u1 ≤ (10 : Int), (0 : Int) ≤ wi ∧ wi ≤ (1000000 : Int), (0 : Int) ≤ day ∧ day ≤ (100000 : Int)] (branch (!z9) (branch ((10 : Int) != (0 : Int)) (leaf (RV.tup [RV.x (Value.slice none 0 0), RV.x (Value.int IntKind.i64 (10 : Int))])) (need [inI64 ((↑n : Int) + 1)] (need [z5 = (0 : Int), usB c u0 u1 wi = true, (0 : Int) ≤ day ∧ day ≤ (10000 : Int), z9 = true] (need [Eq1 z1, Eq1 z7, day = day, Eq1 (ptr 0 0), Eq1 (ptr 1 0), Eq1 z8, Eq1 (0 : Int), ptr 36 0 = ptr 47 0, ptr 37 0 = ptr 48 0, (10 : Int) = 0, ptr 43 0 = ptr 54 0, ptr 44 0 = ptr 55 0, Eq1 ((↑n : Int) + 1), (0 : Int) = (↑(0 : Nat) : Int), False, False, False, False, False, c = c, T = T, lo = lo, hi = hi, z4 = lst 4 n (rq4 a b u v), (lst 2 m fun k => [iI (p k), iI (q k)]) = lst 2 m fun k => [iI (p k), iI (q k)], pl = pl, ph = ph, dl = dl, dh = dh] z0)))) (need [(0 : Int) ≤ (↑n : Int) ∧ (↑n : Int) ≤ 64, inI64 ((1 : Int) * 2 ^ n)] (need [inI64 ((1 : Int) * 2 ^ n - (1 : Int))] (branch ((0 : Int) != (0 : Int)) z6 (need [inI64 ((↑n : Int) + 1)] (need [z5 = (0 : Int), usB c u0 u1 wi = true, (0 : Int) ≤ day ∧ day ≤ (10000 : Int), z9 = true] (need [Eq1 z1, Eq1 z7, day = day, Eq1 (ptr 0 0), Eq1 (ptr 1 0), Eq1 z8, Eq1 (0 : Int), Eq1 (ptr 47 0), Eq1 (ptr 48 0), Eq1 (0 : Int), Eq1 (ptr 54 0), Eq1 (ptr 55 0), Eq1 ((↑n : Int) + 1), (0 : Int) = (↑(0 : Nat) : Int), Eq1 (AV.fn (Fn.func 22) [] [ptr 47 0, ptr 54 0, ptr 0 0, ptr 55 0]), Eq1 (ptr 33 0), c = c, T = T, lo = lo, hi = hi, z4 = lst 4 n (rq4 a b u v), (lst 2 m fun k => [iI (p k), iI (q k)]) = lst 2 m fun k => [iI (p k), iI (q k)], pl = pl, ph = ph, dl = dl, dh = dh, u0 = u0, u1 = u1, wi = wi, day = day, Eq1 (AV.mp 31), ∀ (k : Value), False → enH k ∧ k = enF c T lo hi n a b u v m p q pl ph dl dh u0 u1 wi day k, c = c, T = T, lo = lo, hi = hi, z4 = lst 4 n (rq4 a b u v), (lst 2 m fun k => [iI (p k), iI (q k)]) = lst 2 m fun k => [iI (p k), iI (q k)], pl = pl, ph = ph, dl = dl, dh = dh] z0))))))))) (branch (z3 != (0 : Int)) (branch (z3 != (0 : Int)) (leaf (RV.tup [RV.x (Value.slice none 0 0), RV.x (Value.int IntKind.i64 (z3))])) (need [inI64 ((↑n : Int) + 1)] (need [z5 = (0 : Int), usB c u0 u1 wi = true, (0 : Int) ≤ day ∧ day ≤ (10000 : Int), z9 = true] (need [Eq1 z1, Eq1 z7, day = day, Eq1 (ptr 0 0), Eq1 (ptr 1 0), Eq1 z8, Eq1 (0 : Int), ptr 32 0 = ptr 47 0, ptr 33 0 = ptr 48 0, z3 = (0 : Int), ptr 39 0 = ptr 54 0, ptr 40 0 = ptr 55 0, Eq1 ((↑n : Int) + 1), (0 : Int) = (↑(0 : Nat) : Int), False, False, False, False, False, c = c, T = T, lo = lo, hi = hi, z4 = lst 4 n (rq4 a b u v), (lst 2 m fun k => [iI (p k), iI (q k)]) = lst 2 m fun k => [iI (p k), iI (q k)], pl = pl, ph = ph, dl = dl, dh = dh] z0)))) Tree.fail))))) (by kernel_rfl) ?_
 simp only [Tree.sat, allP, fitP, fitL, valEq, true_and, and_true, decide_eq_true_eq, decide_eq_false_iff_not, bne_iff_ne, ne_eq, bne_eq_false_iff_eq, beq_iff_eq, beq_eq_false_iff_ne, Bool.not_eq_true', Bool.not_eq_false', not_true_eq_false, false_imp_iff, true_imp_iff]
 have ISR : (isRec 4 n fun k => [Bo.i (a k), Bo.i (b k), Bo.i (u k), Bo.i (v k)]) ∧ isRec 2 m fun k => [Pt.i (p k), Pt.i (q k)] := ⟨Bo.isRec4 n a b u v, Pt.isRec2 m p q⟩
 have eR : hgE c T lo hi n a b u v m p q pl ph dl dh u0 u1 wi day = 0 → egL c T lo hi n a b u v m p q pl ph dl dh u0 u1 wi day = blR (enL c T lo hi n a b u v m p q pl ph dl dh u0 u1 wi day) n := fun h => if_pos h
 have eN : ∀ k : Int, hgE c T lo hi n a b u v m p q pl ph dl dh u0 u1 wi day = k → k ≠ 0 → (isNil (Value.slice none 0 0) ∧ (egL c T lo hi n a b u v m p q pl ph dl dh u0 u1 wi day).length = 0) ∧ k = hgE c T lo hi n a b u v m p q pl ph dl dh u0 u1 wi day := fun k h hk => by
  refine ⟨⟨by trivial, ?_⟩, h.symm⟩
  unfold egL
  rw [if_neg (by rw [h]; exact hk)]
  rfl
 refine ⟨ISR, fun h => ⟨?_, fun h' => ⟨fun _ => eN 10 ?_ (by decide), fun h2 => absurd h2 (by decide)⟩, fun h' => ?_⟩, fun h => ?_⟩
 ·obtain ⟨h1, h2, h3⟩ := asE_0 h
  have hw := wk_ok h1
  have hu := usB_iff.1 h2
  exact ⟨hw.1, hw.2.1, hw.2.2.1, by omega, by omega, by omega⟩
 ·unfold hgE
  rw [if_pos h, h']
  rfl
 ·obtain ⟨h1, h2, h3⟩ := asE_0 h
  have hn := (rdE_0 h1).1
  have hp := pow12 hn
  have h0 : hgE c T lo hi n a b u v m p q pl ph dl dh u0 u1 wi day = 0 := hg_0.2 ⟨h, h'⟩
  rw [eR h0, h0]
  simp only [inI64]
  (repeat' first | with_reducible apply And.intro | with_reducible intro _)
  all_goals first | exact True.intro | omega | assumption | rfl | (rename_i hm; cases List.mem_singleton.1 hm; exact True.intro)
 ·have e := eN _ (if_neg h) h
  (repeat' first | with_reducible apply And.intro | with_reducible intro _)
  all_goals first | exact True.intro | exact e.1.1 | exact e.1.2 | exact e.2 | (exfalso; exact h (by assumption)) | trace_state
def S_Enough : Sx.Spec := fun l => match l with
 | [.agg [.x (.int .i64 c), .x (.int .i64 T), .x (.int .i64 lo), .x (.int .i64 hi), .lst 4 n fr, .lst 2 m ft, .x (.int .i64 pl), .x (.int .i64 ph), .x (.int .i64 dl), .x (.int .i64 dh)], .agg [.x (.int .i64 u0), .x (.int .i64 u1), .x (.int .i64 wi)], .x (.int .i64 day)] => some ([isRec 4 n fr, isRec 2 m ft], .tup [.lst 1 (egL c T lo hi n (col 0 fr) (col 1 fr) (col 2 fr) (col 3 fr) m (Pt.col 0 ft) (Pt.col 1 ft) pl ph dl dh u0 u1 wi day).length (fun j => [i (nthJ (egL c T lo hi n (col 0 fr) (col 1 fr) (col 2 fr) (col 3 fr) m (Pt.col 0 ft) (Pt.col 1 ft) pl ph dl dh u0 u1 wi day) j)]), i (hgE c T lo hi n (col 0 fr) (col 1 fr) (col 2 fr) (col 3 fr) m (Pt.col 0 ft) (Pt.col 1 ft) pl ph dl dh u0 u1 wi day)])
 | _ => none
theorem Enough_ok : SoundSpec Try.prog 9 S_Enough := by
 refine ⟨⟨_, Try.func9, by kernel_rfl, by kernel_rfl⟩, ?_⟩
 intro avs ns res h hn
 unfold S_Enough at h
 split at h
 ·cases h
  have hr : isRec 4 _ _ := hn _ List.mem_cons_self
  have ht : isRec 2 _ _ := hn _ (List.mem_cons_of_mem _ List.mem_cons_self)
  exact (Enough_at _ _ _ _ _ _ _ _ _ _ _ _ _ _ _ _ _ _ _ _ ).same (.cons (Sames.same (.cons (.refl _) (.cons (.refl _) (.cons (.refl _) (.cons (.refl _) (.cons (.lst 4 _ _ _ hr) (.cons (.lst 2 _ _ _ ht) (.cons (.refl _) (.cons (.refl _) (.cons (.refl _) (.cons (.refl _) .nil))))))))))) (.cons (.refl _) (.cons (.refl _) .nil)))
 ·cases h
end Go.Proofs.Ytlinbkmpkcmniaa
