/- Contracts of functions of the program, by the engine Sx: what each call comes to. Printed by a program of this repo (sxgen.py). -/
import Derived.Test.YtchcegfhamngkaaPtJ
import Derived.Test.YtchcegfhamngkaaSxT
set_option linter.unusedSimpArgs false
set_option linter.unusedVariables false
namespace Go.Proofs.Ytchcegfhamngkaa
open Go Go.Sx Go.RowKit
noncomputable def E_nt (n m : Nat) (a b : Nat → Int) : St := (some
  {
    σ :=
      [AV.lst (1 : Nat) n fun k => [AV.x (Value.int IntKind.i64 (a k))],
        AV.lst (1 : Nat) m fun k => [AV.x (Value.int IntKind.i64 (b k))], AV.top, AV.top, AV.top, AV.top,
        AV.lst (1 : Nat) n fun k => [AV.x (Value.int IntKind.i64 (a k))], AV.x (Value.int IntKind.i64 (↑n : Int)),
        AV.lst (1 : Nat) m fun k => [AV.x (Value.int IntKind.i64 (b k))], AV.x (Value.int IntKind.i64 (↑m : Int)),
        AV.lit false, AV.top, AV.top, AV.top, AV.top, AV.top, AV.top, AV.top, AV.top, AV.top, AV.top, AV.top, AV.top,
        AV.top, AV.top, AV.top],
    m := [], nx := (7 : Nat) } : Option St).getD { σ := [], m := [], nx := 0 }
noncomputable def B_nt : Code := loopBody (loopAt (bodyOf Try.f48) 0)
noncomputable def inv_nt (n m : Nat) (a b : Nat → Int) (k : Nat) : St := { σ := ovrS [(5, i k)] (E_nt n m a b).σ, m := (E_nt n m a b).m, nx := (E_nt n m a b).nx }
noncomputable def out_nt (n m : Nat) (a b : Nat → Int) (k : Nat) : AEx → Option St := fun ex => match ex with
  | .exit 0 => some { σ := ovrS [] (E_nt n m a b).σ, m := (E_nt n m a b).m, nx := (E_nt n m a b).nx }
  | .ret => some { σ := ovrS [(4, .lit false)] (E_nt n m a b).σ, m := (E_nt n m a b).m, nx := (E_nt n m a b).nx }
  | _ => none
noncomputable def T_nt (n m : Nat) (a b : Nat → Int) : CT := .branch (allI ((fun k => a k == b k)) n) (.leaf (.exit 0, ( out_nt n m a b 0 (.exit 0)).getD (E_nt n m a b))) (.leaf (.ret, ( out_nt n m a b 0 .ret).getD (E_nt n m a b)))
noncomputable def LS_nt (n m : Nat) (a b : Nat → Int) : LSpec := (sumL (inv_nt n m a b (0)) (T_nt n m a b))
set_option maxRecDepth 100000 in
theorem nt_ls (n m : Nat) (a b : Nat → Int) (pre0 : n ≤ 100000) (pre1 : n = m) : LSound Try.prog (.loop B_nt) (LS_nt n m a b) := by
  refine loop_rounds (G := []) (L := []) (SoundG.nil _) mixed noLoops (X := Nat) (inv_nt n m a b) (fun k => k ≤ n ∧ ∀ j, j < k → ((fun k => a k == b k)) j = true) (fun k => n - k) (out_nt n m a b) (x0 := 0) ⟨by omega, fun j hj => by omega⟩ ?_ ?_ ?_
  · rintro k
    kernel_rfl
  · rintro k y E h
    unfold out_nt at h
    split at h
    · cases h; kernel_rfl
    · cases h; kernel_rfl
    · cases h
  · rintro Q hQ k hx
    refine ⟨(k + 1), ?_⟩
    have e : roundT Try.prog [] [] B_nt (inv_nt n m a b k) (inv_nt n m a b ((k + 1))) (out_nt n m a b k) = (Tree.branch (decide ((↑k : Int) < (↑n : Int))) (Tree.need [(0 : Int) ≤ (↑k : Int) ∧ (↑k : Int) < (↑n : Int)] (Tree.need [(0 : Int) ≤ (↑k : Int) ∧ (↑k : Int) < (↑m : Int)] (Tree.branch (a (Int.toNat (↑k : Int)) != b (Int.toNat (↑k : Int))) (Tree.need [(AV.lst 1 n fun k => [iI (a k)]) = AV.lst 1 n fun k => [iI (a k)], (AV.lst 1 m fun k => [iI (b k)]) = AV.lst 1 m fun k => [iI (b k)], AV.lit false = AV.lit false, (AV.lst 1 n fun k => [iI (a k)]) = AV.lst 1 n fun k => [iI (a k)], (↑n : Int) = (↑n : Int), (AV.lst 1 m fun k => [iI (b k)]) = AV.lst 1 m fun k => [iI (b k)], (↑m : Int) = (↑m : Int), AV.lit false = AV.lit false] (Tree.leaf AEx.ret)) (Tree.need [inI64 ((↑k : Int) + (1 : Int))] (Tree.need [(AV.lst 1 n fun k => [iI (a k)]) = AV.lst 1 n fun k => [iI (a k)], (AV.lst 1 m fun k => [iI (b k)]) = AV.lst 1 m fun k => [iI (b k)], (↑k : Int) + (1 : Int) = (↑(k + 1) : Int), (AV.lst 1 n fun k => [iI (a k)]) = AV.lst 1 n fun k => [iI (a k)], (↑n : Int) = (↑n : Int), (AV.lst 1 m fun k => [iI (b k)]) = AV.lst 1 m fun k => [iI (b k)], (↑m : Int) = (↑m : Int), AV.lit false = AV.lit false] (Tree.leaf AEx.normal)))))) (Tree.need [(AV.lst 1 n fun k => [iI (a k)]) = AV.lst 1 n fun k => [iI (a k)], (AV.lst 1 m fun k => [iI (b k)]) = AV.lst 1 m fun k => [iI (b k)], (AV.lst 1 n fun k => [iI (a k)]) = AV.lst 1 n fun k => [iI (a k)], (↑n : Int) = (↑n : Int), (AV.lst 1 m fun k => [iI (b k)]) = AV.lst 1 m fun k => [iI (b k)], (↑m : Int) = (↑m : Int), AV.lit false = AV.lit false] (Tree.leaf (AEx.exit 0)))) := by kernel_rfl
    rw [e]
    simp only [T_nt, out_nt, Tree.sat, Option.getD_some] at hQ
    have hbad : k < n → ((fun k => a k == b k)) k = false → allI ((fun k => a k == b k)) n = false := by
      intro h1 h2
      rw [← Bool.not_eq_true]
      intro h3
      have := allI_iff.1 h3 k h1
      exact Bool.noConfusion (h2.symm.trans this)
    have hgood : ((fun k => a k == b k)) k = true → ∀ j, j < k + 1 → ((fun k => a k == b k)) j = true := by
      intro h1 j hj
      rcases (show j < k ∨ j = k by omega) with h | rfl
      · exact hx.2 j h
      · exact h1
    have hend : ¬ k < n → allI ((fun k => a k == b k)) n = true := fun h => allI_iff.2 (fun j hj => hx.2 j (by omega))
    have hQ1 : ∀ E, out_nt n m a b k .ret = some E → allI ((fun k => a k == b k)) n = false → Q (.ret, E) := by
      intro E hE hf
      cases hE
      exact hQ.2 hf
    have hQ2 : ∀ E, out_nt n m a b k (.exit 0) = some E → allI ((fun k => a k == b k)) n = true → Q (.exit 0, E) := by
      intro E hE hf
      cases hE
      exact hQ.1 hf
    simp only [Tree.sat, allP, true_and, and_true, decide_eq_true_eq, decide_eq_false_iff_not, inI64, Int.toNat_natCast]
    clear e
    repeat' first | with_reducible apply And.intro | with_reducible intro _
    all_goals first | exact True.intro | omega | exact hQ1 _ (by assumption) (hbad (by omega) (by simp_all)) | exact hQ2 _ (by assumption) (hend (by omega)) | exact hgood (by simp_all) _ (by assumption)

set_option maxRecDepth 100000 in
theorem ints_at (n m : Nat) (a b : Nat → Int) (pre0 : n ≤ 100000) : SoundAt Try.prog 48 [.lst 1 n (fun k => [i (a k)]), .lst 1 m (fun k => [i (b k)])] (bl (decide (n = m) && allI (fun k => a k == b k) n)) := by
  refine soundAt_fin (G := []) (L := [needSp [n ≤ 100000, n = m] (LS_nt n m a b)]) (SoundG.nil _) mixed Try.func48 (show Try.f48.body = some (bodyOf Try.f48) by kernel_rfl) (one_loop (fun cj hcj => by
    have e : loopAt (bodyOf Try.f48) 0 = some (.loop B_nt) := by kernel_rfl
    rw [e] at hcj; cases hcj
    exact needSp_sound (fun h => nt_ls n m a b h.1 h.2))) (t := (Tree.branch ((↑n : Int) != (↑m : Int)) (Tree.leaf (RV.x (Value.bool false))) (Tree.need [n ≤ 100000, n = m] (Tree.need [(AV.lst 1 n fun k => [iI (a k)]) = AV.lst 1 n fun k => [iI (a k)], (AV.lst 1 m fun k => [iI (b k)]) = AV.lst 1 m fun k => [iI (b k)], (0 : Int) = (↑(0 : Nat) : Int), (AV.lst 1 n fun k => [iI (a k)]) = AV.lst 1 n fun k => [iI (a k)], (↑n : Int) = (↑n : Int), (AV.lst 1 m fun k => [iI (b k)]) = AV.lst 1 m fun k => [iI (b k)], (↑m : Int) = (↑m : Int), AV.lit false = AV.lit false] (Tree.branch (allI (fun k => a k == b k) n) (Tree.leaf (RV.x (Value.bool true))) (Tree.leaf (RV.x (Value.bool false)))))))) (by kernel_rfl) ?_
  simp only [Tree.sat, allP, fitP, fitL, valEq, inI64, true_and, and_true, decide_eq_true_eq, decide_eq_false_iff_not, Int.natCast_zero, Int.toNat_natCast, bne_iff_ne, ne_eq]
  refine ⟨fun h => ?_, fun h => ?_⟩
  · have : n ≠ m := by intro h'; subst h'; simp at h
    simp [this]
  · have e : n = m := by
      rw [bne_eq_false_iff_eq] at h
      omega
    subst e
    refine ⟨⟨by omega, rfl⟩, fun h2 => ?_, fun h2 => ?_⟩
    · simp [h2]
    · simp [h2]


def S_ints : Sx.Spec := fun l => match l with
  | [.lst 1 n f, .lst 1 m g] => some ([isRec 1 n f, isRec 1 m g, n ≤ 100000], bl (decide (n = m) && allI (fun k => col 0 f k == col 0 g k) n))
  | _ => none


theorem ints_ok : SoundSpec Try.prog 48 S_ints := by
  refine ⟨⟨_, Try.func48, by kernel_rfl, by kernel_rfl⟩, ?_⟩
  intro avs ns res h hn
  unfold S_ints at h
  split at h
  · rename_i n f m g
    cases h
    have hr : isRec 1 n f := hn _ (by simp)
    have hr2 : isRec 1 m g := hn _ (by simp)
    exact (ints_at n m (col 0 f) (col 0 g) (hn _ (by simp))).same (.cons (.lst 1 n _ _ hr) (.cons (.lst 1 m _ _ hr2) .nil))
  · cases h

noncomputable def E_dd (n m : Nat) (a b r u v : Nat → Int) : St := (some
  {
    σ :=
      [AV.lst (2 : Nat) n fun k => [AV.x (Value.int IntKind.i64 (a k)), AV.x (Value.int IntKind.i64 (b k))],
        AV.lst (3 : Nat) m fun k =>
          [AV.x (Value.int IntKind.i64 (r k)), AV.x (Value.int IntKind.i64 (u k)), AV.x (Value.int IntKind.i64 (v k))],
        AV.top, AV.top, AV.top,
        AV.x
          (Value.int IntKind.i64
            (sdE n (col (0 : Nat) fun k => [i (a k), i (b k)]) (col (1 : Nat) fun k => [i (a k), i (b k)]) (0 : Int)
              (0 : Int))),
        AV.top, AV.lst (2 : Nat) n fun k => [AV.x (Value.int IntKind.i64 (a k)), AV.x (Value.int IntKind.i64 (b k))],
        AV.x (Value.int IntKind.i64 (↑n : Int)), AV.x (Value.bool (decide ((↑n : Int) > (8 : Int)))), AV.lit false,
        AV.lst (3 : Nat) m fun k =>
          [AV.x (Value.int IntKind.i64 (r k)), AV.x (Value.int IntKind.i64 (u k)), AV.x (Value.int IntKind.i64 (v k))],
        AV.x (Value.int IntKind.i64 (↑m : Int)), AV.x (Value.bool (decide ((↑m : Int) > (12 : Int)))), AV.lit false,
        AV.lst (2 : Nat) n fun k => [AV.x (Value.int IntKind.i64 (a k)), AV.x (Value.int IntKind.i64 (b k))],
        AV.agg [AV.x (Value.int IntKind.i64 (0 : Int)), AV.x (Value.int IntKind.i64 (0 : Int))],
        AV.x
          (Value.int IntKind.i64
            (sdE n (col (0 : Nat) fun k => [i (a k), i (b k)]) (col (1 : Nat) fun k => [i (a k), i (b k)]) (0 : Int)
              (0 : Int))),
        AV.x
          (Value.int IntKind.i64
            (sdE n (col (0 : Nat) fun k => [i (a k), i (b k)]) (col (1 : Nat) fun k => [i (a k), i (b k)]) (0 : Int)
              (0 : Int))),
        AV.lit false, AV.top, AV.top, AV.top, AV.top, AV.top, AV.top, AV.top, AV.top, AV.top, AV.top, AV.top, AV.top,
        AV.top],
    m := [], nx := (16 : Nat) } : Option St).getD { σ := [], m := [], nx := 0 }
noncomputable def B_dd : Code := loopBody (loopAt (bodyOf Try.f46) 0)
noncomputable def inv_dd (n m : Nat) (a b r u v : Nat → Int) (k : Nat) : St := { σ := ovrS [(6, i k)] (E_dd n m a b r u v).σ, m := (E_dd n m a b r u v).m, nx := (E_dd n m a b r u v).nx }
noncomputable def out_dd (n m : Nat) (a b r u v : Nat → Int) (k : Nat) : AEx → Option St := fun ex => match ex with
  | .exit 0 => some { σ := ovrS [] (E_dd n m a b r u v).σ, m := (E_dd n m a b r u v).m, nx := (E_dd n m a b r u v).nx }
  | .ret => some { σ := ovrS [(4, i 2)] (E_dd n m a b r u v).σ, m := (E_dd n m a b r u v).m, nx := (E_dd n m a b r u v).nx }
  | _ => none
noncomputable def T_dd (n m : Nat) (a b r u v : Nat → Int) : CT := .branch (allI ((fun k => enB (r k) (u k) (v k))) m) (.leaf (.exit 0, ( out_dd n m a b r u v 0 (.exit 0)).getD (E_dd n m a b r u v))) (.leaf (.ret, ( out_dd n m a b r u v 0 .ret).getD (E_dd n m a b r u v)))
noncomputable def LS_dd (n m : Nat) (a b r u v : Nat → Int) : LSpec := (sumL (inv_dd n m a b r u v (0)) (T_dd n m a b r u v))
set_option maxRecDepth 100000 in
theorem dd_ls (n m : Nat) (a b r u v : Nat → Int) (pre0 : m ≤ 100000) (pre1 : n ≤ 8) : LSound Try.prog (.loop B_dd) (LS_dd n m a b r u v) := by
  refine loop_rounds (G := [(20, S_scaled), (75, S_rIsEntry)]) (L := []) (SoundG.cons scaled_ok (SoundG.cons rIsEntry_ok (SoundG.nil _))) mixed noLoops (X := Nat) (inv_dd n m a b r u v) (fun k => k ≤ m ∧ ∀ j, j < k → ((fun k => enB (r k) (u k) (v k))) j = true) (fun k => m - k) (out_dd n m a b r u v) (x0 := 0) ⟨by omega, fun j hj => by omega⟩ ?_ ?_ ?_
  · rintro k
    kernel_rfl
  · rintro k y E h
    unfold out_dd at h
    split at h
    · cases h; kernel_rfl
    · cases h; kernel_rfl
    · cases h
  · rintro Q hQ k hx
    refine ⟨(k + 1), ?_⟩
    have e : roundT Try.prog [(20, S_scaled), (75, S_rIsEntry)] [] B_dd (inv_dd n m a b r u v k) (inv_dd n m a b r u v ((k + 1))) (out_dd n m a b r u v k) = (Tree.branch (decide ((↑k : Int) < (↑m : Int))) (Tree.need [(0 : Int) ≤ (↑k : Int) ∧ (↑k : Int) < (↑m : Int)] (Tree.branch (!enB (r (Int.toNat (↑k : Int))) (u (Int.toNat (↑k : Int))) (v (Int.toNat (↑k : Int)))) (Tree.need [(AV.lst 2 n fun k => [iI (a k), iI (b k)]) = AV.lst 2 n fun k => [iI (a k), iI (b k)], (AV.lst 3 m fun k => [iI (r k), iI (u k), iI (v k)]) = AV.lst 3 m fun k => [iI (r k), iI (u k), iI (v k)], (2 : Int) = (2 : Int), sdE n (col 0 fun k => [i (a k), i (b k)]) (col 1 fun k => [i (a k), i (b k)]) (0 : Int) (0 : Int) = sdE n (col 0 fun k => [i (a k), i (b k)]) (col 1 fun k => [i (a k), i (b k)]) (0 : Int) (0 : Int), (AV.lst 2 n fun k => [iI (a k), iI (b k)]) = AV.lst 2 n fun k => [iI (a k), iI (b k)], (↑n : Int) = (↑n : Int), AV.x (Value.bool (decide ((↑n : Int) > (8 : Int)))) = AV.x (Value.bool (decide ((↑n : Int) > (8 : Int)))), AV.lit false = AV.lit false, (AV.lst 3 m fun k => [iI (r k), iI (u k), iI (v k)]) = AV.lst 3 m fun k => [iI (r k), iI (u k), iI (v k)], (↑m : Int) = (↑m : Int), AV.x (Value.bool (decide ((↑m : Int) > (12 : Int)))) = AV.x (Value.bool (decide ((↑m : Int) > (12 : Int)))), AV.lit false = AV.lit false, (AV.lst 2 n fun k => [iI (a k), iI (b k)]) = AV.lst 2 n fun k => [iI (a k), iI (b k)], AV.agg [iI (0 : Int), iI (0 : Int)] = AV.agg [iI (0 : Int), iI (0 : Int)], sdE n (col 0 fun k => [i (a k), i (b k)]) (col 1 fun k => [i (a k), i (b k)]) (0 : Int) (0 : Int) = sdE n (col 0 fun k => [i (a k), i (b k)]) (col 1 fun k => [i (a k), i (b k)]) (0 : Int) (0 : Int), sdE n (col 0 fun k => [i (a k), i (b k)]) (col 1 fun k => [i (a k), i (b k)]) (0 : Int) (0 : Int) = sdE n (col 0 fun k => [i (a k), i (b k)]) (col 1 fun k => [i (a k), i (b k)]) (0 : Int) (0 : Int), AV.lit false = AV.lit false] (Tree.leaf AEx.ret)) (Tree.need [inI64 ((↑k : Int) + (1 : Int))] (Tree.need [(AV.lst 2 n fun k => [iI (a k), iI (b k)]) = AV.lst 2 n fun k => [iI (a k), iI (b k)], (AV.lst 3 m fun k => [iI (r k), iI (u k), iI (v k)]) = AV.lst 3 m fun k => [iI (r k), iI (u k), iI (v k)], sdE n (col 0 fun k => [i (a k), i (b k)]) (col 1 fun k => [i (a k), i (b k)]) (0 : Int) (0 : Int) = sdE n (col 0 fun k => [i (a k), i (b k)]) (col 1 fun k => [i (a k), i (b k)]) (0 : Int) (0 : Int), (↑k : Int) + (1 : Int) = (↑(k + 1) : Int), (AV.lst 2 n fun k => [iI (a k), iI (b k)]) = AV.lst 2 n fun k => [iI (a k), iI (b k)], (↑n : Int) = (↑n : Int), AV.x (Value.bool (decide ((↑n : Int) > (8 : Int)))) = AV.x (Value.bool (decide ((↑n : Int) > (8 : Int)))), AV.lit false = AV.lit false, (AV.lst 3 m fun k => [iI (r k), iI (u k), iI (v k)]) = AV.lst 3 m fun k => [iI (r k), iI (u k), iI (v k)], (↑m : Int) = (↑m : Int), AV.x (Value.bool (decide ((↑m : Int) > (12 : Int)))) = AV.x (Value.bool (decide ((↑m : Int) > (12 : Int)))), AV.lit false = AV.lit false, (AV.lst 2 n fun k => [iI (a k), iI (b k)]) = AV.lst 2 n fun k => [iI (a k), iI (b k)], AV.agg [iI (0 : Int), iI (0 : Int)] = AV.agg [iI (0 : Int), iI (0 : Int)], sdE n (col 0 fun k => [i (a k), i (b k)]) (col 1 fun k => [i (a k), i (b k)]) (0 : Int) (0 : Int) = sdE n (col 0 fun k => [i (a k), i (b k)]) (col 1 fun k => [i (a k), i (b k)]) (0 : Int) (0 : Int), sdE n (col 0 fun k => [i (a k), i (b k)]) (col 1 fun k => [i (a k), i (b k)]) (0 : Int) (0 : Int) = sdE n (col 0 fun k => [i (a k), i (b k)]) (col 1 fun k => [i (a k), i (b k)]) (0 : Int) (0 : Int), AV.lit false = AV.lit false] (Tree.leaf AEx.normal))))) (Tree.need [(AV.lst 2 n fun k => [iI (a k), iI (b k)]) = AV.lst 2 n fun k => [iI (a k), iI (b k)], (AV.lst 3 m fun k => [iI (r k), iI (u k), iI (v k)]) = AV.lst 3 m fun k => [iI (r k), iI (u k), iI (v k)], sdE n (col 0 fun k => [i (a k), i (b k)]) (col 1 fun k => [i (a k), i (b k)]) (0 : Int) (0 : Int) = sdE n (col 0 fun k => [i (a k), i (b k)]) (col 1 fun k => [i (a k), i (b k)]) (0 : Int) (0 : Int), (AV.lst 2 n fun k => [iI (a k), iI (b k)]) = AV.lst 2 n fun k => [iI (a k), iI (b k)], (↑n : Int) = (↑n : Int), AV.x (Value.bool (decide ((↑n : Int) > (8 : Int)))) = AV.x (Value.bool (decide ((↑n : Int) > (8 : Int)))), AV.lit false = AV.lit false, (AV.lst 3 m fun k => [iI (r k), iI (u k), iI (v k)]) = AV.lst 3 m fun k => [iI (r k), iI (u k), iI (v k)], (↑m : Int) = (↑m : Int), AV.x (Value.bool (decide ((↑m : Int) > (12 : Int)))) = AV.x (Value.bool (decide ((↑m : Int) > (12 : Int)))), AV.lit false = AV.lit false, (AV.lst 2 n fun k => [iI (a k), iI (b k)]) = AV.lst 2 n fun k => [iI (a k), iI (b k)], AV.agg [iI (0 : Int), iI (0 : Int)] = AV.agg [iI (0 : Int), iI (0 : Int)], sdE n (col 0 fun k => [i (a k), i (b k)]) (col 1 fun k => [i (a k), i (b k)]) (0 : Int) (0 : Int) = sdE n (col 0 fun k => [i (a k), i (b k)]) (col 1 fun k => [i (a k), i (b k)]) (0 : Int) (0 : Int), sdE n (col 0 fun k => [i (a k), i (b k)]) (col 1 fun k => [i (a k), i (b k)]) (0 : Int) (0 : Int) = sdE n (col 0 fun k => [i (a k), i (b k)]) (col 1 fun k => [i (a k), i (b k)]) (0 : Int) (0 : Int), AV.lit false = AV.lit false] (Tree.leaf (AEx.exit 0)))) := by kernel_rfl
    rw [e]
    simp only [T_dd, out_dd, Tree.sat, Option.getD_some] at hQ
    have hbad : k < m → ((fun k => enB (r k) (u k) (v k))) k = false → allI ((fun k => enB (r k) (u k) (v k))) m = false := by
      intro h1 h2
      rw [← Bool.not_eq_true]
      intro h3
      have := allI_iff.1 h3 k h1
      exact Bool.noConfusion (h2.symm.trans this)
    have hgood : ((fun k => enB (r k) (u k) (v k))) k = true → ∀ j, j < k + 1 → ((fun k => enB (r k) (u k) (v k))) j = true := by
      intro h1 j hj
      rcases (show j < k ∨ j = k by omega) with h | rfl
      · exact hx.2 j h
      · exact h1
    have hend : ¬ k < m → allI ((fun k => enB (r k) (u k) (v k))) m = true := fun h => allI_iff.2 (fun j hj => hx.2 j (by omega))
    have hQ1 : ∀ E, out_dd n m a b r u v k .ret = some E → allI ((fun k => enB (r k) (u k) (v k))) m = false → Q (.ret, E) := by
      intro E hE hf
      cases hE
      exact hQ.2 hf
    have hQ2 : ∀ E, out_dd n m a b r u v k (.exit 0) = some E → allI ((fun k => enB (r k) (u k) (v k))) m = true → Q (.exit 0, E) := by
      intro E hE hf
      cases hE
      exact hQ.1 hf
    simp only [Tree.sat, allP, true_and, and_true, decide_eq_true_eq, decide_eq_false_iff_not, inI64, Int.toNat_natCast]
    clear e
    repeat' first | with_reducible apply And.intro | with_reducible intro _
    all_goals first | exact True.intro | omega | exact hQ1 _ (by assumption) (hbad (by omega) (by simp_all)) | exact hQ2 _ (by assumption) (hend (by omega)) | exact hgood (by simp_all) _ (by assumption)


def ddE (n m : Nat) (a b r u v : Nat → Int) : Int := if 8 < n ∨ 12 < m then 3 else if allS n a b then (if allI (fun k => enB (r k) (u k) (v k)) m then 0 else 2) else 1
def S_diaried : Sx.Spec := fun l => match l with
  | [.lst 2 n f, .lst 3 m g] => some ([isRec 2 n f, isRec 3 m g, n ≤ 100000, m ≤ 100000], i (ddE n m (col 0 f) (col 1 f) (col 0 g) (col 1 g) (col 2 g)))
  | _ => none
theorem col10 (a : Nat → Int) : col 0 (fun k => [i (a k)]) = a := rfl
theorem col20 (a b : Nat → Int) : col 0 (fun k => [i (a k), i (b k)]) = a := rfl
theorem col21 (a b : Nat → Int) : col 1 (fun k => [i (a k), i (b k)]) = b := rfl
theorem col30 (a b c : Nat → Int) : col 0 (fun k => [i (a k), i (b k), i (c k)]) = a := rfl
theorem col31 (a b c : Nat → Int) : col 1 (fun k => [i (a k), i (b k), i (c k)]) = b := rfl
theorem col32 (a b c : Nat → Int) : col 2 (fun k => [i (a k), i (b k), i (c k)]) = c := rfl
theorem isRec3 (n : Nat) (a b c : Nat → Int) : isRec 3 n (fun k => [i (a k), i (b k), i (c k)]) := fun _ _ => rfl
theorem isRec1 (n : Nat) (a : Nat → Int) : isRec 1 n (fun k => [i (a k)]) := fun _ _ => rfl

set_option maxRecDepth 100000 in
theorem diaried_at (n m : Nat) (a b r u v : Nat → Int) (pre0 : n ≤ 100000) (pre1 : m ≤ 100000) : SoundAt Try.prog 46 [scs n a b, ens m r u v] (i (ddE n m a b r u v)) := by
  refine soundAt_fin (G := [(20, S_scaled), (75, S_rIsEntry)]) (L := [needSp [m ≤ 100000, n ≤ 8] (LS_dd n m a b r u v)]) (SoundG.cons scaled_ok (SoundG.cons rIsEntry_ok (SoundG.nil _))) mixed Try.func46 (show Try.f46.body = some (bodyOf Try.f46) by kernel_rfl) (one_loop (fun cj hcj => by
    have e : loopAt (bodyOf Try.f46) 0 = some (.loop B_dd) := by kernel_rfl
    rw [e] at hcj; cases hcj
    exact needSp_sound (fun h => dd_ls n m a b r u v h.1 h.2))) (t := (Tree.branch (decide ((↑n : Int) > (8 : Int))) (Tree.leaf (RV.x (Value.int IntKind.i64 (3 : Int)))) (Tree.branch (decide ((↑m : Int) > (12 : Int))) (Tree.leaf (RV.x (Value.int IntKind.i64 (3 : Int)))) (Tree.need [isRec 2 n fun k => [i (a k), i (b k)], n ≤ 100000] (Tree.branch (sdE n (col 0 fun k => [i (a k), i (b k)]) (col 1 fun k => [i (a k), i (b k)]) (0 : Int) (0 : Int) != (0 : Int)) (Tree.leaf (RV.x (Value.int IntKind.i64 (sdE n (col 0 fun k => [i (a k), i (b k)]) (col 1 fun k => [i (a k), i (b k)]) (0 : Int) (0 : Int))))) (Tree.need [m ≤ 100000, n ≤ 8] (Tree.need [(AV.lst 2 n fun k => [iI (a k), iI (b k)]) = AV.lst 2 n fun k => [iI (a k), iI (b k)], (AV.lst 3 m fun k => [iI (r k), iI (u k), iI (v k)]) = AV.lst 3 m fun k => [iI (r k), iI (u k), iI (v k)], sdE n (col 0 fun k => [i (a k), i (b k)]) (col 1 fun k => [i (a k), i (b k)]) (0 : Int) (0 : Int) = sdE n (col 0 fun k => [i (a k), i (b k)]) (col 1 fun k => [i (a k), i (b k)]) (0 : Int) (0 : Int), (0 : Int) = (↑(0 : Nat) : Int), (AV.lst 2 n fun k => [iI (a k), iI (b k)]) = AV.lst 2 n fun k => [iI (a k), iI (b k)], (↑n : Int) = (↑n : Int), AV.x (Value.bool (decide ((↑n : Int) > (8 : Int)))) = AV.x (Value.bool (decide ((↑n : Int) > (8 : Int)))), AV.lit false = AV.lit false, (AV.lst 3 m fun k => [iI (r k), iI (u k), iI (v k)]) = AV.lst 3 m fun k => [iI (r k), iI (u k), iI (v k)], (↑m : Int) = (↑m : Int), AV.x (Value.bool (decide ((↑m : Int) > (12 : Int)))) = AV.x (Value.bool (decide ((↑m : Int) > (12 : Int)))), AV.lit false = AV.lit false, (AV.lst 2 n fun k => [iI (a k), iI (b k)]) = AV.lst 2 n fun k => [iI (a k), iI (b k)], AV.agg [iI (0 : Int), iI (0 : Int)] = AV.agg [iI (0 : Int), iI (0 : Int)], sdE n (col 0 fun k => [i (a k), i (b k)]) (col 1 fun k => [i (a k), i (b k)]) (0 : Int) (0 : Int) = sdE n (col 0 fun k => [i (a k), i (b k)]) (col 1 fun k => [i (a k), i (b k)]) (0 : Int) (0 : Int), sdE n (col 0 fun k => [i (a k), i (b k)]) (col 1 fun k => [i (a k), i (b k)]) (0 : Int) (0 : Int) = sdE n (col 0 fun k => [i (a k), i (b k)]) (col 1 fun k => [i (a k), i (b k)]) (0 : Int) (0 : Int), AV.lit false = AV.lit false] (Tree.branch (allI (fun k => enB (r k) (u k) (v k)) m) (Tree.leaf (RV.x (Value.int IntKind.i64 (0 : Int)))) (Tree.leaf (RV.x (Value.int IntKind.i64 (2 : Int)))))))))))) (by kernel_rfl) ?_
  simp only [Tree.sat, allP, fitP, fitL, valEq, inI64, true_and, and_true, decide_eq_true_eq, decide_eq_false_iff_not, Int.natCast_zero, Int.toNat_natCast, col20, col21, col30, col31, col32, ddE]
  refine ⟨fun h => ?_, fun h => ⟨fun h2 => ?_, fun h2 => ⟨⟨isRec2 n a b, pre0⟩, fun h3 => ?_, fun h3 => ?_⟩⟩⟩
  · rw [if_pos (by omega)]
  · rw [if_pos (by omega)]
  · rw [if_neg (by omega)]
    have e : ¬ 8 < n := by omega
    cases hA : allS n a b
    · simp [sdE, e, hA]
    · simp [sdE, e, hA, insB] at h3
  · rw [if_neg (by omega)]
    have e : ¬ 8 < n := by omega
    cases hA : allS n a b
    · simp [sdE, e, hA] at h3
    · refine ⟨by omega, fun h4 => ?_, fun h4 => ?_⟩
      · simp [h4]
      · simp [h4]


theorem diaried_ok : SoundSpec Try.prog 46 S_diaried := by
  refine ⟨⟨_, Try.func46, by kernel_rfl, by kernel_rfl⟩, ?_⟩
  intro avs ns res h hn
  unfold S_diaried at h
  split at h
  · rename_i n f m g
    cases h
    have hr : isRec 2 n f := hn _ (by simp)
    have hr2 : isRec 3 m g := hn _ (by simp)
    exact (diaried_at n m (col 0 f) (col 1 f) (col 0 g) (col 1 g) (col 2 g) (hn _ (by simp)) (hn _ (by simp))).same (.cons (.lst 2 n _ _ hr) (.cons (.lst 3 m _ _ hr2) .nil))
  · cases h

set_option maxRecDepth 100000 in
theorem ready_at (n : Nat) (a b : Nat → Int) (lo hi : Int) (pre0 : n ≤ 100000) : SoundAt Try.prog 37 [scs n a b, .agg [i lo, i hi]] (bl (decide (sdE n a b lo hi = 0) && (decide (-400 ≤ lo) && decide (hi ≤ 400)))) := by
  refine soundAt_fin (G := [(20, S_scaled)]) (L := []) (SoundG.cons scaled_ok (SoundG.nil _)) mixed Try.func37 (show Try.f37.body = some (bodyOf Try.f37) by kernel_rfl) noLoops (t := (Tree.need [isRec 2 n fun k => [i (a k), i (b k)], n ≤ 100000] (Tree.branch (sdE n (col 0 fun k => [i (a k), i (b k)]) (col 1 fun k => [i (a k), i (b k)]) lo hi == (0 : Int)) (Tree.branch (decide (lo ≥ (-400 : Int))) (Tree.leaf (RV.x (Value.bool (decide (hi ≤ (400 : Int)))))) (Tree.leaf (RV.x (Value.bool false)))) (Tree.leaf (RV.x (Value.bool false)))))) (by kernel_rfl) ?_
  simp only [Tree.sat, allP, fitP, fitL, valEq, inI64, true_and, and_true, decide_eq_true_eq, decide_eq_false_iff_not, Int.natCast_zero, Int.toNat_natCast, col20, col21, beq_iff_eq]
  refine ⟨⟨isRec2 n a b, pre0⟩, fun h => ⟨fun h2 => ?_, fun h2 => ?_⟩, fun h => ?_⟩
  · simp [h, show -400 ≤ lo by omega]
  · simp [h, show ¬ -400 ≤ lo by omega]
  · rw [beq_eq_false_iff_ne] at h
    simp [h]

set_option maxRecDepth 100000 in
theorem tabled_at (n : Nat) (p q : Nat → Int) (lo hi : Int) : SoundAt Try.prog 39 [scs n p q, .agg [i lo, i hi]] (bl (decide (n ≤ 8) && (itB n p q && insB (p 0) lo hi (p (n - 1))))) := by
  refine soundAt_fin (G := [(29, S_rIsTable), (30, S_rSpan)]) (L := []) (SoundG.cons rIsTable_ok (SoundG.cons rSpan_ok (SoundG.nil _))) mixed Try.func39 (show Try.f39.body = some (bodyOf Try.f39) by kernel_rfl) noLoops (t := (Tree.branch (decide ((↑n : Int) ≤ (8 : Int))) (Tree.need [isRec 2 n fun k => [i (p k), i (q k)], n ≤ 100000] (Tree.branch (itB n (col 0 fun k => [i (p k), i (q k)]) (col 1 fun k => [i (p k), i (q k)])) (Tree.need [(0 : Int) ≤ (0 : Int) ∧ (0 : Int) < (↑n : Int)] (Tree.need [inI64 ((↑n : Int) - (1 : Int))] (Tree.need [(0 : Int) ≤ (↑n : Int) - (1 : Int) ∧ (↑n : Int) - (1 : Int) < (↑n : Int)] (Tree.leaf (RV.x (Value.bool (insB (p (Int.toNat (0 : Int))) lo hi (p (Int.toNat ((↑n : Int) - (1 : Int))))))))))) (Tree.leaf (RV.x (Value.bool false))))) (Tree.leaf (RV.x (Value.bool false))))) (by kernel_rfl) ?_
  simp only [Tree.sat, allP, fitP, fitL, valEq, inI64, true_and, and_true, decide_eq_true_eq, decide_eq_false_iff_not, Int.natCast_zero, Int.toNat_natCast, col20, col21]
  refine ⟨fun h => ⟨⟨isRec2 n p q, by omega⟩, fun h2 => ?_, fun h2 => ?_⟩, fun h => ?_⟩
  · have h3 : 2 ≤ n := by
      unfold itB at h2
      simp at h2
      omega
    refine ⟨by omega, by omega, by omega, ?_⟩
    rw [show ((n : Int) - 1).toNat = n - 1 by omega]
    simp [h2, show n ≤ 8 by omega]
  · simp [h2]
  · simp [show ¬ n ≤ 8 by omega]

def S_Nearest : Sx.Spec := fun l => match l with
  | [.agg [.x (.int .i64 a), .x (.int .i64 b)], .x (.int .i64 x), .x (.int .i64 o)] => some ([-1000 ≤ a ∧ a ≤ 1000 ∧ -1000 ≤ b ∧ b ≤ 1000, -500000 ≤ x ∧ x ≤ 500000 ∧ 1 ≤ o ∧ o ≤ 5000], i (a + (2 * x * (b - a) + o) / (2 * o)))
  | _ => none

set_option maxRecDepth 100000 in
theorem Nearest_at (a b x o : Int) (pre0 : -1000 ≤ a ∧ a ≤ 1000 ∧ -1000 ≤ b ∧ b ≤ 1000) (pre1 : -500000 ≤ x ∧ x ≤ 500000 ∧ 1 ≤ o ∧ o ≤ 5000) : SoundAt Try.prog 34 [.agg [i a, i b], i x, i o] (i (a + (2 * x * (b - a) + o) / (2 * o))) := by
  refine soundAt_fin (G := [(57, S_rFloor)]) (L := []) (SoundG.cons rFloor_ok (SoundG.nil _)) mixed Try.func34 (show Try.f34.body = some (bodyOf Try.f34) by kernel_rfl) noLoops (t := (Tree.need [inI64 ((2 : Int) * x)] (Tree.need [inI64 (b - a)] (Tree.need [inI64 ((2 : Int) * x * (b - a))] (Tree.need [inI64 ((2 : Int) * x * (b - a) + o)] (Tree.need [inI64 ((2 : Int) * o)] (Tree.need [(-4611686018427387904 : Int) ≤ (2 : Int) * x * (b - a) + o ∧ (2 : Int) * x * (b - a) + o ≤ (4611686018427387904 : Int), (1 : Int) ≤ (2 : Int) * o ∧ (2 : Int) * o ≤ (4000000000000 : Int)] (Tree.need [inI64 (a + ((2 : Int) * x * (b - a) + o) / ((2 : Int) * o))] (Tree.leaf (RV.x (Value.int IntKind.i64 (a + ((2 : Int) * x * (b - a) + o) / ((2 : Int) * o))))))))))))) (by kernel_rfl) ?_
  have m := mul_bd (x := 2 * x) (y := b - a) (X := 1000000) (Y := 2000) (by omega) (by omega)
  have dv := div_bd (n := 2 * x * (b - a) + o) (d := 2 * o) (N := 3000000000) (by omega) (by omega)
  simp only [Tree.sat, allP, fitP, fitL, valEq, inI64, true_and, and_true, decide_eq_true_eq, decide_eq_false_iff_not, Int.natCast_zero, Int.toNat_natCast]
  repeat' first | with_reducible apply And.intro | with_reducible intro _
  all_goals first | exact True.intro | omega | with_reducible rfl | assumption
theorem Nearest_ok : SoundSpec Try.prog 34 S_Nearest := by
  refine ⟨⟨_, Try.func34, by kernel_rfl, by kernel_rfl⟩, ?_⟩
  intro avs ns res h hn
  unfold S_Nearest at h
  split at h
  · cases h
    exact Nearest_at _ _ _ _ (hn _ (by simp)) (hn _ (by simp))
  · cases h


def S_ready : Sx.Spec := fun l => match l with
  | [.lst 2 n f, .agg [.x (.int .i64 lo), .x (.int .i64 hi)]] => some ([isRec 2 n f, n ≤ 100000], bl (decide (sdE n (col 0 f) (col 1 f) lo hi = 0) && (decide (-400 ≤ lo) && decide (hi ≤ 400))))
  | _ => none
def S_tabled : Sx.Spec := fun l => match l with
  | [.lst 2 n f, .agg [.x (.int .i64 lo), .x (.int .i64 hi)]] => some ([isRec 2 n f], bl (decide (n ≤ 8) && (itB n (col 0 f) (col 1 f) && insB (col 0 f 0) lo hi (col 0 f (n - 1)))))
  | _ => none


theorem ready_ok : SoundSpec Try.prog 37 S_ready := by
  refine ⟨⟨_, Try.func37, by kernel_rfl, by kernel_rfl⟩, ?_⟩
  intro avs ns res h hn
  unfold S_ready at h
  split at h
  · rename_i n f lo hi
    cases h
    have hr : isRec 2 n f := hn _ (by simp)
    exact (ready_at n (col 0 f) (col 1 f) lo hi (hn _ (by simp))).same (.cons (.lst 2 n _ _ hr) (.cons (.refl _) .nil))
  · cases h


theorem tabled_ok : SoundSpec Try.prog 39 S_tabled := by
  refine ⟨⟨_, Try.func39, by kernel_rfl, by kernel_rfl⟩, ?_⟩
  intro avs ns res h hn
  unfold S_tabled at h
  split at h
  · rename_i n f lo hi
    cases h
    have hr : isRec 2 n f := hn _ (by simp)
    exact (tabled_at n (col 0 f) (col 1 f) lo hi).same (.cons (.lst 2 n _ _ hr) (.cons (.refl _) .nil))
  · cases h


/-- The numbers below n at which p is not so. -/
def wrL (p : Nat → Bool) : Nat → List Int
  | 0 => []
  | k + 1 => if p k then wrL p k else wrL p k ++ [(k : Int)]
theorem wrL_len (p : Nat → Bool) : ∀ n, (wrL p n).length ≤ n
  | 0 => by simp [wrL]
  | n + 1 => by
    have := wrL_len p n
    unfold wrL
    split
    · omega
    · simp; omega
def nthI (l : List Int) (j : Nat) : Int := l.getD j 0
abbrev inl (l : List Int) : AV := .lst 1 l.length (fun j => [i (nthI l j)])
theorem catFl {l : List Int} {j : Nat} {x : Int} (h : j < l.length + 1) : catF l.length (fun j => [i (nthI l j)]) (chunk 1 [i x]) j = [i (nthI (l ++ [x]) j)] := by
  have e : j - l.length = 0 := by omega
  show mergeL (decide (j < l.length)) [i (nthI l j)] (chunk 1 [i x] (j - l.length)) = _
  rw [e]
  by_cases hj : j < l.length
  · rw [show decide (j < l.length) = true by simp [hj]]
    have e2 : nthI (l ++ [x]) j = nthI l j := by simp [nthI, List.getD, List.getElem?_append, hj]
    rw [e2]
    rfl
  · have hk : j = l.length := by omega
    rw [show decide (j < l.length) = false by simp [hj]]
    have e2 : nthI (l ++ [x]) j = x := by simp [nthI, List.getD, hk]
    rw [e2]
    rfl

noncomputable def E_rw (a b : Int) (n : Nat) (r u v : Nat → Int) : St := (some
  {
    σ :=
      [AV.agg [AV.x (Value.int IntKind.i64 a), AV.x (Value.int IntKind.i64 b)],
        AV.lst (3 : Nat) n fun k =>
          [AV.x (Value.int IntKind.i64 (r k)), AV.x (Value.int IntKind.i64 (u k)), AV.x (Value.int IntKind.i64 (v k))],
        AV.ptr (0 : Nat) (0 : Nat), AV.top, AV.x (Value.slice none (0 : Nat) (0 : Nat)), AV.top, AV.top, AV.top, AV.top,
        AV.top, AV.top, AV.top, AV.top, AV.top, AV.top, AV.top, AV.top, AV.top, AV.top, AV.top, AV.top, AV.top, AV.top,
        AV.top, AV.top],
    m :=
      [((900 : Nat), Res.row (3 : Nat) (1 : Nat) (0 : Nat) fun x => []),
        ((0 : Nat), Res.cells (40 : Nat) [AV.x (Value.int IntKind.i64 a), AV.x (Value.int IntKind.i64 b)])],
    nx := (901 : Nat) } : Option St).getD { σ := [], m := [], nx := 0 }
noncomputable def B_rw : Code := loopBody (loopAt (bodyOf Try.f47) 0)
noncomputable def inv_rw (a b : Int) (n : Nat) (r u v : Nat → Int) (k : Nat) : St := { σ := ovrS [(5, .row 900), (6, i k)] (E_rw a b n r u v).σ, m := [(900, .row 3 1 (wrL (fun k => exB a b (r k) (u k) (v k)) k).length (fun j => [i (nthI (wrL (fun k => exB a b (r k) (u k) (v k)) k) j)])), (0, .cells 40 [i a, i b])], nx := (E_rw a b n r u v).nx }
noncomputable def out_rw (a b : Int) (n : Nat) (r u v : Nat → Int) (k : Nat) : AEx → Option St := fun ex => match ex with
  | .exit 0 => some { σ := ovrS [(5, .row 900)] (E_rw a b n r u v).σ, m := [(900, .row 3 1 (wrL (fun k => exB a b (r k) (u k) (v k)) n).length (fun j => [i (nthI (wrL (fun k => exB a b (r k) (u k) (v k)) n) j)])), (0, .cells 40 [i a, i b])], nx := (E_rw a b n r u v).nx }
  | _ => none
noncomputable def T_rw (a b : Int) (n : Nat) (r u v : Nat → Int) : CT := .leaf (.exit 0, ( out_rw a b n r u v 0 (.exit 0)).getD (E_rw a b n r u v))
noncomputable def LS_rw (a b : Int) (n : Nat) (r u v : Nat → Int) : LSpec := normSp [(.slot 5, 900, 3, 1)] (sumL (inv_rw a b n r u v (0)) (T_rw a b n r u v))
set_option maxRecDepth 100000 in
theorem rw_ls (a b : Int) (n : Nat) (r u v : Nat → Int) (pre0 : n ≤ 100000) (pre1 : -1000 ≤ a ∧ a ≤ 1000 ∧ -1000 ≤ b ∧ b ≤ 1000 ∧ a ≠ b) (pre2 : allI (fun k => enB (r k) (u k) (v k)) n = true) : LSound Try.prog (.loop B_rw) (LS_rw a b n r u v) := by
  refine loop_roundsN [(.slot 5, 900, 3, 1)] (G := [(76, S_rExplains)]) (L := []) (SoundG.cons rExplains_ok (SoundG.nil _)) mixed noLoops (X := Nat) (inv_rw a b n r u v) (fun k => k ≤ n) (fun k => n - k) (out_rw a b n r u v) (x0 := 0) (by simp) ?_ ?_ ?_
  · rintro k
    kernel_rfl
  · rintro k y E h
    unfold out_rw at h
    split at h
    · cases h; kernel_rfl
    · cases h
  · rintro Q hQ k hx
    refine ⟨(k + 1), ?_⟩
    have e : roundN Try.prog [(76, S_rExplains)] [] [(.slot 5, 900, 3, 1)] B_rw (inv_rw a b n r u v k) (inv_rw a b n r u v ((k + 1))) (out_rw a b n r u v k) = (Tree.branch (decide ((↑k : Int) < (↑n : Int))) (Tree.need [(0 : Int) ≤ (↑k : Int) ∧ (↑k : Int) < (↑n : Int)] (Tree.need [(-1000 : Int) ≤ a ∧ a ≤ (1000 : Int) ∧ (-1000 : Int) ≤ b ∧ b ≤ (1000 : Int) ∧ a ≠ b, (-1000000 : Int) ≤ r (Int.toNat (↑k : Int)) ∧ r (Int.toNat (↑k : Int)) ≤ (1000000 : Int) ∧ (-100000 : Int) ≤ u (Int.toNat (↑k : Int)) ∧ u (Int.toNat (↑k : Int)) ≤ v (Int.toNat (↑k : Int)) ∧ v (Int.toNat (↑k : Int)) ≤ (100000 : Int)] (Tree.branch (!exB a b (r (Int.toNat (↑k : Int))) (u (Int.toNat (↑k : Int))) (v (Int.toNat (↑k : Int)))) (Tree.need [(List.length (wrL (fun k => exB a b (r k) (u k) (v k)) k) + 1) * 8 ≤ 140737488355328, ∀ (i : Nat), i < 1 → ∀ (a : AV), a ∈ chunk 1 [iI (↑k : Int)] i → AV.one a = true] (Tree.need [inI64 ((↑k : Int) + (1 : Int))] (Tree.need [AV.agg [iI a, iI b] = AV.agg [iI a, iI b], (AV.lst 3 n fun k => [iI (r k), iI (u k), iI (v k)]) = AV.lst 3 n fun k => [iI (r k), iI (u k), iI (v k)], AV.ptr 0 0 = AV.ptr 0 0, AV.x (Value.slice none 0 0) = AV.x (Value.slice none 0 0), AV.row 900 = AV.row 900, (↑k : Int) + (1 : Int) = (↑(k + 1) : Int), List.length (wrL (fun k => exB a b (r k) (u k) (v k)) k) + 1 = List.length (wrL (fun k => exB a b (r k) (u k) (v k)) (k + 1)), ∀ (i : Nat), i < List.length (wrL (fun k => exB a b (r k) (u k) (v k)) (k + 1)) → catF (List.length (wrL (fun k => exB a b (r k) (u k) (v k)) k)) (fun j => [Ytchcegfhamngkaa.i (nthI (wrL (fun k => exB a b (r k) (u k) (v k)) k) j)]) (chunk 1 [iI (↑k : Int)]) i = [Ytchcegfhamngkaa.i (nthI (wrL (fun k => exB a b (r k) (u k) (v k)) (k + 1)) i)], a = a, b = b] (Tree.leaf AEx.normal)))) (Tree.need [inI64 ((↑k : Int) + (1 : Int))] (Tree.need [AV.agg [iI a, iI b] = AV.agg [iI a, iI b], (AV.lst 3 n fun k => [iI (r k), iI (u k), iI (v k)]) = AV.lst 3 n fun k => [iI (r k), iI (u k), iI (v k)], AV.ptr 0 0 = AV.ptr 0 0, AV.x (Value.slice none 0 0) = AV.x (Value.slice none 0 0), AV.row 900 = AV.row 900, (↑k : Int) + (1 : Int) = (↑(k + 1) : Int), List.length (wrL (fun k => exB a b (r k) (u k) (v k)) k) = List.length (wrL (fun k => exB a b (r k) (u k) (v k)) (k + 1)), ∀ (i : Nat), i < List.length (wrL (fun k => exB a b (r k) (u k) (v k)) (k + 1)) → [Ytchcegfhamngkaa.i (nthI (wrL (fun k => exB a b (r k) (u k) (v k)) k) i)] = [Ytchcegfhamngkaa.i (nthI (wrL (fun k => exB a b (r k) (u k) (v k)) (k + 1)) i)], a = a, b = b] (Tree.leaf AEx.normal)))))) (Tree.need [AV.agg [iI a, iI b] = AV.agg [iI a, iI b], (AV.lst 3 n fun k => [iI (r k), iI (u k), iI (v k)]) = AV.lst 3 n fun k => [iI (r k), iI (u k), iI (v k)], AV.ptr 0 0 = AV.ptr 0 0, AV.x (Value.slice none 0 0) = AV.x (Value.slice none 0 0), AV.row 900 = AV.row 900, List.length (wrL (fun k => exB a b (r k) (u k) (v k)) k) = List.length (wrL (fun k => exB a b (r k) (u k) (v k)) n), ∀ (i : Nat), i < List.length (wrL (fun k => exB a b (r k) (u k) (v k)) n) → [Ytchcegfhamngkaa.i (nthI (wrL (fun k => exB a b (r k) (u k) (v k)) k) i)] = [Ytchcegfhamngkaa.i (nthI (wrL (fun k => exB a b (r k) (u k) (v k)) n) i)], a = a, b = b] (Tree.leaf (AEx.exit 0)))) := by kernel_rfl
    rw [e]
    simp only [T_rw, out_rw, Tree.sat, Option.getD_some] at hQ
    have hE : ∀ j, j < n → enB (r j) (u j) (v j) = true := allI_iff.1 pre2
    have hl := wrL_len (fun k => exB a b (r k) (u k) (v k)) k
    simp only [Tree.sat, allP, fitP, fitL, valEq, inI64, true_and, and_true, decide_eq_true_eq, decide_eq_false_iff_not, Int.natCast_zero, Int.toNat_natCast, out_rw]
    clear e
    refine ⟨fun h => ?_, fun h => ?_⟩
    · have hen := enB_bd (hE k (by omega))
      refine ⟨by omega, by omega, fun h2 => ?_, fun h2 => ?_⟩
      · have h2' : exB a b (r k) (u k) (v k) = false := by simpa using h2
        have e3 : wrL (fun k => exB a b (r k) (u k) (v k)) (k + 1) = wrL (fun k => exB a b (r k) (u k) (v k)) k ++ [(k : Int)] := by simp [wrL, h2']
        rw [e3]
        simp only [List.length_append, List.length_cons, List.length_nil]
        repeat' first | with_reducible apply And.intro | with_reducible intro _
        all_goals first | exact True.intro | omega | with_reducible rfl | exact catFl (by omega) | (rename_i hm; exact one_of hm (by simp [AV.one, Value.oneCell']))
      · have h2' : exB a b (r k) (u k) (v k) = true := by simpa using h2
        have e3 : wrL (fun k => exB a b (r k) (u k) (v k)) (k + 1) = wrL (fun k => exB a b (r k) (u k) (v k)) k := by simp [wrL, h2']
        rw [e3]
        repeat' first | with_reducible apply And.intro | with_reducible intro _
        all_goals first | exact True.intro | omega | with_reducible rfl
    · have hk : k = n := by omega
      subst hk
      refine ⟨⟨rfl, fun j hj => rfl⟩, fun E hE => ?_⟩
      cases hE
      exact hQ

set_option maxRecDepth 100000 in
theorem rWrong_at (a b : Int) (n : Nat) (r u v : Nat → Int) (pre0 : n ≤ 100000) (pre1 : -1000 ≤ a ∧ a ≤ 1000 ∧ -1000 ≤ b ∧ b ≤ 1000 ∧ a ≠ b) (pre2 : allI (fun k => enB (r k) (u k) (v k)) n = true) : SoundAt Try.prog 47 [.agg [i a, i b], ens n r u v] (inl (wrL (fun k => exB a b (r k) (u k) (v k)) n)) := by
  refine soundAt_fin (G := [(76, S_rExplains)]) (L := [LS_rw a b n r u v]) (SoundG.cons rExplains_ok (SoundG.nil _)) mixed Try.func47 (show Try.f47.body = some (bodyOf Try.f47) by kernel_rfl) (one_loop (fun cj hcj => by
    have e : loopAt (bodyOf Try.f47) 0 = some (.loop B_rw) := by kernel_rfl
    rw [e] at hcj; cases hcj
    exact rw_ls a b n r u v pre0 pre1 pre2)) (t := (Tree.need [AV.agg [iI a, iI b] = AV.agg [iI a, iI b], (AV.lst 3 n fun k => [iI (r k), iI (u k), iI (v k)]) = AV.lst 3 n fun k => [iI (r k), iI (u k), iI (v k)], AV.ptr 0 0 = AV.ptr 0 0, AV.x (Value.slice none 0 0) = AV.x (Value.slice none 0 0), AV.row 900 = AV.row 900, (0 : Int) = (↑(0 : Nat) : Int), 0 = List.length (wrL (fun k => exB a b (r k) (u k) (v k)) 0), ∀ (i : Nat), i < List.length (wrL (fun k => exB a b (r k) (u k) (v k)) 0) → [] = [Ytchcegfhamngkaa.i (nthI (wrL (fun k => exB a b (r k) (u k) (v k)) 0) i)], a = a, b = b] (Tree.leaf (RV.lst 1 (List.length (wrL (fun k => exB a b (r k) (u k) (v k)) n)) fun j => [iI (nthI (wrL (fun k => exB a b (r k) (u k) (v k)) n) j)])))) (by kernel_rfl) ?_
  simp only [Tree.sat, allP, fitP, fitL, valEq, inI64, true_and, and_true, decide_eq_true_eq, decide_eq_false_iff_not, Int.natCast_zero, Int.toNat_natCast, List.mem_cons, List.not_mem_nil, or_false, isX, wrL, List.length_nil, Nat.not_lt_zero]
  repeat' first | with_reducible apply And.intro | with_reducible intro _
  all_goals first | exact True.intro | omega | with_reducible rfl | (rename_i hm; rcases hm with rfl | rfl <;> exact True.intro) | (rename_i hm; rcases hm with rfl | rfl | rfl <;> exact True.intro) | (rename_i hm; subst hm; exact True.intro)

end Go.Proofs.Ytchcegfhamngkaa
