/- Contracts of functions of the program, by the engine Sx: what each call comes to. Printed by a program of this repo (sxgen.py). -/
import Derived.Test.YtchcegfhamngkaaPtF
set_option linter.unusedSimpArgs false
set_option linter.unusedVariables false
namespace Go.Proofs.Ytchcegfhamngkaa
open Go Go.Sx Go.RowKit

/-- The reference's way through scales. -/
def rth (a b : Nat → Int) : Nat → Nat → Int → Int → Bool × Int × Int
  | 0, _, lo, hi => (true, lo, hi)
  | m + 1, k, lo, hi => if insB (-1000000) (stLo (a k) (b k) (a (k + 1)) (b (k + 1)) lo hi) (stHi (a k) (b k) (a (k + 1)) (b (k + 1)) lo hi) 1000000 then
      rth a b m (k + 1) (stLo (a k) (b k) (a (k + 1)) (b (k + 1)) lo hi) (stHi (a k) (b k) (a (k + 1)) (b (k + 1)) lo hi)
    else (false, stLo (a k) (b k) (a (k + 1)) (b (k + 1)) lo hi, stHi (a k) (b k) (a (k + 1)) (b (k + 1)) lo hi)
theorem thr_rth (a b : Nat → Int) : ∀ (m k : Nat) (lo hi : Int), insB (-1000000) lo hi 1000000 = true → thr a b m k lo hi = if (rth a b m k lo hi).1 then some (rth a b m k lo hi).2 else none := by
  intro m
  induction m with
  | zero => intro k lo hi h; simp [thr, rth, h]
  | succ m ih =>
    intro k lo hi h
    unfold thr rth
    rw [if_pos h]
    by_cases h2 : insB (-1000000) (stLo (a k) (b k) (a (k + 1)) (b (k + 1)) lo hi) (stHi (a k) (b k) (a (k + 1)) (b (k + 1)) lo hi) 1000000 = true
    · rw [if_pos h2]; exact ih _ _ _ h2
    · rw [if_neg h2]
      simp only [Bool.not_eq_true] at h2
      cases m <;> simp [thr, h2]

noncomputable def E_rt (n : Nat) (a b : Nat → Int) (lo hi : Int) : St := (some
  {
    σ :=
      [AV.lst (2 : Nat) n fun k => [AV.x (Value.int IntKind.i64 (a k)), AV.x (Value.int IntKind.i64 (b k))],
        AV.agg [AV.x (Value.int IntKind.i64 lo), AV.x (Value.int IntKind.i64 hi)], AV.top, AV.ptr (0 : Nat) (0 : Nat),
        AV.ptr (1 : Nat) (0 : Nat), AV.top, AV.top, AV.top, AV.top, AV.top, AV.top, AV.top, AV.top, AV.top, AV.top,
        AV.top, AV.top, AV.top, AV.top, AV.top, AV.top, AV.top, AV.top, AV.top, AV.top, AV.top, AV.top, AV.top, AV.top],
    m :=
      [((1 : Nat),
          Res.cells (24 : Nat) [AV.x (Value.int IntKind.i64 (0 : Int)), AV.x (Value.int IntKind.i64 (0 : Int))]),
        ((0 : Nat), Res.cells (24 : Nat) [AV.x (Value.int IntKind.i64 lo), AV.x (Value.int IntKind.i64 hi)])],
    nx := (4 : Nat) } : Option St).getD { σ := [], m := [], nx := 0 }
noncomputable def B_rt : Code := loopBody (loopAt (bodyOf Try.f21) 0)
noncomputable def inv_rt (n : Nat) (a b : Nat → Int) (lo hi : Int) (k : Nat) (l h : Int) : St := { σ := ovrS [(6, i k)] (E_rt n a b lo hi).σ, m := [(1, .cells 24 [i 0, i 0]), (0, .cells 24 [i l, i h])], nx := (E_rt n a b lo hi).nx }
noncomputable def out_rt (n : Nat) (a b : Nat → Int) (lo hi : Int) (k : Nat) (l h : Int) : AEx → Option St := fun ex => match ex with
  | .exit 0 => some { σ := ovrS [] (E_rt n a b lo hi).σ, m := [(1, .cells 24 [i 0, i 0]), (0, .cells 24 [i (rth a b (n - 1) 0 lo hi).2.1, i (rth a b (n - 1) 0 lo hi).2.2])], nx := (E_rt n a b lo hi).nx }
  | .ret => some { σ := ovrS [(5, .lit false)] (E_rt n a b lo hi).σ, m := [(1, .cells 24 [i (rth a b (n - 1) 0 lo hi).2.1, i (rth a b (n - 1) 0 lo hi).2.2])], nx := (E_rt n a b lo hi).nx }
  | _ => none
noncomputable def T_rt (n : Nat) (a b : Nat → Int) (lo hi : Int) : CT := .branch (rth a b (n - 1) 0 lo hi).1 (.leaf (.exit 0, ( out_rt n a b lo hi 0 0 0 (.exit 0)).getD (E_rt n a b lo hi))) (.leaf (.ret, ( out_rt n a b lo hi 0 0 0 .ret).getD (E_rt n a b lo hi)))
noncomputable def LS_rt (n : Nat) (a b : Nat → Int) (lo hi : Int) : LSpec := (sumL (inv_rt n a b lo hi (1) (lo) (hi)) (T_rt n a b lo hi))
set_option maxRecDepth 100000 in
theorem rt_ls (n : Nat) (a b : Nat → Int) (lo hi : Int) (pre0 : n ≤ 100000) (pre1 : allS n a b = true) (pre2 : insB (-1000000) lo hi 1000000 = true) : LSound Try.prog (.loop B_rt) (LS_rt n a b lo hi) := by
  refine loop_rounds (G := [(24, S_rStands), (25, S_rAreReadings)]) (L := []) (SoundG.cons rStands_ok (SoundG.cons rAreReadings_ok (SoundG.nil _))) mixed noLoops (X := Nat × Int × Int) (fun x => inv_rt n a b lo hi x.1 x.2.1 x.2.2) (fun x => (fun (k : Nat) (l h : Int) => 1 ≤ k ∧ (k ≤ n ∨ k = 1) ∧ insB (-1000000) l h 1000000 = true ∧ rth a b (n - k) (k - 1) l h = rth a b (n - 1) 0 lo hi) x.1 x.2.1 x.2.2) (fun x => (fun (k : Nat) (l h : Int) => n - k) x.1 x.2.1 x.2.2) (fun x => out_rt n a b lo hi x.1 x.2.1 x.2.2) (x0 := (1, lo, hi)) (by dsimp only; exact ⟨by omega, .inr rfl, pre2, rfl⟩) ?_ ?_ ?_
  · rintro ⟨k, l, h⟩
    kernel_rfl
  · rintro ⟨k, l, h⟩ y E h
    dsimp only at h
    unfold out_rt at h
    split at h
    · cases h; kernel_rfl
    · cases h; kernel_rfl
    · cases h
  · rintro Q hQ ⟨k, l, h⟩ hx
    refine ⟨(k + 1, stLo (a (k - 1)) (b (k - 1)) (a k) (b k) l h, stHi (a (k - 1)) (b (k - 1)) (a k) (b k) l h), ?_⟩
    dsimp only at hx ⊢
    have e : roundT Try.prog [(24, S_rStands), (25, S_rAreReadings)] [] B_rt (inv_rt n a b lo hi k l h) (inv_rt n a b lo hi (k + 1) (stLo (a (k - 1)) (b (k - 1)) (a k) (b k) l h) (stHi (a (k - 1)) (b (k - 1)) (a k) (b k) l h)) (out_rt n a b lo hi k l h) = (Tree.branch (decide ((↑k : Int) < (↑n : Int))) (Tree.need [inI64 ((↑k : Int) - (1 : Int))] (Tree.need [(0 : Int) ≤ (↑k : Int) - (1 : Int) ∧ (↑k : Int) - (1 : Int) < (↑n : Int)] (Tree.need [(0 : Int) ≤ (↑k : Int) ∧ (↑k : Int) < (↑n : Int)] (Tree.need [(-1000 : Int) ≤ a (Int.toNat ((↑k : Int) - (1 : Int))) ∧ a (Int.toNat ((↑k : Int) - (1 : Int))) ≤ (1000 : Int) ∧ (-1000 : Int) ≤ b (Int.toNat ((↑k : Int) - (1 : Int))) ∧ b (Int.toNat ((↑k : Int) - (1 : Int))) ≤ (1000 : Int) ∧ a (Int.toNat ((↑k : Int) - (1 : Int))) ≠ b (Int.toNat ((↑k : Int) - (1 : Int))), (-1000 : Int) ≤ a (Int.toNat (↑k : Int)) ∧ a (Int.toNat (↑k : Int)) ≤ (1000 : Int) ∧ (-1000 : Int) ≤ b (Int.toNat (↑k : Int)) ∧ b (Int.toNat (↑k : Int)) ≤ (1000 : Int) ∧ a (Int.toNat (↑k : Int)) ≠ b (Int.toNat (↑k : Int)), (-1000000 : Int) ≤ l ∧ l ≤ h ∧ h ≤ (1000000 : Int)] (Tree.branch (!insB (-1000000 : Int) (stLo (a (Int.toNat ((↑k : Int) - (1 : Int)))) (b (Int.toNat ((↑k : Int) - (1 : Int)))) (a (Int.toNat (↑k : Int))) (b (Int.toNat (↑k : Int))) l h) (stHi (a (Int.toNat ((↑k : Int) - (1 : Int)))) (b (Int.toNat ((↑k : Int) - (1 : Int)))) (a (Int.toNat (↑k : Int))) (b (Int.toNat (↑k : Int))) l h) (1000000 : Int)) (Tree.need [(AV.lst 2 n fun k => [iI (a k), iI (b k)]) = AV.lst 2 n fun k => [iI (a k), iI (b k)], AV.agg [iI lo, iI hi] = AV.agg [iI lo, iI hi], AV.ptr 0 0 = AV.ptr 0 0, AV.ptr 1 0 = AV.ptr 1 0, AV.lit false = AV.lit false, stLo (a (Int.toNat ((↑k : Int) - (1 : Int)))) (b (Int.toNat ((↑k : Int) - (1 : Int)))) (a (Int.toNat (↑k : Int))) (b (Int.toNat (↑k : Int))) l h = Prod.fst (Prod.snd (rth a b (n - 1) 0 lo hi)), stHi (a (Int.toNat ((↑k : Int) - (1 : Int)))) (b (Int.toNat ((↑k : Int) - (1 : Int)))) (a (Int.toNat (↑k : Int))) (b (Int.toNat (↑k : Int))) l h = Prod.snd (Prod.snd (rth a b (n - 1) 0 lo hi))] (Tree.leaf AEx.ret)) (Tree.need [inI64 ((↑k : Int) + (1 : Int))] (Tree.need [(AV.lst 2 n fun k => [iI (a k), iI (b k)]) = AV.lst 2 n fun k => [iI (a k), iI (b k)], AV.agg [iI lo, iI hi] = AV.agg [iI lo, iI hi], AV.ptr 0 0 = AV.ptr 0 0, AV.ptr 1 0 = AV.ptr 1 0, (↑k : Int) + (1 : Int) = (↑(k + 1) : Int), (0 : Int) = (0 : Int), (0 : Int) = (0 : Int), stLo (a (Int.toNat ((↑k : Int) - (1 : Int)))) (b (Int.toNat ((↑k : Int) - (1 : Int)))) (a (Int.toNat (↑k : Int))) (b (Int.toNat (↑k : Int))) l h = stLo (a (k - 1)) (b (k - 1)) (a k) (b k) l h, stHi (a (Int.toNat ((↑k : Int) - (1 : Int)))) (b (Int.toNat ((↑k : Int) - (1 : Int)))) (a (Int.toNat (↑k : Int))) (b (Int.toNat (↑k : Int))) l h = stHi (a (k - 1)) (b (k - 1)) (a k) (b k) l h] (Tree.leaf AEx.normal)))))))) (Tree.need [(AV.lst 2 n fun k => [iI (a k), iI (b k)]) = AV.lst 2 n fun k => [iI (a k), iI (b k)], AV.agg [iI lo, iI hi] = AV.agg [iI lo, iI hi], AV.ptr 0 0 = AV.ptr 0 0, AV.ptr 1 0 = AV.ptr 1 0, (0 : Int) = (0 : Int), (0 : Int) = (0 : Int), l = Prod.fst (Prod.snd (rth a b (n - 1) 0 lo hi)), h = Prod.snd (Prod.snd (rth a b (n - 1) 0 lo hi))] (Tree.leaf (AEx.exit 0)))) := by kernel_rfl
    rw [e]
    obtain ⟨x1, x2, x3, x4⟩ := hx
    have hA : ∀ j, j < n → scB (a j) (b j) = true := allI_iff.1 pre1
    have t1 : ((k : Int) - 1).toNat = k - 1 := by omega
    simp only [T_rt, out_rt, Tree.sat, Option.getD_some] at hQ
    simp only [Tree.sat, allP, true_and, and_true, decide_eq_true_eq, decide_eq_false_iff_not, inI64, out_rt, Int.toNat_natCast, t1]
    refine ⟨fun h1 => ?_, fun h1 => ?_⟩
    · have hk : k < n := by omega
      obtain ⟨m, hm⟩ : ∃ m, n - k = m + 1 := ⟨n - k - 1, by omega⟩
      have hm' : n - (k + 1) = m := by omega
      have b1 := scB_bd (hA (k - 1) (by omega))
      have b2 := scB_bd (hA k hk)
      have b3 := (insB_iff _ _ _ _).1 x3
      rw [hm] at x4
      simp only [rth, show k - 1 + 1 = k by omega] at x4
      refine ⟨by omega, by omega, by omega, ⟨b1, b2, b3⟩, fun h2 => ?_, fun h2 => ?_⟩
      · have h2' : insB (-1000000) (stLo (a (k - 1)) (b (k - 1)) (a k) (b k) l h) (stHi (a (k - 1)) (b (k - 1)) (a k) (b k) l h) 1000000 = false := by simpa using h2
        rw [if_neg (by simp [h2'])] at x4
        rw [← x4]
        refine ⟨⟨rfl, rfl⟩, fun E hE => ?_⟩
        rw [← x4] at hQ
        cases hE
        exact hQ.2 rfl
      · have h2' : insB (-1000000) (stLo (a (k - 1)) (b (k - 1)) (a k) (b k) l h) (stHi (a (k - 1)) (b (k - 1)) (a k) (b k) l h) 1000000 = true := by simpa using h2
        rw [if_pos h2'] at x4
        refine ⟨by omega, by omega, ⟨by omega, by omega, h2', ?_⟩, by omega⟩
        rw [hm']
        exact x4
    · have hk : n - k = 0 := by omega
      rw [hk] at x4
      simp only [rth] at x4
      rw [← x4]
      refine ⟨⟨rfl, rfl⟩, fun E hE => ?_⟩
      rw [← x4] at hQ
      cases hE
      exact hQ.1 rfl

set_option maxRecDepth 100000 in
theorem rThrough_at (n : Nat) (a b : Nat → Int) (lo hi : Int) (pre0 : n ≤ 100000) (pre1 : allS n a b = true) (pre2 : insB (-1000000) lo hi 1000000 = true) : SoundAt Try.prog 21 [scs n a b, .agg [i lo, i hi]] (.tup [.agg [i (rth a b (n - 1) 0 lo hi).2.1, i (rth a b (n - 1) 0 lo hi).2.2], bl (rth a b (n - 1) 0 lo hi).1]) := by
  refine soundAt_fin (G := [(24, S_rStands), (25, S_rAreReadings)]) (L := [LS_rt n a b lo hi]) (SoundG.cons rStands_ok (SoundG.cons rAreReadings_ok (SoundG.nil _))) mixed Try.func21 (show Try.f21.body = some (bodyOf Try.f21) by kernel_rfl) (one_loop (fun cj hcj => by
    have e : loopAt (bodyOf Try.f21) 0 = some (.loop B_rt) := by kernel_rfl
    rw [e] at hcj; cases hcj
    exact rt_ls n a b lo hi pre0 pre1 pre2)) (t := (Tree.need [(AV.lst 2 n fun k => [iI (a k), iI (b k)]) = AV.lst 2 n fun k => [iI (a k), iI (b k)], AV.agg [iI lo, iI hi] = AV.agg [iI lo, iI hi], AV.ptr 0 0 = AV.ptr 0 0, AV.ptr 1 0 = AV.ptr 1 0, (1 : Int) = (↑(1 : Nat) : Int), (0 : Int) = (0 : Int), (0 : Int) = (0 : Int), lo = lo, hi = hi] (Tree.branch (Prod.fst (rth a b (n - 1) 0 lo hi)) (Tree.leaf (RV.tup [RV.agg [RV.x (Value.int IntKind.i64 (Prod.fst (Prod.snd (rth a b (n - 1) 0 lo hi)))), RV.x (Value.int IntKind.i64 (Prod.snd (Prod.snd (rth a b (n - 1) 0 lo hi))))], RV.x (Value.bool true)])) (Tree.leaf (RV.tup [RV.agg [RV.x (Value.int IntKind.i64 (Prod.fst (Prod.snd (rth a b (n - 1) 0 lo hi)))), RV.x (Value.int IntKind.i64 (Prod.snd (Prod.snd (rth a b (n - 1) 0 lo hi))))], RV.x (Value.bool false)]))))) (by kernel_rfl) ?_
  simp only [Tree.sat, allP, fitP, fitL, valEq, true_and, and_true]
  simp +contextual


def S_rThrough : Sx.Spec := fun l => match l with
  | [.lst 2 n f, .agg [.x (.int .i64 lo), .x (.int .i64 hi)]] => some ([isRec 2 n f, n ≤ 100000, allS n (col 0 f) (col 1 f) = true, insB (-1000000) lo hi 1000000 = true], .tup [.agg [i (rth (col 0 f) (col 1 f) (n - 1) 0 lo hi).2.1, i (rth (col 0 f) (col 1 f) (n - 1) 0 lo hi).2.2], bl (rth (col 0 f) (col 1 f) (n - 1) 0 lo hi).1])
  | _ => none


theorem rThrough_ok : SoundSpec Try.prog 21 S_rThrough := by
  refine ⟨⟨_, Try.func21, by kernel_rfl, by kernel_rfl⟩, ?_⟩
  intro avs ns res h hn
  unfold S_rThrough at h
  split at h
  · rename_i n f lo hi
    cases h
    have hr : isRec 2 n f := hn _ (by simp)
    exact (rThrough_at n (col 0 f) (col 1 f) lo hi (hn _ (by simp)) (hn _ (by simp)) (hn _ (by simp))).same (.cons (.lst 2 n _ _ hr) (.cons (.refl _) .nil))
  · cases h

end Go.Proofs.Ytchcegfhamngkaa
