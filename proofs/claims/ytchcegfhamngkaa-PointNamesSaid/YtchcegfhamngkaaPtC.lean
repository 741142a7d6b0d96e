/- Contracts of functions of the program, by the engine Sx: what each call comes to. Printed by a program of this repo (sxgen.py). -/
import Derived.Test.YtchcegfhamngkaaPtB
import Derived.Test.YtchcegfhamngkaaSxQ
set_option linter.unusedSimpArgs false
set_option linter.unusedVariables false
namespace Go.Proofs.Ytchcegfhamngkaa
open Go Go.Sx Go.RowKit

def S_sMin : Sx.Spec := fun l => match l with
  | [.lst 1 2 f] => (match f 0, f 1 with
    | [.x (.int .i64 a)], [.x (.int .i64 b)] => some ([], i (min a b))
    | _, _ => none)
  | _ => none


theorem sMin_ok : SoundSpec Try.prog 81 S_sMin := by
  refine ⟨⟨_, Try.func81, by kernel_rfl, by kernel_rfl⟩, ?_⟩
  intro avs ns res h hn
  unfold S_sMin at h
  split at h
  · rename_i f
    split at h
    · rename_i a b h0 h1
      cases h
      refine (sMin_at a b).same (.cons (.lst 1 2 _ _ ?_) .nil)
      intro k hk
      rcases (show k = 0 ∨ k = 1 by omega) with rfl | rfl
      · exact h0
      · exact h1
    · cases h
  · cases h


def S_sMax : Sx.Spec := fun l => match l with
  | [.lst 1 2 f] => (match f 0, f 1 with
    | [.x (.int .i64 a)], [.x (.int .i64 b)] => some ([], i (max a b))
    | _, _ => none)
  | _ => none


theorem sMax_ok : SoundSpec Try.prog 82 S_sMax := by
  refine ⟨⟨_, Try.func82, by kernel_rfl, by kernel_rfl⟩, ?_⟩
  intro avs ns res h hn
  unfold S_sMax at h
  split at h
  · rename_i f
    split at h
    · rename_i a b h0 h1
      cases h
      refine (sMax_at a b).same (.cons (.lst 1 2 _ _ ?_) .nil)
      intro k hk
      rcases (show k = 0 ∨ k = 1 by omega) with rfl | rfl
      · exact h0
      · exact h1
    · cases h
  · cases h

set_option maxRecDepth 100000 in
theorem least_at (a b : Int) : SoundAt Try.prog 65 [.lst 1 2 (fun k => [i (if k = 0 then a else b)])] (i (min a b)) := by
  refine soundAt_fin (G := [(81, S_sMin)]) (L := []) (SoundG.cons sMin_ok (SoundG.nil _)) mixed Try.func65 (show Try.f65.body = some (bodyOf Try.f65) by kernel_rfl) noLoops (t := (Tree.leaf (RV.x (Value.int IntKind.i64 (min (if 0 = 0 then a else b) (if 1 = 0 then a else b)))))) (by kernel_rfl) ?_
  simp [Tree.sat, fitP, valEq]


def S_least : Sx.Spec := S_sMin


theorem least_ok : SoundSpec Try.prog 65 S_least := by
  refine ⟨⟨_, Try.func65, by kernel_rfl, by kernel_rfl⟩, ?_⟩
  intro avs ns res h hn
  unfold S_least S_sMin at h
  split at h
  · rename_i f
    split at h
    · rename_i a b h0 h1
      cases h
      refine (least_at a b).same (.cons (.lst 1 2 _ _ ?_) .nil)
      intro k hk
      rcases (show k = 0 ∨ k = 1 by omega) with rfl | rfl
      · exact h0
      · exact h1
    · cases h
  · cases h

set_option maxRecDepth 100000 in
theorem greatest_at (a b : Int) : SoundAt Try.prog 66 [.lst 1 2 (fun k => [i (if k = 0 then a else b)])] (i (max a b)) := by
  refine soundAt_fin (G := [(82, S_sMax)]) (L := []) (SoundG.cons sMax_ok (SoundG.nil _)) mixed Try.func66 (show Try.f66.body = some (bodyOf Try.f66) by kernel_rfl) noLoops (t := (Tree.leaf (RV.x (Value.int IntKind.i64 (max (if 0 = 0 then a else b) (if 1 = 0 then a else b)))))) (by kernel_rfl) ?_
  simp [Tree.sat, fitP, valEq]


def S_greatest : Sx.Spec := S_sMax


theorem greatest_ok : SoundSpec Try.prog 66 S_greatest := by
  refine ⟨⟨_, Try.func66, by kernel_rfl, by kernel_rfl⟩, ?_⟩
  intro avs ns res h hn
  unfold S_greatest S_sMax at h
  split at h
  · rename_i f
    split at h
    · rename_i a b h0 h1
      cases h
      refine (greatest_at a b).same (.cons (.lst 1 2 _ _ ?_) .nil)
      intro k hk
      rcases (show k = 0 ∨ k = 1 by omega) with rfl | rfl
      · exact h0
      · exact h1
    · cases h
  · cases h

def S_rod : Sx.Spec := fun l => match l with
  | [.agg [.x (.int .i64 a), .x (.int .i64 b)]] => some ([-1000 ≤ a ∧ a ≤ 1000 ∧ -1000 ≤ b ∧ b ≤ 1000], .agg [i a, i b, i (sizeI a b)])
  | _ => none

set_option maxRecDepth 100000 in
theorem rod_at (a b : Int) (pre0 : -1000 ≤ a ∧ a ≤ 1000 ∧ -1000 ≤ b ∧ b ≤ 1000) : SoundAt Try.prog 63 [.agg [i a, i b]] (.agg [i a, i b, i (sizeI a b)]) := by
  refine soundAt_fin (G := [(66, S_greatest)]) (L := []) (SoundG.cons greatest_ok (SoundG.nil _)) mixed Try.func63 (show Try.f63.body = some (bodyOf Try.f63) by kernel_rfl) noLoops (t := (Tree.need [inI64 (b - a)] (Tree.need [inI64 (-(b - a))] (Tree.need [inI64 ((2 : Int) * max (b - a) (-(b - a)))] (Tree.leaf (RV.agg [RV.x (Value.int IntKind.i64 a), RV.x (Value.int IntKind.i64 b), RV.x (Value.int IntKind.i64 ((2 : Int) * max (b - a) (-(b - a))))])))))) (by kernel_rfl) ?_
  simp only [Tree.sat, allP, fitP, fitL, valEq, inI64, true_and, and_true, sizeI]
  split <;> omega
theorem rod_ok : SoundSpec Try.prog 63 S_rod := by
  refine ⟨⟨_, Try.func63, by kernel_rfl, by kernel_rfl⟩, ?_⟩
  intro avs ns res h hn
  unfold S_rod at h
  split at h
  · cases h
    exact rod_at _ _ (hn _ (by simp))
  · cases h

def S_heights : Sx.Spec := fun l => match l with
  | [.agg [.x (.int .i64 a), .x (.int .i64 b), .x (.int .i64 c)], .agg [.x (.int .i64 lo), .x (.int .i64 hi)]] => some ([-1000 ≤ a ∧ a ≤ 1000 ∧ -1000 ≤ b ∧ b ≤ 1000 ∧ a ≠ b, -100000000 ≤ lo ∧ lo ≤ hi ∧ hi ≤ 100000000], .agg [i (alLo a b lo hi), i (alHi a b lo hi)])
  | _ => none

set_option maxRecDepth 100000 in
theorem heights_at (a b c lo hi : Int) (pre0 : -1000 ≤ a ∧ a ≤ 1000 ∧ -1000 ≤ b ∧ b ≤ 1000 ∧ a ≠ b) (pre1 : -100000000 ≤ lo ∧ lo ≤ hi ∧ hi ≤ 100000000) : SoundAt Try.prog 64 [.agg [i a, i b, i c], .agg [i lo, i hi]] (.agg [i (alLo a b lo hi), i (alHi a b lo hi)]) := by
  refine soundAt_fin (G := []) (L := []) (SoundG.nil _) mixed Try.func64 (show Try.f64.body = some (bodyOf Try.f64) by kernel_rfl) noLoops (t := (Tree.need [inI64 ((2 : Int) * lo)] (Tree.need [inI64 ((2 : Int) * lo - (1 : Int))] (Tree.need [inI64 ((2 : Int) * a)] (Tree.need [inI64 ((2 : Int) * lo - (1 : Int) - (2 : Int) * a)] (Tree.need [inI64 ((2 : Int) * hi)] (Tree.need [inI64 ((2 : Int) * hi + (1 : Int))] (Tree.need [inI64 ((2 : Int) * a)] (Tree.need [inI64 ((2 : Int) * hi + (1 : Int) - (2 : Int) * a)] (Tree.branch (decide (b < a)) (Tree.need [inI64 (-((2 : Int) * hi + (1 : Int) - (2 : Int) * a))] (Tree.need [inI64 (-((2 : Int) * lo - (1 : Int) - (2 : Int) * a))] (Tree.leaf (RV.agg [RV.x (Value.int IntKind.i64 (-((2 : Int) * hi + (1 : Int) - (2 : Int) * a))), RV.x (Value.int IntKind.i64 (-((2 : Int) * lo - (1 : Int) - (2 : Int) * a)))])))) (Tree.leaf (RV.agg [RV.x (Value.int IntKind.i64 ((2 : Int) * lo - (1 : Int) - (2 : Int) * a)), RV.x (Value.int IntKind.i64 ((2 : Int) * hi + (1 : Int) - (2 : Int) * a))])))))))))))) (by kernel_rfl) ?_
  simp only [Tree.sat, allP, fitP, fitL, valEq, inI64, true_and, and_true, alLo, alHi, decide_eq_true_eq, decide_eq_false_iff_not]
  split <;> omega
theorem heights_ok : SoundSpec Try.prog 64 S_heights := by
  refine ⟨⟨_, Try.func64, by kernel_rfl, by kernel_rfl⟩, ?_⟩
  intro avs ns res h hn
  unfold S_heights at h
  split at h
  · cases h
    exact heights_at _ _ _ _ _ (hn _ (by simp)) (hn _ (by simp))
  · cases h


theorem sizeI_pos {a b : Int} (h : a ≠ b) : 2 ≤ sizeI a b := by unfold sizeI; split <;> omega
theorem sizeI_le {a b : Int} (h : -1000 ≤ a ∧ a ≤ 1000 ∧ -1000 ≤ b ∧ b ≤ 1000) : sizeI a b ≤ 4000 := by unfold sizeI; split <;> omega
theorem al_bd {a b lo hi : Int} (h : -1000 ≤ a ∧ a ≤ 1000 ∧ -1000 ≤ b ∧ b ≤ 1000) (k : -100000000 ≤ lo ∧ lo ≤ hi ∧ hi ≤ 100000000) : -300000000 ≤ alLo a b lo hi ∧ alLo a b lo hi < alHi a b lo hi ∧ alHi a b lo hi ≤ 300000000 := by
  unfold alLo alHi; split <;> omega


theorem mul_bd {x y X Y : Int} (hx : -X ≤ x ∧ x ≤ X) (hy : -Y ≤ y ∧ y ≤ Y) : -(X * Y) ≤ x * y ∧ x * y ≤ X * Y := by
  have h1 : x.natAbs ≤ X.natAbs := by omega
  have h2 : y.natAbs ≤ Y.natAbs := by omega
  have h3 : (x * y).natAbs ≤ (X * Y).natAbs := by rw [Int.natAbs_mul, Int.natAbs_mul]; exact Nat.mul_le_mul h1 h2
  have h4 : 0 ≤ X * Y := Int.mul_nonneg (by omega) (by omega)
  omega
theorem div_bd {n d N : Int} (hd : 1 ≤ d) (h : -N ≤ n ∧ n ≤ N) : -N ≤ n / d ∧ n / d ≤ N := by
  have hN : 0 ≤ N := by omega
  have hm : N * 1 ≤ N * d := Int.mul_le_mul_of_nonneg_left hd hN
  constructor
  · rw [Int.le_ediv_iff_mul_le (by omega), Int.neg_mul]; omega
  · exact Int.ediv_le_of_le_mul (by omega) (by omega)
theorem ce_bd {n d N : Int} (hd : 1 ≤ d) (h : -N ≤ n ∧ n ≤ N) : -N ≤ ceI n d ∧ ceI n d ≤ N := by
  have := div_bd (n := -n) hd (show -N ≤ -n ∧ -n ≤ N by omega)
  unfold ceI; omega
/-- What can stand on the scale c, d for readings lo to hi on the scale a, b. -/
def stA (a b c d lo hi : Int) : Int := min (alLo a b lo hi * (d - c)) (alHi a b lo hi * (d - c)) - sizeI a b / 2
def stB (a b c d lo hi : Int) : Int := max (alLo a b lo hi * (d - c)) (alHi a b lo hi * (d - c)) + sizeI a b / 2
def stLo (a b c d lo hi : Int) : Int := c + ceI (stA a b c d lo hi) (sizeI a b)
def stHi (a b c d lo hi : Int) : Int := c + stB a b c d lo hi / sizeI a b
theorem scB_bd {a b : Int} (h : scB a b = true) : -1000 ≤ a ∧ a ≤ 1000 ∧ -1000 ≤ b ∧ b ≤ 1000 ∧ a ≠ b := (scB_iff a b).1 h
theorem st_bd {a b c d lo hi : Int} (h : -1000 ≤ a ∧ a ≤ 1000 ∧ -1000 ≤ b ∧ b ≤ 1000 ∧ a ≠ b) (k : -1000 ≤ c ∧ c ≤ 1000 ∧ -1000 ≤ d ∧ d ≤ 1000 ∧ c ≠ d) (r : -1000000 ≤ lo ∧ lo ≤ hi ∧ hi ≤ 1000000) :
    (-8000000000 ≤ alLo a b lo hi * (d - c) ∧ alLo a b lo hi * (d - c) ≤ 8000000000) ∧ (-8000000000 ≤ alHi a b lo hi * (d - c) ∧ alHi a b lo hi * (d - c) ≤ 8000000000) ∧ (2 ≤ sizeI a b ∧ sizeI a b ≤ 4000) ∧
    (-9000000000 ≤ stA a b c d lo hi ∧ stA a b c d lo hi ≤ 9000000000) ∧ (-9000000000 ≤ stB a b c d lo hi ∧ stB a b c d lo hi ≤ 9000000000) ∧
    (-10000000000 ≤ stLo a b c d lo hi ∧ stLo a b c d lo hi ≤ 10000000000) ∧ (-10000000000 ≤ stHi a b c d lo hi ∧ stHi a b c d lo hi ≤ 10000000000) := by
  have e1 : -4000000 ≤ alLo a b lo hi ∧ alLo a b lo hi ≤ 4000000 := by unfold alLo; split <;> omega
  have e2 : -4000000 ≤ alHi a b lo hi ∧ alHi a b lo hi ≤ 4000000 := by unfold alHi; split <;> omega
  have e3 : -2000 ≤ d - c ∧ d - c ≤ 2000 := by omega
  have m1 := mul_bd e1 e3
  have m2 := mul_bd e2 e3
  have s1 := sizeI_pos h.2.2.2.2
  have s2 := sizeI_le (a := a) (b := b) (by omega)
  have hA : -9000000000 ≤ stA a b c d lo hi ∧ stA a b c d lo hi ≤ 9000000000 := by unfold stA; omega
  have hB : -9000000000 ≤ stB a b c d lo hi ∧ stB a b c d lo hi ≤ 9000000000 := by unfold stB; omega
  have hC := ce_bd (d := sizeI a b) (by omega) hA
  have hD := div_bd (d := sizeI a b) (by omega) hB
  refine ⟨by omega, by omega, by omega, hA, hB, ?_, ?_⟩
  · unfold stLo; omega
  · unfold stHi; omega
def hgOk (a b lo hi : Int) : Bool := scB a b && insB (-1000000) lo hi 1000000
def hgErr (a b lo hi : Int) : Int := if scB a b then (if insB (-1000000) lo hi 1000000 then 0 else 2) else 1
def hgLo (a b lo hi : Int) : Int := 1000 * alLo a b lo hi / sizeI a b
def hgHi (a b lo hi : Int) : Int := ceI (1000 * alHi a b lo hi) (sizeI a b)

def S_pHeights : Sx.Spec := fun l => match l with
  | [.agg [.x (.int .i64 a), .x (.int .i64 b)], .agg [.x (.int .i64 lo), .x (.int .i64 hi)]] => some ([], .tup [.agg [i (if hgOk a b lo hi then hgLo a b lo hi else 0), i (if hgOk a b lo hi then hgHi a b lo hi else 0)], i (hgErr a b lo hi)])
  | _ => none

set_option maxRecDepth 100000 in
theorem pHeights_at (a b lo hi : Int) : SoundAt Try.prog 36 [.agg [i a, i b], .agg [i lo, i hi]] (.tup [.agg [i (if hgOk a b lo hi then hgLo a b lo hi else 0), i (if hgOk a b lo hi then hgHi a b lo hi else 0)], i (hgErr a b lo hi)]) := by
  refine soundAt_fin (G := [(53, S_valid), (54, S_readings), (63, S_rod), (64, S_heights), (67, S_pdown), (68, S_pup), (83, S_qdown), (84, S_qup)]) (L := []) (SoundG.cons valid_ok (SoundG.cons readings_ok (SoundG.cons rod_ok (SoundG.cons heights_ok (SoundG.cons pdown_ok (SoundG.cons pup_ok (SoundG.cons qdown_ok (SoundG.cons qup_ok (SoundG.nil _))))))))) mixed Try.func36 (show Try.f36.body = some (bodyOf Try.f36) by kernel_rfl) noLoops (t := (Tree.branch (!scB a b) (Tree.leaf (RV.tup [RV.agg [RV.x (Value.int IntKind.i64 (0 : Int)), RV.x (Value.int IntKind.i64 (0 : Int))], RV.x (Value.int IntKind.i64 (1 : Int))])) (Tree.branch (!insB (-1000000 : Int) lo hi (1000000 : Int)) (Tree.leaf (RV.tup [RV.agg [RV.x (Value.int IntKind.i64 (0 : Int)), RV.x (Value.int IntKind.i64 (0 : Int))], RV.x (Value.int IntKind.i64 (2 : Int))])) (Tree.need [(-1000 : Int) ≤ a ∧ a ≤ (1000 : Int) ∧ (-1000 : Int) ≤ b ∧ b ≤ (1000 : Int)] (Tree.need [(-1000 : Int) ≤ a ∧ a ≤ (1000 : Int) ∧ (-1000 : Int) ≤ b ∧ b ≤ (1000 : Int) ∧ a ≠ b, (-100000000 : Int) ≤ lo ∧ lo ≤ hi ∧ hi ≤ (100000000 : Int)] (Tree.need [inI64 ((1000 : Int) * alLo a b lo hi)] (Tree.need [(-4611686018427387904 : Int) ≤ (1000 : Int) * alLo a b lo hi ∧ (1000 : Int) * alLo a b lo hi ≤ (4611686018427387904 : Int), (1 : Int) ≤ sizeI a b] (Tree.need [inI64 ((1000 : Int) * alHi a b lo hi)] (Tree.need [(-4611686018427387904 : Int) ≤ (1000 : Int) * alHi a b lo hi ∧ (1000 : Int) * alHi a b lo hi ≤ (4611686018427387904 : Int), (1 : Int) ≤ sizeI a b] (Tree.leaf (RV.tup [RV.agg [RV.x (Value.int IntKind.i64 ((1000 : Int) * alLo a b lo hi / sizeI a b)), RV.x (Value.int IntKind.i64 (ceI ((1000 : Int) * alHi a b lo hi) (sizeI a b)))], RV.x (Value.int IntKind.i64 (0 : Int))]))))))))))) (by kernel_rfl) ?_
  unfold hgOk hgErr
  cases h1 : scB a b
  · simp [Tree.sat, fitP, fitL, valEq]
  cases h2 : insB (-1000000) lo hi 1000000
  · simp [Tree.sat, fitP, fitL, valEq]
  have e1 := scB_bd h1
  have e2 := (insB_iff _ _ _ _).1 h2
  have e3 := al_bd (a := a) (b := b) (lo := lo) (hi := hi) (by omega) (by omega)
  have e4 := sizeI_pos e1.2.2.2.2
  simp [Tree.sat, allP, fitP, fitL, valEq, inI64, hgLo, hgHi]
  omega
theorem pHeights_ok : SoundSpec Try.prog 36 S_pHeights := by
  refine ⟨⟨_, Try.func36, by kernel_rfl, by kernel_rfl⟩, ?_⟩
  intro avs ns res h hn
  unfold S_pHeights at h
  split at h
  · cases h
    exact pHeights_at _ _ _ _
  · cases h

def S_stand : Sx.Spec := fun l => match l with
  | [.agg [.x (.int .i64 a), .x (.int .i64 b)], .agg [.x (.int .i64 c), .x (.int .i64 d)], .agg [.x (.int .i64 lo), .x (.int .i64 hi)]] => some ([-1000 ≤ a ∧ a ≤ 1000 ∧ -1000 ≤ b ∧ b ≤ 1000 ∧ a ≠ b, -1000 ≤ c ∧ c ≤ 1000 ∧ -1000 ≤ d ∧ d ≤ 1000 ∧ c ≠ d, -1000000 ≤ lo ∧ lo ≤ hi ∧ hi ≤ 1000000], .agg [i (stLo a b c d lo hi), i (stHi a b c d lo hi)])
  | _ => none

set_option maxRecDepth 100000 in
theorem stand_at (a b c d lo hi : Int) (pre0 : -1000 ≤ a ∧ a ≤ 1000 ∧ -1000 ≤ b ∧ b ≤ 1000 ∧ a ≠ b) (pre1 : -1000 ≤ c ∧ c ≤ 1000 ∧ -1000 ≤ d ∧ d ≤ 1000 ∧ c ≠ d) (pre2 : -1000000 ≤ lo ∧ lo ≤ hi ∧ hi ≤ 1000000) : SoundAt Try.prog 56 [.agg [i a, i b], .agg [i c, i d], .agg [i lo, i hi]] (.agg [i (stLo a b c d lo hi), i (stHi a b c d lo hi)]) := by
  refine soundAt_fin (G := [(63, S_rod), (64, S_heights), (65, S_least), (66, S_greatest), (67, S_pdown), (68, S_pup), (83, S_qdown), (84, S_qup)]) (L := []) (SoundG.cons rod_ok (SoundG.cons heights_ok (SoundG.cons least_ok (SoundG.cons greatest_ok (SoundG.cons pdown_ok (SoundG.cons pup_ok (SoundG.cons qdown_ok (SoundG.cons qup_ok (SoundG.nil _))))))))) mixed Try.func56 (show Try.f56.body = some (bodyOf Try.f56) by kernel_rfl) noLoops (t := (Tree.need [(-1000 : Int) ≤ a ∧ a ≤ (1000 : Int) ∧ (-1000 : Int) ≤ b ∧ b ≤ (1000 : Int)] (Tree.need [(-1000 : Int) ≤ a ∧ a ≤ (1000 : Int) ∧ (-1000 : Int) ≤ b ∧ b ≤ (1000 : Int) ∧ a ≠ b, (-100000000 : Int) ≤ lo ∧ lo ≤ hi ∧ hi ≤ (100000000 : Int)] (Tree.need [inI64 (d - c)] (Tree.need [inI64 (alLo a b lo hi * (d - c))] (Tree.need [inI64 (alHi a b lo hi * (d - c))] (Tree.need [(2 : Int) ≠ (0 : Int), inI64 (Int.tdiv (sizeI a b) (2 : Int))] (Tree.need [inI64 (min (alLo a b lo hi * (d - c)) (alHi a b lo hi * (d - c)) - Int.tdiv (sizeI a b) (2 : Int))] (Tree.need [(-4611686018427387904 : Int) ≤ min (alLo a b lo hi * (d - c)) (alHi a b lo hi * (d - c)) - Int.tdiv (sizeI a b) (2 : Int) ∧ min (alLo a b lo hi * (d - c)) (alHi a b lo hi * (d - c)) - Int.tdiv (sizeI a b) (2 : Int) ≤ (4611686018427387904 : Int), (1 : Int) ≤ sizeI a b] (Tree.need [inI64 (c + ceI (min (alLo a b lo hi * (d - c)) (alHi a b lo hi * (d - c)) - Int.tdiv (sizeI a b) (2 : Int)) (sizeI a b))] (Tree.need [inI64 (max (alLo a b lo hi * (d - c)) (alHi a b lo hi * (d - c)) + Int.tdiv (sizeI a b) (2 : Int))] (Tree.need [(-4611686018427387904 : Int) ≤ max (alLo a b lo hi * (d - c)) (alHi a b lo hi * (d - c)) + Int.tdiv (sizeI a b) (2 : Int) ∧ max (alLo a b lo hi * (d - c)) (alHi a b lo hi * (d - c)) + Int.tdiv (sizeI a b) (2 : Int) ≤ (4611686018427387904 : Int), (1 : Int) ≤ sizeI a b] (Tree.need [inI64 (c + (max (alLo a b lo hi * (d - c)) (alHi a b lo hi * (d - c)) + Int.tdiv (sizeI a b) (2 : Int)) / sizeI a b)] (Tree.leaf (RV.agg [RV.x (Value.int IntKind.i64 (c + ceI (min (alLo a b lo hi * (d - c)) (alHi a b lo hi * (d - c)) - Int.tdiv (sizeI a b) (2 : Int)) (sizeI a b))), RV.x (Value.int IntKind.i64 (c + (max (alLo a b lo hi * (d - c)) (alHi a b lo hi * (d - c)) + Int.tdiv (sizeI a b) (2 : Int)) / sizeI a b))]))))))))))))))) (by kernel_rfl) ?_
  obtain ⟨b1, b2, b3, b4, b5, b6, b7⟩ := st_bd pre0 pre1 pre2
  have e1 : (sizeI a b).tdiv 2 = sizeI a b / 2 := Int.tdiv_eq_ediv_of_nonneg (by omega)
  have e2 : min (alLo a b lo hi * (d - c)) (alHi a b lo hi * (d - c)) - sizeI a b / 2 = stA a b c d lo hi := rfl
  have e3 : max (alLo a b lo hi * (d - c)) (alHi a b lo hi * (d - c)) + sizeI a b / 2 = stB a b c d lo hi := rfl
  simp only [Tree.sat, allP, fitP, fitL, valEq, inI64, true_and, and_true, e1, e2, e3]
  refine ⟨by omega, ⟨by omega, by omega⟩, by omega, by omega, by omega, ?_⟩
  have e4 : c + ceI (stA a b c d lo hi) (sizeI a b) = stLo a b c d lo hi := rfl
  have e5 : c + stB a b c d lo hi / sizeI a b = stHi a b c d lo hi := rfl
  rw [e4, e5]
  omega
theorem stand_ok : SoundSpec Try.prog 56 S_stand := by
  refine ⟨⟨_, Try.func56, by kernel_rfl, by kernel_rfl⟩, ?_⟩
  intro avs ns res h hn
  unfold S_stand at h
  split at h
  · cases h
    exact stand_at _ _ _ _ _ _ (hn _ (by simp)) (hn _ (by simp)) (hn _ (by simp))
  · cases h


theorem al_bdx {a b lo hi R : Int} (h : -1000 ≤ a ∧ a ≤ 1000 ∧ -1000 ≤ b ∧ b ≤ 1000) (k : -R ≤ lo ∧ lo ≤ hi ∧ hi ≤ R) : -(2 * R + 2001) ≤ alLo a b lo hi ∧ alLo a b lo hi < alHi a b lo hi ∧ alHi a b lo hi ≤ 2 * R + 2001 := by
  unfold alLo alHi; split <;> omega
def lowB (c d x a b lo hi : Int) : Bool := decide (alHi c d x x * sizeI a b < alLo a b lo hi * sizeI c d)
def highB (c d x a b lo hi : Int) : Bool := decide (alLo c d x x * sizeI a b > alHi a b lo hi * sizeI c d)
def meetB (c d x a b lo hi : Int) : Bool := decide (alLo c d x x * sizeI a b ≤ alHi a b lo hi * sizeI c d) && decide (alHi c d x x * sizeI a b ≥ alLo a b lo hi * sizeI c d)

def S_rLow : Sx.Spec := fun l => match l with
  | [.agg [.x (.int .i64 c), .x (.int .i64 d)], .x (.int .i64 x), .agg [.x (.int .i64 a), .x (.int .i64 b)], .agg [.x (.int .i64 lo), .x (.int .i64 hi)]] => some ([-1000 ≤ a ∧ a ≤ 1000 ∧ -1000 ≤ b ∧ b ≤ 1000 ∧ -1000 ≤ c ∧ c ≤ 1000 ∧ -1000 ≤ d ∧ d ≤ 1000, -1000000 ≤ lo ∧ lo ≤ hi ∧ hi ≤ 1000000, -100000000000 ≤ x ∧ x ≤ 100000000000], bl (lowB c d x a b lo hi))
  | _ => none

set_option maxRecDepth 100000 in
theorem rLow_at (c d x a b lo hi : Int) (pre0 : -1000 ≤ a ∧ a ≤ 1000 ∧ -1000 ≤ b ∧ b ≤ 1000 ∧ -1000 ≤ c ∧ c ≤ 1000 ∧ -1000 ≤ d ∧ d ≤ 1000) (pre1 : -1000000 ≤ lo ∧ lo ≤ hi ∧ hi ≤ 1000000) (pre2 : -100000000000 ≤ x ∧ x ≤ 100000000000) : SoundAt Try.prog 58 [.agg [i c, i d], i x, .agg [i a, i b], .agg [i lo, i hi]] (bl (lowB c d x a b lo hi)) := by
  refine soundAt_fin (G := [(70, S_rAllowed), (71, S_rSize)]) (L := []) (SoundG.cons rAllowed_ok (SoundG.cons rSize_ok (SoundG.nil _))) mixed Try.func58 (show Try.f58.body = some (bodyOf Try.f58) by kernel_rfl) noLoops (t := (Tree.need [(-1000000 : Int) ≤ c ∧ c ≤ (1000000 : Int), (-1000000000000 : Int) ≤ x ∧ x ≤ x ∧ x ≤ (1000000000000 : Int)] (Tree.need [(-1000000 : Int) ≤ a ∧ a ≤ (1000000 : Int) ∧ (-1000000 : Int) ≤ b ∧ b ≤ (1000000 : Int)] (Tree.need [inI64 (alHi c d x x * sizeI a b)] (Tree.need [(-1000000 : Int) ≤ a ∧ a ≤ (1000000 : Int), (-1000000000000 : Int) ≤ lo ∧ lo ≤ hi ∧ hi ≤ (1000000000000 : Int)] (Tree.need [(-1000000 : Int) ≤ c ∧ c ≤ (1000000 : Int) ∧ (-1000000 : Int) ≤ d ∧ d ≤ (1000000 : Int)] (Tree.need [inI64 (alLo a b lo hi * sizeI c d)] (Tree.leaf (RV.x (Value.bool (decide (alHi c d x x * sizeI a b < alLo a b lo hi * sizeI c d)))))))))))) (by kernel_rfl) ?_
  have e1 := al_bdx (a := a) (b := b) (lo := lo) (hi := hi) (R := 1000000) (by omega) (by omega)
  have e2 := al_bdx (a := c) (b := d) (lo := x) (hi := x) (R := 100000000000) (by omega) (by omega)
  have s1 : 0 ≤ sizeI a b := by unfold sizeI; split <;> omega
  have s2 := sizeI_le (a := a) (b := b) (by omega)
  have s3 : 0 ≤ sizeI c d := by unfold sizeI; split <;> omega
  have s4 := sizeI_le (a := c) (b := d) (by omega)
  have m1 := mul_bd (x := alHi c d x x) (y := sizeI a b) (X := 300000000000) (Y := 4000) (by omega) (by omega)
  have m2 := mul_bd (x := alLo c d x x) (y := sizeI a b) (X := 300000000000) (Y := 4000) (by omega) (by omega)
  have m3 := mul_bd (x := alHi a b lo hi) (y := sizeI c d) (X := 300000000000) (Y := 4000) (by omega) (by omega)
  have m4 := mul_bd (x := alLo a b lo hi) (y := sizeI c d) (X := 300000000000) (Y := 4000) (by omega) (by omega)
  simp only [Tree.sat, allP, fitP, fitL, valEq, inI64, true_and, and_true, lowB]
  omega
theorem rLow_ok : SoundSpec Try.prog 58 S_rLow := by
  refine ⟨⟨_, Try.func58, by kernel_rfl, by kernel_rfl⟩, ?_⟩
  intro avs ns res h hn
  unfold S_rLow at h
  split at h
  · cases h
    exact rLow_at _ _ _ _ _ _ _ (hn _ (by simp)) (hn _ (by simp)) (hn _ (by simp))
  · cases h

def S_rHigh : Sx.Spec := fun l => match l with
  | [.agg [.x (.int .i64 c), .x (.int .i64 d)], .x (.int .i64 x), .agg [.x (.int .i64 a), .x (.int .i64 b)], .agg [.x (.int .i64 lo), .x (.int .i64 hi)]] => some ([-1000 ≤ a ∧ a ≤ 1000 ∧ -1000 ≤ b ∧ b ≤ 1000 ∧ -1000 ≤ c ∧ c ≤ 1000 ∧ -1000 ≤ d ∧ d ≤ 1000, -1000000 ≤ lo ∧ lo ≤ hi ∧ hi ≤ 1000000, -100000000000 ≤ x ∧ x ≤ 100000000000], bl (highB c d x a b lo hi))
  | _ => none

set_option maxRecDepth 100000 in
theorem rHigh_at (c d x a b lo hi : Int) (pre0 : -1000 ≤ a ∧ a ≤ 1000 ∧ -1000 ≤ b ∧ b ≤ 1000 ∧ -1000 ≤ c ∧ c ≤ 1000 ∧ -1000 ≤ d ∧ d ≤ 1000) (pre1 : -1000000 ≤ lo ∧ lo ≤ hi ∧ hi ≤ 1000000) (pre2 : -100000000000 ≤ x ∧ x ≤ 100000000000) : SoundAt Try.prog 59 [.agg [i c, i d], i x, .agg [i a, i b], .agg [i lo, i hi]] (bl (highB c d x a b lo hi)) := by
  refine soundAt_fin (G := [(70, S_rAllowed), (71, S_rSize)]) (L := []) (SoundG.cons rAllowed_ok (SoundG.cons rSize_ok (SoundG.nil _))) mixed Try.func59 (show Try.f59.body = some (bodyOf Try.f59) by kernel_rfl) noLoops (t := (Tree.need [(-1000000 : Int) ≤ c ∧ c ≤ (1000000 : Int), (-1000000000000 : Int) ≤ x ∧ x ≤ x ∧ x ≤ (1000000000000 : Int)] (Tree.need [(-1000000 : Int) ≤ a ∧ a ≤ (1000000 : Int) ∧ (-1000000 : Int) ≤ b ∧ b ≤ (1000000 : Int)] (Tree.need [inI64 (alLo c d x x * sizeI a b)] (Tree.need [(-1000000 : Int) ≤ a ∧ a ≤ (1000000 : Int), (-1000000000000 : Int) ≤ lo ∧ lo ≤ hi ∧ hi ≤ (1000000000000 : Int)] (Tree.need [(-1000000 : Int) ≤ c ∧ c ≤ (1000000 : Int) ∧ (-1000000 : Int) ≤ d ∧ d ≤ (1000000 : Int)] (Tree.need [inI64 (alHi a b lo hi * sizeI c d)] (Tree.leaf (RV.x (Value.bool (decide (alLo c d x x * sizeI a b > alHi a b lo hi * sizeI c d)))))))))))) (by kernel_rfl) ?_
  have e1 := al_bdx (a := a) (b := b) (lo := lo) (hi := hi) (R := 1000000) (by omega) (by omega)
  have e2 := al_bdx (a := c) (b := d) (lo := x) (hi := x) (R := 100000000000) (by omega) (by omega)
  have s1 : 0 ≤ sizeI a b := by unfold sizeI; split <;> omega
  have s2 := sizeI_le (a := a) (b := b) (by omega)
  have s3 : 0 ≤ sizeI c d := by unfold sizeI; split <;> omega
  have s4 := sizeI_le (a := c) (b := d) (by omega)
  have m1 := mul_bd (x := alHi c d x x) (y := sizeI a b) (X := 300000000000) (Y := 4000) (by omega) (by omega)
  have m2 := mul_bd (x := alLo c d x x) (y := sizeI a b) (X := 300000000000) (Y := 4000) (by omega) (by omega)
  have m3 := mul_bd (x := alHi a b lo hi) (y := sizeI c d) (X := 300000000000) (Y := 4000) (by omega) (by omega)
  have m4 := mul_bd (x := alLo a b lo hi) (y := sizeI c d) (X := 300000000000) (Y := 4000) (by omega) (by omega)
  simp only [Tree.sat, allP, fitP, fitL, valEq, inI64, true_and, and_true, highB]
  omega
theorem rHigh_ok : SoundSpec Try.prog 59 S_rHigh := by
  refine ⟨⟨_, Try.func59, by kernel_rfl, by kernel_rfl⟩, ?_⟩
  intro avs ns res h hn
  unfold S_rHigh at h
  split at h
  · cases h
    exact rHigh_at _ _ _ _ _ _ _ (hn _ (by simp)) (hn _ (by simp)) (hn _ (by simp))
  · cases h

def S_rMeets : Sx.Spec := fun l => match l with
  | [.agg [.x (.int .i64 c), .x (.int .i64 d)], .x (.int .i64 x), .agg [.x (.int .i64 a), .x (.int .i64 b)], .agg [.x (.int .i64 lo), .x (.int .i64 hi)]] => some ([-1000 ≤ a ∧ a ≤ 1000 ∧ -1000 ≤ b ∧ b ≤ 1000 ∧ -1000 ≤ c ∧ c ≤ 1000 ∧ -1000 ≤ d ∧ d ≤ 1000, -1000000 ≤ lo ∧ lo ≤ hi ∧ hi ≤ 1000000, -100000000000 ≤ x ∧ x ≤ 100000000000], bl (meetB c d x a b lo hi))
  | _ => none

set_option maxRecDepth 100000 in
theorem rMeets_at (c d x a b lo hi : Int) (pre0 : -1000 ≤ a ∧ a ≤ 1000 ∧ -1000 ≤ b ∧ b ≤ 1000 ∧ -1000 ≤ c ∧ c ≤ 1000 ∧ -1000 ≤ d ∧ d ≤ 1000) (pre1 : -1000000 ≤ lo ∧ lo ≤ hi ∧ hi ≤ 1000000) (pre2 : -100000000000 ≤ x ∧ x ≤ 100000000000) : SoundAt Try.prog 38 [.agg [i c, i d], i x, .agg [i a, i b], .agg [i lo, i hi]] (bl (meetB c d x a b lo hi)) := by
  refine soundAt_fin (G := [(70, S_rAllowed), (71, S_rSize)]) (L := []) (SoundG.cons rAllowed_ok (SoundG.cons rSize_ok (SoundG.nil _))) mixed Try.func38 (show Try.f38.body = some (bodyOf Try.f38) by kernel_rfl) noLoops (t := (Tree.need [(-1000000 : Int) ≤ c ∧ c ≤ (1000000 : Int), (-1000000000000 : Int) ≤ x ∧ x ≤ x ∧ x ≤ (1000000000000 : Int)] (Tree.need [(-1000000 : Int) ≤ a ∧ a ≤ (1000000 : Int), (-1000000000000 : Int) ≤ lo ∧ lo ≤ hi ∧ hi ≤ (1000000000000 : Int)] (Tree.need [(-1000000 : Int) ≤ a ∧ a ≤ (1000000 : Int) ∧ (-1000000 : Int) ≤ b ∧ b ≤ (1000000 : Int)] (Tree.need [inI64 (alLo c d x x * sizeI a b)] (Tree.need [(-1000000 : Int) ≤ c ∧ c ≤ (1000000 : Int) ∧ (-1000000 : Int) ≤ d ∧ d ≤ (1000000 : Int)] (Tree.need [inI64 (alHi a b lo hi * sizeI c d)] (Tree.branch (decide (alLo c d x x * sizeI a b ≤ alHi a b lo hi * sizeI c d)) (Tree.need [(-1000000 : Int) ≤ a ∧ a ≤ (1000000 : Int) ∧ (-1000000 : Int) ≤ b ∧ b ≤ (1000000 : Int)] (Tree.need [inI64 (alHi c d x x * sizeI a b)] (Tree.need [(-1000000 : Int) ≤ c ∧ c ≤ (1000000 : Int) ∧ (-1000000 : Int) ≤ d ∧ d ≤ (1000000 : Int)] (Tree.need [inI64 (alLo a b lo hi * sizeI c d)] (Tree.leaf (RV.x (Value.bool (decide (alHi c d x x * sizeI a b ≥ alLo a b lo hi * sizeI c d))))))))) (Tree.leaf (RV.x (Value.bool false))))))))))) (by kernel_rfl) ?_
  have e1 := al_bdx (a := a) (b := b) (lo := lo) (hi := hi) (R := 1000000) (by omega) (by omega)
  have e2 := al_bdx (a := c) (b := d) (lo := x) (hi := x) (R := 100000000000) (by omega) (by omega)
  have s1 : 0 ≤ sizeI a b := by unfold sizeI; split <;> omega
  have s2 := sizeI_le (a := a) (b := b) (by omega)
  have s3 : 0 ≤ sizeI c d := by unfold sizeI; split <;> omega
  have s4 := sizeI_le (a := c) (b := d) (by omega)
  have m1 := mul_bd (x := alHi c d x x) (y := sizeI a b) (X := 300000000000) (Y := 4000) (by omega) (by omega)
  have m2 := mul_bd (x := alLo c d x x) (y := sizeI a b) (X := 300000000000) (Y := 4000) (by omega) (by omega)
  have m3 := mul_bd (x := alHi a b lo hi) (y := sizeI c d) (X := 300000000000) (Y := 4000) (by omega) (by omega)
  have m4 := mul_bd (x := alLo a b lo hi) (y := sizeI c d) (X := 300000000000) (Y := 4000) (by omega) (by omega)
  simp only [Tree.sat, allP, fitP, fitL, valEq, inI64, true_and, and_true]
  refine ⟨by omega, by omega, by omega, by omega, by omega, by omega, fun h => ⟨by omega, by omega, by omega, by omega, ?_⟩, fun h => ?_⟩
  · unfold meetB; rw [h]; rfl
  · unfold meetB; rw [h]; rfl
theorem rMeets_ok : SoundSpec Try.prog 38 S_rMeets := by
  refine ⟨⟨_, Try.func38, by kernel_rfl, by kernel_rfl⟩, ?_⟩
  intro avs ns res h hn
  unfold S_rMeets at h
  split at h
  · cases h
    exact rMeets_at _ _ _ _ _ _ _ (hn _ (by simp)) (hn _ (by simp)) (hn _ (by simp))
  · cases h

def S_rHeights : Sx.Spec := fun l => match l with
  | [.agg [.x (.int .i64 a), .x (.int .i64 b)], .agg [.x (.int .i64 lo), .x (.int .i64 hi)]] => some ([-1000 ≤ a ∧ a ≤ 1000 ∧ -1000 ≤ b ∧ b ≤ 1000 ∧ a ≠ b, -1000000 ≤ lo ∧ lo ≤ hi ∧ hi ≤ 1000000], .agg [i (hgLo a b lo hi), i (hgHi a b lo hi)])
  | _ => none

set_option maxRecDepth 100000 in
theorem rHeights_at (a b lo hi : Int) (pre0 : -1000 ≤ a ∧ a ≤ 1000 ∧ -1000 ≤ b ∧ b ≤ 1000 ∧ a ≠ b) (pre1 : -1000000 ≤ lo ∧ lo ≤ hi ∧ hi ≤ 1000000) : SoundAt Try.prog 42 [.agg [i a, i b], .agg [i lo, i hi]] (.agg [i (hgLo a b lo hi), i (hgHi a b lo hi)]) := by
  refine soundAt_fin (G := [(70, S_rAllowed), (71, S_rSize), (57, S_rFloor), (72, S_rCeil)]) (L := []) (SoundG.cons rAllowed_ok (SoundG.cons rSize_ok (SoundG.cons rFloor_ok (SoundG.cons rCeil_ok (SoundG.nil _))))) mixed Try.func42 (show Try.f42.body = some (bodyOf Try.f42) by kernel_rfl) noLoops (t := (Tree.need [(-1000000 : Int) ≤ a ∧ a ≤ (1000000 : Int), (-1000000000000 : Int) ≤ lo ∧ lo ≤ hi ∧ hi ≤ (1000000000000 : Int)] (Tree.need [inI64 ((1000 : Int) * alLo a b lo hi)] (Tree.need [(-1000000 : Int) ≤ a ∧ a ≤ (1000000 : Int) ∧ (-1000000 : Int) ≤ b ∧ b ≤ (1000000 : Int)] (Tree.need [(-4611686018427387904 : Int) ≤ (1000 : Int) * alLo a b lo hi ∧ (1000 : Int) * alLo a b lo hi ≤ (4611686018427387904 : Int), (1 : Int) ≤ sizeI a b ∧ sizeI a b ≤ (4000000000000 : Int)] (Tree.need [inI64 ((1000 : Int) * alHi a b lo hi)] (Tree.need [(-1000000 : Int) ≤ a ∧ a ≤ (1000000 : Int) ∧ (-1000000 : Int) ≤ b ∧ b ≤ (1000000 : Int)] (Tree.need [(-4611686018427387904 : Int) ≤ (1000 : Int) * alHi a b lo hi ∧ (1000 : Int) * alHi a b lo hi ≤ (4611686018427387904 : Int), (1 : Int) ≤ sizeI a b ∧ sizeI a b ≤ (4000000000000 : Int)] (Tree.leaf (RV.agg [RV.x (Value.int IntKind.i64 ((1000 : Int) * alLo a b lo hi / sizeI a b)), RV.x (Value.int IntKind.i64 (ceI ((1000 : Int) * alHi a b lo hi) (sizeI a b)))])))))))))) (by kernel_rfl) ?_
  have e1 := al_bdx (a := a) (b := b) (lo := lo) (hi := hi) (R := 1000000) (by omega) (by omega)
  have s1 := sizeI_pos pre0.2.2.2.2
  have s2 := sizeI_le (a := a) (b := b) (by omega)
  simp only [Tree.sat, allP, fitP, fitL, valEq, inI64, true_and, and_true, hgLo, hgHi]
  omega
theorem rHeights_ok : SoundSpec Try.prog 42 S_rHeights := by
  refine ⟨⟨_, Try.func42, by kernel_rfl, by kernel_rfl⟩, ?_⟩
  intro avs ns res h hn
  unfold S_rHeights at h
  split at h
  · cases h
    exact rHeights_at _ _ _ _ (hn _ (by simp)) (hn _ (by simp))
  · cases h

end Go.Proofs.Ytchcegfhamngkaa
