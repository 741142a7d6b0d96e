/- Contracts of functions of the program, by the engine Sx: what each call comes to. Printed by a program of this repo (sxgen.py). -/
import Derived.Test.YtchcegfhamngkaaPtV
set_option linter.unusedSimpArgs false
set_option linter.unusedVariables false
namespace Go.Proofs.Ytchcegfhamngkaa
open Go Go.Sx Go.RowKit

/-- A reading that is nearest to a point. -/
def nrI (a b x o : Int) : Int := a + (2 * x * (b - a) + o) / (2 * o)
theorem nr_bd {a b x o : Int} (ho : 1 ≤ o) : 2 * ((2 * x * (b - a) + o) / (2 * o)) * o ≤ 2 * x * (b - a) + o ∧ 2 * x * (b - a) + o < 2 * ((2 * x * (b - a) + o) / (2 * o)) * o + 2 * o := by
  have h1 := Int.ediv_mul_le (2 * x * (b - a) + o) (show (2 * o) ≠ 0 by omega)
  have h2 := Int.lt_ediv_add_one_mul_self (2 * x * (b - a) + o) (show 0 < 2 * o by omega)
  have e : (2 * x * (b - a) + o) / (2 * o) * (2 * o) = 2 * ((2 * x * (b - a) + o) / (2 * o)) * o := by
    generalize (2 * x * (b - a) + o) / (2 * o) = q
    rw [Int.mul_left_comm, Int.mul_assoc]
  rw [Int.add_mul, Int.one_mul] at h2
  omega
theorem nr_holds {a b x o : Int} (h : a ≠ b) (ho : 1 ≤ o) : holdsP a b (nrI a b x o) (nrI a b x o) x o := by
  obtain ⟨h1, h2⟩ := nr_bd (a := a) (b := b) (x := x) ho
  unfold holdsP nrI
  generalize hq : (2 * x * (b - a) + o) / (2 * o) = q at *
  have e1 : (2 * q - 1) * o = 2 * q * o - o := by rw [Int.sub_mul, Int.one_mul]
  have e2 : (2 * q + 1) * o = 2 * q * o + o := by rw [Int.add_mul, Int.one_mul]
  have e3 : (-2 * q - 1) * o = -(2 * q * o) - o := by rw [Int.sub_mul, Int.one_mul, Int.neg_mul, Int.neg_mul]
  have e4 : (-2 * q + 1) * o = -(2 * q * o) + o := by rw [Int.add_mul, Int.one_mul, Int.neg_mul, Int.neg_mul]
  have z : x * (2 * (b - a)) = 2 * x * (b - a) := by rw [Int.mul_left_comm, Int.mul_assoc]
  have z' : x * (2 * (a - b)) = -(2 * x * (b - a)) := by rw [← z, ← Int.mul_neg]; congr 1; omega
  by_cases hab : b > a
  · have s : sizeI a b = 2 * (b - a) := by unfold sizeI; rw [if_pos hab]
    have l1 : alLo a b (a + q) (a + q) = 2 * q - 1 := by unfold alLo; rw [if_pos hab]; omega
    have l2 : alHi a b (a + q) (a + q) = 2 * q + 1 := by unfold alHi; rw [if_pos hab]; omega
    rw [s, l1, l2, z, e1, e2]
    omega
  · have s : sizeI a b = 2 * (a - b) := by unfold sizeI; rw [if_neg hab]
    have l1 : alLo a b (a + q) (a + q) = -2 * q - 1 := by unfold alLo; rw [if_neg hab]; omega
    have l2 : alHi a b (a + q) (a + q) = -2 * q + 1 := by unfold alHi; rw [if_neg hab]; omega
    rw [s, l1, l2, z', e3, e4]
    omega
theorem nr_le {a b x o : Int} (h : -1000 ≤ a ∧ a ≤ 1000 ∧ -1000 ≤ b ∧ b ≤ 1000) (ho : 1 ≤ o) (hx : -(100 * o) ≤ x ∧ x ≤ 100 * o) : -300000 ≤ nrI a b x o ∧ nrI a b x o ≤ 300000 := by
  obtain ⟨h1, h2⟩ := nr_bd (a := a) (b := b) (x := x) ho
  have m := mul_bd (x := 2 * x) (y := b - a) (X := 200 * o) (Y := 2000) (by omega) (by omega)
  have e : 200 * o * 2000 = 400000 * o := by omega
  unfold nrI
  generalize (2 * x * (b - a) + o) / (2 * o) = q at *
  have q1 : q ≤ 200001 := by
    rcases Int.lt_or_le 200001 q with g | g
    · have := Int.mul_le_mul_of_nonneg_right (show 2 * 200002 ≤ 2 * q by omega) (show 0 ≤ o by omega)
      omega
    · exact g
  have q2 : -200001 ≤ q := by
    rcases Int.lt_or_le q (-200001) with g | g
    · have := Int.mul_le_mul_of_nonneg_right (show 2 * q ≤ 2 * (-200002) by omega) (show 0 ≤ o by omega)
      omega
    · exact g
  omega
/-- What can stand for readings with a point that is not far off is not far off. -/
theorem st_near {a b c d X x o : Int} (h : -1000 ≤ a ∧ a ≤ 1000 ∧ -1000 ≤ b ∧ b ≤ 1000 ∧ a ≠ b) (k : -1000 ≤ c ∧ c ≤ 1000 ∧ -1000 ≤ d ∧ d ≤ 1000 ∧ c ≠ d) (ho : 1 ≤ o) (hx : -(100 * o) ≤ x ∧ x ≤ 100 * o) (p : holdsP a b X X x o) :
    -1000000 ≤ stLo a b c d X X ∧ stHi a b c d X X ≤ 1000000 := by
  have s1 := sizeI_pos h.2.2.2.2
  have hal : alHi a b X X = alLo a b X X + 2 := by unfold alHi alLo; split <;> omega
  obtain ⟨p1, p2⟩ := p
  have up : alLo a b X X ≤ 100 * sizeI a b := by
    rcases Int.lt_or_le (100 * sizeI a b) (alLo a b X X) with g | g
    · have g1 := Int.mul_le_mul_of_nonneg_right (show 100 * sizeI a b + 1 ≤ alLo a b X X by omega) (show 0 ≤ o by omega)
      have g2 := Int.mul_le_mul_of_nonneg_right hx.2 (show 0 ≤ sizeI a b by omega)
      rw [Int.add_mul, Int.one_mul] at g1
      have e : 100 * o * sizeI a b = 100 * sizeI a b * o := by rw [Int.mul_assoc, Int.mul_assoc, Int.mul_comm o]
      omega
    · exact g
  have dn : -(100 * sizeI a b) ≤ alHi a b X X := by
    rcases Int.lt_or_le (alHi a b X X) (-(100 * sizeI a b)) with g | g
    · have g1 := Int.mul_le_mul_of_nonneg_right (show alHi a b X X ≤ -(100 * sizeI a b) - 1 by omega) (show 0 ≤ o by omega)
      have g2 := Int.mul_le_mul_of_nonneg_right hx.1 (show 0 ≤ sizeI a b by omega)
      rw [Int.sub_mul, Int.one_mul, Int.neg_mul] at g1
      rw [Int.neg_mul] at g2
      have e : 100 * o * sizeI a b = 100 * sizeI a b * o := by rw [Int.mul_assoc, Int.mul_assoc, Int.mul_comm o]
      omega
    · exact g
  have m1 := mul_bd (x := alLo a b X X) (y := d - c) (X := 100 * sizeI a b + 2) (Y := 2000) (by omega) (by omega)
  have m2 := mul_bd (x := alHi a b X X) (y := d - c) (X := 100 * sizeI a b + 2) (Y := 2000) (by omega) (by omega)
  have e : (100 * sizeI a b + 2) * 2000 = 200000 * sizeI a b + 4000 := by omega
  have b1 : -(202003 * sizeI a b) ≤ stA a b c d X X := by unfold stA; omega
  have b2 : stB a b c d X X ≤ 202003 * sizeI a b := by unfold stB; omega
  constructor
  · unfold stLo ceI
    have : -stA a b c d X X / sizeI a b ≤ 202003 := Int.ediv_le_of_le_mul (by omega) (by omega)
    omega
  · unfold stHi
    have : stB a b c d X X / sizeI a b ≤ 202003 := Int.ediv_le_of_le_mul (by omega) (by omega)
    omega

set_option maxRecDepth 100000 in
theorem PointTruth_at (a b c d x y : Int) (pre0 : -32768 ≤ x ∧ x ≤ 32767) (pre1 : 0 ≤ y ∧ y ≤ 65535) : SoundAt Try.prog 5 [.agg [i a, i b], .agg [i c, i d], .x (.int .i16 x), .x (.int .u16 y)] (bl true) := by
  refine soundAt_fin (G := [(31, S_rIsScale), (34, S_Nearest), (23, S_lScale), (22, S_Convert), (35, S_between), (36, S_pHeights), (16, S_wakes)]) (L := []) (SoundG.cons rIsScale_ok (SoundG.cons Nearest_ok (SoundG.cons lScale_ok (SoundG.cons Convert_ok (SoundG.cons between_ok (SoundG.cons pHeights_ok (SoundG.cons wakes_ok (SoundG.nil _)))))))) mixed Try.func5 (show Try.f5.body = some (bodyOf Try.f5) by kernel_rfl) noLoops (t := (Tree.branch (!scB a b) (Tree.leaf (RV.x (Value.bool true))) (Tree.branch (!scB c d) (Tree.leaf (RV.x (Value.bool true))) (Tree.need [inI64 x] (Tree.need [inI64 y] (Tree.need [(5000 : Int) ≠ (0 : Int)] (Tree.need [inI64 ((1 : Int) + Int.tmod y (5000 : Int))] (Tree.need [inI64 ((-100 : Int) * ((1 : Int) + Int.tmod y (5000 : Int)))] (Tree.branch (decide (x < (-100 : Int) * ((1 : Int) + Int.tmod y (5000 : Int)))) (Tree.leaf (RV.x (Value.bool true))) (Tree.need [inI64 ((100 : Int) * ((1 : Int) + Int.tmod y (5000 : Int)))] (Tree.branch (decide (x > (100 : Int) * ((1 : Int) + Int.tmod y (5000 : Int)))) (Tree.leaf (RV.x (Value.bool true))) (Tree.need [(-1000 : Int) ≤ a ∧ a ≤ (1000 : Int) ∧ (-1000 : Int) ≤ b ∧ b ≤ (1000 : Int), (-500000 : Int) ≤ x ∧ x ≤ (500000 : Int) ∧ (1 : Int) ≤ (1 : Int) + Int.tmod y (5000 : Int) ∧ (1 : Int) + Int.tmod y (5000 : Int) ≤ (5000 : Int)] (Tree.need [(-1000 : Int) ≤ c ∧ c ≤ (1000 : Int) ∧ (-1000 : Int) ≤ d ∧ d ≤ (1000 : Int), (-500000 : Int) ≤ x ∧ x ≤ (500000 : Int) ∧ (1 : Int) ≤ (1 : Int) + Int.tmod y (5000 : Int) ∧ (1 : Int) + Int.tmod y (5000 : Int) ≤ (5000 : Int)] (Tree.branch (cvE a b c d (a + ((2 : Int) * x * (b - a) + ((1 : Int) + Int.tmod y (5000 : Int))) / ((2 : Int) * ((1 : Int) + Int.tmod y (5000 : Int)))) (a + ((2 : Int) * x * (b - a) + ((1 : Int) + Int.tmod y (5000 : Int))) / ((2 : Int) * ((1 : Int) + Int.tmod y (5000 : Int)))) == (0 : Int)) (Tree.branch (decide (c + ((2 : Int) * x * (d - c) + ((1 : Int) + Int.tmod y (5000 : Int))) / ((2 : Int) * ((1 : Int) + Int.tmod y (5000 : Int))) ≥ cvLo a b c d (a + ((2 : Int) * x * (b - a) + ((1 : Int) + Int.tmod y (5000 : Int))) / ((2 : Int) * ((1 : Int) + Int.tmod y (5000 : Int)))) (a + ((2 : Int) * x * (b - a) + ((1 : Int) + Int.tmod y (5000 : Int))) / ((2 : Int) * ((1 : Int) + Int.tmod y (5000 : Int)))))) (Tree.branch (decide (c + ((2 : Int) * x * (d - c) + ((1 : Int) + Int.tmod y (5000 : Int))) / ((2 : Int) * ((1 : Int) + Int.tmod y (5000 : Int))) ≤ cvHi a b c d (a + ((2 : Int) * x * (b - a) + ((1 : Int) + Int.tmod y (5000 : Int))) / ((2 : Int) * ((1 : Int) + Int.tmod y (5000 : Int)))) (a + ((2 : Int) * x * (b - a) + ((1 : Int) + Int.tmod y (5000 : Int))) / ((2 : Int) * ((1 : Int) + Int.tmod y (5000 : Int)))))) (Tree.branch (hgErr a b (a + ((2 : Int) * x * (b - a) + ((1 : Int) + Int.tmod y (5000 : Int))) / ((2 : Int) * ((1 : Int) + Int.tmod y (5000 : Int)))) (a + ((2 : Int) * x * (b - a) + ((1 : Int) + Int.tmod y (5000 : Int))) / ((2 : Int) * ((1 : Int) + Int.tmod y (5000 : Int)))) == (0 : Int)) (Tree.need [inI64 ((if hgOk a b (a + ((2 : Int) * x * (b - a) + ((1 : Int) + Int.tmod y (5000 : Int))) / ((2 : Int) * ((1 : Int) + Int.tmod y (5000 : Int)))) (a + ((2 : Int) * x * (b - a) + ((1 : Int) + Int.tmod y (5000 : Int))) / ((2 : Int) * ((1 : Int) + Int.tmod y (5000 : Int)))) = true then hgLo a b (a + ((2 : Int) * x * (b - a) + ((1 : Int) + Int.tmod y (5000 : Int))) / ((2 : Int) * ((1 : Int) + Int.tmod y (5000 : Int)))) (a + ((2 : Int) * x * (b - a) + ((1 : Int) + Int.tmod y (5000 : Int))) / ((2 : Int) * ((1 : Int) + Int.tmod y (5000 : Int)))) else (0 : Int)) * ((1 : Int) + Int.tmod y (5000 : Int)))] (Tree.need [inI64 ((1000 : Int) * x)] (Tree.branch (decide ((if hgOk a b (a + ((2 : Int) * x * (b - a) + ((1 : Int) + Int.tmod y (5000 : Int))) / ((2 : Int) * ((1 : Int) + Int.tmod y (5000 : Int)))) (a + ((2 : Int) * x * (b - a) + ((1 : Int) + Int.tmod y (5000 : Int))) / ((2 : Int) * ((1 : Int) + Int.tmod y (5000 : Int)))) = true then hgLo a b (a + ((2 : Int) * x * (b - a) + ((1 : Int) + Int.tmod y (5000 : Int))) / ((2 : Int) * ((1 : Int) + Int.tmod y (5000 : Int)))) (a + ((2 : Int) * x * (b - a) + ((1 : Int) + Int.tmod y (5000 : Int))) / ((2 : Int) * ((1 : Int) + Int.tmod y (5000 : Int)))) else (0 : Int)) * ((1 : Int) + Int.tmod y (5000 : Int)) ≤ (1000 : Int) * x)) (Tree.need [inI64 ((1000 : Int) * x)] (Tree.need [inI64 ((if hgOk a b (a + ((2 : Int) * x * (b - a) + ((1 : Int) + Int.tmod y (5000 : Int))) / ((2 : Int) * ((1 : Int) + Int.tmod y (5000 : Int)))) (a + ((2 : Int) * x * (b - a) + ((1 : Int) + Int.tmod y (5000 : Int))) / ((2 : Int) * ((1 : Int) + Int.tmod y (5000 : Int)))) = true then hgHi a b (a + ((2 : Int) * x * (b - a) + ((1 : Int) + Int.tmod y (5000 : Int))) / ((2 : Int) * ((1 : Int) + Int.tmod y (5000 : Int)))) (a + ((2 : Int) * x * (b - a) + ((1 : Int) + Int.tmod y (5000 : Int))) / ((2 : Int) * ((1 : Int) + Int.tmod y (5000 : Int)))) else (0 : Int)) * ((1 : Int) + Int.tmod y (5000 : Int)))] (Tree.branch (decide ((1000 : Int) * x ≤ (if hgOk a b (a + ((2 : Int) * x * (b - a) + ((1 : Int) + Int.tmod y (5000 : Int))) / ((2 : Int) * ((1 : Int) + Int.tmod y (5000 : Int)))) (a + ((2 : Int) * x * (b - a) + ((1 : Int) + Int.tmod y (5000 : Int))) / ((2 : Int) * ((1 : Int) + Int.tmod y (5000 : Int)))) = true then hgHi a b (a + ((2 : Int) * x * (b - a) + ((1 : Int) + Int.tmod y (5000 : Int))) / ((2 : Int) * ((1 : Int) + Int.tmod y (5000 : Int)))) (a + ((2 : Int) * x * (b - a) + ((1 : Int) + Int.tmod y (5000 : Int))) / ((2 : Int) * ((1 : Int) + Int.tmod y (5000 : Int)))) else (0 : Int)) * ((1 : Int) + Int.tmod y (5000 : Int)))) (Tree.leaf (RV.x (Value.bool true))) (Tree.leaf (RV.x (Value.bool false)))))) (Tree.leaf (RV.x (Value.bool false)))))) (Tree.leaf (RV.x (Value.bool false)))) (Tree.leaf (RV.x (Value.bool false)))) (Tree.leaf (RV.x (Value.bool false)))) (Tree.leaf (RV.x (Value.bool false))))))))))))))))) (by kernel_rfl) ?_
  have et : Int.tmod y 5000 = y % 5000 := Int.tmod_eq_emod_of_nonneg pre1.1
  generalize hO : 1 + Int.tmod y 5000 = o at *
  have ho : 1 ≤ o ∧ o ≤ 5000 := by omega
  have en : ∀ p q : Int, p + (2 * x * (q - p) + o) / (2 * o) = nrI p q x o := fun p q => rfl
  simp only [Tree.sat, allP, fitP, valEq, true_and, and_true, en]
  cases v1 : scB a b
  · simp
  cases v2 : scB c d
  · simp
  have s1 := scB_bd v1
  have s2 := scB_bd v2
  by_cases hx1 : x < -100 * o
  · simp [hx1, inI64]; omega
  by_cases hx2 : x > 100 * o
  · simp [hx1, hx2, inI64]; omega
  have hx : -(100 * o) ≤ x ∧ x ≤ 100 * o := by omega
  have hA := nr_holds (x := x) s1.2.2.2.2 ho.1
  have hC := nr_holds (x := x) s2.2.2.2.2 ho.1
  have lA := nr_le (a := a) (b := b) (x := x) (o := o) (by omega) ho.1 hx
  have hn := st_near s1 s2 ho.1 hx hA
  obtain ⟨hp, _⟩ := st_point s1 s2 (show -1000000 ≤ nrI a b x o ∧ nrI a b x o ≤ nrI a b x o ∧ nrI a b x o ≤ 1000000 by omega) (show 0 < o by omega) hA
  have hY := hp _ hC
  have hg := hg_point (show 0 < o by omega) s1.2.2.2.2 hA
  have hin : insB (-1000000) (nrI a b x o) (nrI a b x o) 1000000 = true := (insB_iff _ _ _ _).2 (by omega)
  have hE : hgErr a b (nrI a b x o) (nrI a b x o) = 0 := by simp [hgErr, v1, hin]
  have hK : hgOk a b (nrI a b x o) (nrI a b x o) = true := by simp [hgOk, v1, hin]
  have hgb : -3000000000 ≤ hgLo a b (nrI a b x o) (nrI a b x o) ∧ hgLo a b (nrI a b x o) (nrI a b x o) ≤ 3000000000 ∧ -3000000000 ≤ hgHi a b (nrI a b x o) (nrI a b x o) ∧ hgHi a b (nrI a b x o) (nrI a b x o) ≤ 3000000000 := by
    have z := sizeI_pos s1.2.2.2.2
    have al := al_bdx (a := a) (b := b) (lo := nrI a b x o) (hi := nrI a b x o) (R := 1000000) (by omega) (by omega)
    have d1 := div_bd (n := 1000 * alLo a b (nrI a b x o) (nrI a b x o)) (d := sizeI a b) (N := 3000000000) (by omega) (by omega)
    have d2 := ce_bd (n := 1000 * alHi a b (nrI a b x o) (nrI a b x o)) (d := sizeI a b) (N := 3000000000) (by omega) (by omega)
    unfold hgLo hgHi
    omega
  have g1 := mul_bd (x := hgLo a b (nrI a b x o) (nrI a b x o)) (y := o) (X := 3000000000) (Y := 5000) (by omega) (by omega)
  have g2 := mul_bd (x := hgHi a b (nrI a b x o) (nrI a b x o)) (y := o) (X := 3000000000) (Y := 5000) (by omega) (by omega)
  rcases cv_cases v1 v2 (show -1000000 ≤ nrI a b x o ∧ nrI a b x o ≤ nrI a b x o ∧ nrI a b x o ≤ 1000000 by omega) with ⟨_, _, _, f4⟩ | ⟨e1, e2, e3, e4, e5, e6⟩
  · exact absurd hn f4
  · simp only [e1, e2, e3, hE, hK, if_true, inI64]
    simp [hx1, hx2, hY.1, hY.2, hg.1, hg.2]
    omega

end Go.Proofs.Ytchcegfhamngkaa
