/- Contracts of functions of the program, by the engine Sx: what each call comes to. Printed by a program of this repo (sxgen.py). -/
import Derived.Test.YtchcegfhamngkaaPtE
set_option linter.unusedSimpArgs false
set_option linter.unusedVariables false
namespace Go.Proofs.Ytchcegfhamngkaa
open Go Go.Sx Go.RowKit

def wy (c d : Int) : Int := if d < c then -1 else 1
/-- The first number of steps at which a reading is not too low; the last one at which it is not too high. -/
def stF (a b c d lo hi : Int) : Int := ceI (alLo a b lo hi * sizeI c d - sizeI a b) (2 * sizeI a b)
def stL (a b c d lo hi : Int) : Int := (alHi a b lo hi * sizeI c d + sizeI a b) / (2 * sizeI a b)
theorem al_wy {c d n : Int} (h : c ≠ d) : alHi c d (c + wy c d * n) (c + wy c d * n) = 2 * n + 1 ∧ alLo c d (c + wy c d * n) (c + wy c d * n) = 2 * n - 1 := by
  unfold alHi alLo wy
  split
  · rw [if_neg (by omega)]; omega
  · rw [if_pos (by omega)]; omega
theorem low_wy {a b c d lo hi n : Int} (h : c ≠ d) (hs : 2 ≤ sizeI a b) : lowB c d (c + wy c d * n) a b lo hi = decide (n < stF a b c d lo hi) := by
  unfold lowB stF ceI
  rw [(al_wy h).1]
  rw [Bool.eq_iff_iff, decide_eq_true_eq, decide_eq_true_eq]
  have e : (2 * n + 1) * sizeI a b = n * (2 * sizeI a b) + sizeI a b := by rw [Int.add_mul, Int.mul_comm 2 n, Int.mul_assoc]; omega
  rw [e]
  have key : (-(alLo a b lo hi * sizeI c d - sizeI a b)) / (2 * sizeI a b) < -n ↔ -(alLo a b lo hi * sizeI c d - sizeI a b) < -n * (2 * sizeI a b) := Int.ediv_lt_iff_lt_mul (by omega)
  rw [Int.neg_mul] at key
  omega
theorem high_wy {a b c d lo hi n : Int} (h : c ≠ d) (hs : 2 ≤ sizeI a b) : highB c d (c + wy c d * n) a b lo hi = decide (stL a b c d lo hi < n) := by
  unfold highB stL
  rw [(al_wy h).2]
  rw [Bool.eq_iff_iff, decide_eq_true_eq, decide_eq_true_eq]
  have e : (2 * n - 1) * sizeI a b = n * (2 * sizeI a b) - sizeI a b := by rw [Int.sub_mul, Int.mul_comm 2 n, Int.mul_assoc]; omega
  rw [e]
  have key : (alHi a b lo hi * sizeI c d + sizeI a b) / (2 * sizeI a b) < n ↔ (alHi a b lo hi * sizeI c d + sizeI a b) < n * (2 * sizeI a b) := Int.ediv_lt_iff_lt_mul (by omega)
  omega
theorem stF_bd {a b c d lo hi : Int} (h : -1000 ≤ a ∧ a ≤ 1000 ∧ -1000 ≤ b ∧ b ≤ 1000 ∧ a ≠ b) (k : -1000 ≤ c ∧ c ≤ 1000 ∧ -1000 ≤ d ∧ d ≤ 1000 ∧ c ≠ d) (r : -1000000 ≤ lo ∧ lo ≤ hi ∧ hi ≤ 1000000) :
    -16000000000 ≤ stF a b c d lo hi ∧ stF a b c d lo hi ≤ stL a b c d lo hi ∧ stL a b c d lo hi ≤ 16000000000 := by
  have e := al_bdx (a := a) (b := b) (lo := lo) (hi := hi) (R := 1000000) (by omega) (by omega)
  have s1 := sizeI_pos h.2.2.2.2
  have s2 := sizeI_le (a := a) (b := b) (by omega)
  have s3 := sizeI_pos k.2.2.2.2
  have s4 := sizeI_le (a := c) (b := d) (by omega)
  have m1 := mul_bd (x := alLo a b lo hi) (y := sizeI c d) (X := 2002001) (Y := 4000) (by omega) (by omega)
  have m2 := mul_bd (x := alHi a b lo hi) (y := sizeI c d) (X := 2002001) (Y := 4000) (by omega) (by omega)
  have f1 := ce_bd (n := alLo a b lo hi * sizeI c d - sizeI a b) (d := 2 * sizeI a b) (N := 9000000000) (by omega) (by omega)
  have f2 := div_bd (n := alHi a b lo hi * sizeI c d + sizeI a b) (d := 2 * sizeI a b) (N := 9000000000) (by omega) (by omega)
  refine ⟨by unfold stF; omega, ?_, by unfold stL; omega⟩
  unfold stL
  rw [Int.le_ediv_iff_mul_le (by omega)]
  have hm : (alLo a b lo hi + 1) * sizeI c d ≤ alHi a b lo hi * sizeI c d := Int.mul_le_mul_of_nonneg_right (by omega) (by omega)
  rw [Int.add_mul] at hm
  have hc : stF a b c d lo hi * (2 * sizeI a b) < alLo a b lo hi * sizeI c d - sizeI a b + 2 * sizeI a b := by
    have := Int.lt_ediv_add_one_mul_self (-(alLo a b lo hi * sizeI c d - sizeI a b)) (show 0 < 2 * sizeI a b by omega)
    unfold stF ceI
    rw [Int.neg_mul]
    rw [Int.add_mul] at this
    omega
  omega

noncomputable def E_st1 (a b c d lo hi : Int) : St := (some
  {
    σ :=
      [AV.agg [AV.x (Value.int IntKind.i64 a), AV.x (Value.int IntKind.i64 b)],
        AV.agg [AV.x (Value.int IntKind.i64 c), AV.x (Value.int IntKind.i64 d)],
        AV.agg [AV.x (Value.int IntKind.i64 lo), AV.x (Value.int IntKind.i64 hi)], AV.ptr (0 : Nat) (0 : Nat),
        AV.ptr (1 : Nat) (0 : Nat), AV.ptr (2 : Nat) (0 : Nat), AV.ptr (3 : Nat) (0 : Nat),
        AV.x (Value.int IntKind.i64 (1 : Int)), AV.top, AV.top, AV.top, AV.top, AV.top, AV.top, AV.top,
        AV.ptr (1 : Nat) (1 : Nat), AV.x (Value.int IntKind.i64 d), AV.ptr (1 : Nat) (0 : Nat),
        AV.x (Value.int IntKind.i64 c), AV.lit false, AV.top, AV.top, AV.top, AV.top, AV.top, AV.top, AV.top, AV.top,
        AV.top, AV.top, AV.top, AV.top, AV.top, AV.top, AV.top, AV.top, AV.top, AV.top, AV.top, AV.top, AV.top, AV.top,
        AV.top, AV.top, AV.top, AV.top, AV.top, AV.top, AV.top, AV.top, AV.top, AV.top, AV.top, AV.top, AV.top, AV.top,
        AV.top, AV.top, AV.top, AV.top, AV.top, AV.top, AV.top, AV.top, AV.top, AV.top, AV.top, AV.top, AV.top, AV.top,
        AV.top, AV.top, AV.top, AV.top, AV.top, AV.top, AV.top, AV.top, AV.top, AV.top],
    m :=
      [((3 : Nat),
          Res.cells (24 : Nat) [AV.x (Value.int IntKind.i64 (0 : Int)), AV.x (Value.int IntKind.i64 (0 : Int))]),
        ((2 : Nat), Res.cells (24 : Nat) [AV.x (Value.int IntKind.i64 lo), AV.x (Value.int IntKind.i64 hi)]),
        ((1 : Nat), Res.cells (40 : Nat) [AV.x (Value.int IntKind.i64 c), AV.x (Value.int IntKind.i64 d)]),
        ((0 : Nat), Res.cells (40 : Nat) [AV.x (Value.int IntKind.i64 a), AV.x (Value.int IntKind.i64 b)])],
    nx := (12 : Nat) } : Option St).getD { σ := [], m := [], nx := 0 }
noncomputable def B_st1 : Code := loopBody (loopAt (bodyOf Try.f24) 0)
noncomputable def inv_st1 (a b c d lo hi : Int) (l h : Int) : St := { σ := ovrS [(7, i (wy c d)), (8, i l), (9, i h), (19, .top)] (E_st1 a b c d lo hi).σ, m := (E_st1 a b c d lo hi).m, nx := (E_st1 a b c d lo hi).nx }
noncomputable def out_st1 (a b c d lo hi : Int) (l h : Int) : AEx → Option St := fun ex => match ex with
  | .exit 0 => some { σ := ovrS [(7, i (wy c d)), (9, i (stF a b c d lo hi)), (19, .top)] (E_st1 a b c d lo hi).σ, m := (E_st1 a b c d lo hi).m, nx := (E_st1 a b c d lo hi).nx }
  | _ => none
noncomputable def T_st1 (a b c d lo hi : Int) : CT := .leaf (.exit 0, ( out_st1 a b c d lo hi 0 0 (.exit 0)).getD (E_st1 a b c d lo hi))
noncomputable def LS_st1 (a b c d lo hi : Int) : LSpec := (sumL (inv_st1 a b c d lo hi (-17179869184) (17179869184)) (T_st1 a b c d lo hi))
set_option maxRecDepth 100000 in
theorem st1_ls (a b c d lo hi : Int) (pre0 : -1000 ≤ a ∧ a ≤ 1000 ∧ -1000 ≤ b ∧ b ≤ 1000 ∧ a ≠ b) (pre1 : -1000 ≤ c ∧ c ≤ 1000 ∧ -1000 ≤ d ∧ d ≤ 1000 ∧ c ≠ d) (pre2 : -1000000 ≤ lo ∧ lo ≤ hi ∧ hi ≤ 1000000) : LSound Try.prog (.loop B_st1) (LS_st1 a b c d lo hi) := by
  refine loop_rounds (G := [(57, S_rFloor), (58, S_rLow)]) (L := []) (SoundG.cons rFloor_ok (SoundG.cons rLow_ok (SoundG.nil _))) mixed noLoops (X := Int × Int) (fun x => inv_st1 a b c d lo hi x.1 x.2) (fun x => (fun (l h : Int) => -17179869184 ≤ l ∧ l < stF a b c d lo hi ∧ stF a b c d lo hi ≤ h ∧ h ≤ 17179869184) x.1 x.2) (fun x => (fun (l h : Int) => (h - l).toNat) x.1 x.2) (fun x => out_st1 a b c d lo hi x.1 x.2) (x0 := (-17179869184, 17179869184)) (by have := stF_bd pre0 pre1 pre2; dsimp only; omega) ?_ ?_ ?_
  · rintro ⟨l, h⟩
    kernel_rfl
  · rintro ⟨l, h⟩ y E h
    dsimp only at h
    unfold out_st1 at h
    split at h
    · cases h; kernel_rfl
    · cases h
  · rintro Q hQ ⟨l, h⟩ hx
    refine ⟨(if lowB c d (c + wy c d * ((l + h) / 2)) a b lo hi then (l + h) / 2 else l, if lowB c d (c + wy c d * ((l + h) / 2)) a b lo hi then h else (l + h) / 2), ?_⟩
    dsimp only at hx ⊢
    have e : roundT Try.prog [(57, S_rFloor), (58, S_rLow)] [] B_st1 (inv_st1 a b c d lo hi l h) (inv_st1 a b c d lo hi (if lowB c d (c + wy c d * ((l + h) / 2)) a b lo hi then (l + h) / 2 else l) (if lowB c d (c + wy c d * ((l + h) / 2)) a b lo hi then h else (l + h) / 2)) (out_st1 a b c d lo hi l h) = (Tree.need [inI64 (h - l)] (Tree.branch (decide (h - l > (1 : Int))) (Tree.need [inI64 (l + h)] (Tree.need [(-4611686018427387904 : Int) ≤ l + h ∧ l + h ≤ (4611686018427387904 : Int), (1 : Int) ≤ (2 : Int) ∧ (2 : Int) ≤ (4000000000000 : Int)] (Tree.need [inI64 (wy c d * ((l + h) / (2 : Int)))] (Tree.need [inI64 (c + wy c d * ((l + h) / (2 : Int)))] (Tree.need [(-1000 : Int) ≤ a ∧ a ≤ (1000 : Int) ∧ (-1000 : Int) ≤ b ∧ b ≤ (1000 : Int) ∧ (-1000 : Int) ≤ c ∧ c ≤ (1000 : Int) ∧ (-1000 : Int) ≤ d ∧ d ≤ (1000 : Int), (-1000000 : Int) ≤ lo ∧ lo ≤ hi ∧ hi ≤ (1000000 : Int), (-100000000000 : Int) ≤ c + wy c d * ((l + h) / (2 : Int)) ∧ c + wy c d * ((l + h) / (2 : Int)) ≤ (100000000000 : Int)] (Tree.branch (lowB c d (c + wy c d * ((l + h) / (2 : Int))) a b lo hi) (Tree.need [AV.agg [iI a, iI b] = AV.agg [iI a, iI b], AV.agg [iI c, iI d] = AV.agg [iI c, iI d], AV.agg [iI lo, iI hi] = AV.agg [iI lo, iI hi], AV.ptr 0 0 = AV.ptr 0 0, AV.ptr 1 0 = AV.ptr 1 0, AV.ptr 2 0 = AV.ptr 2 0, AV.ptr 3 0 = AV.ptr 3 0, wy c d = wy c d, (l + h) / (2 : Int) = if lowB c d (c + wy c d * ((l + h) / (2 : Int))) a b lo hi = true then (l + h) / (2 : Int) else l, h = if lowB c d (c + wy c d * ((l + h) / (2 : Int))) a b lo hi = true then h else (l + h) / (2 : Int), AV.ptr 1 1 = AV.ptr 1 1, d = d, AV.ptr 1 0 = AV.ptr 1 0, c = c, (0 : Int) = (0 : Int), (0 : Int) = (0 : Int), lo = lo, hi = hi, c = c, d = d, a = a, b = b] (Tree.leaf AEx.normal)) (Tree.need [AV.agg [iI a, iI b] = AV.agg [iI a, iI b], AV.agg [iI c, iI d] = AV.agg [iI c, iI d], AV.agg [iI lo, iI hi] = AV.agg [iI lo, iI hi], AV.ptr 0 0 = AV.ptr 0 0, AV.ptr 1 0 = AV.ptr 1 0, AV.ptr 2 0 = AV.ptr 2 0, AV.ptr 3 0 = AV.ptr 3 0, wy c d = wy c d, l = if lowB c d (c + wy c d * ((l + h) / (2 : Int))) a b lo hi = true then (l + h) / (2 : Int) else l, (l + h) / (2 : Int) = if lowB c d (c + wy c d * ((l + h) / (2 : Int))) a b lo hi = true then h else (l + h) / (2 : Int), AV.ptr 1 1 = AV.ptr 1 1, d = d, AV.ptr 1 0 = AV.ptr 1 0, c = c, (0 : Int) = (0 : Int), (0 : Int) = (0 : Int), lo = lo, hi = hi, c = c, d = d, a = a, b = b] (Tree.leaf AEx.normal)))))))) (Tree.need [AV.agg [iI a, iI b] = AV.agg [iI a, iI b], AV.agg [iI c, iI d] = AV.agg [iI c, iI d], AV.agg [iI lo, iI hi] = AV.agg [iI lo, iI hi], AV.ptr 0 0 = AV.ptr 0 0, AV.ptr 1 0 = AV.ptr 1 0, AV.ptr 2 0 = AV.ptr 2 0, AV.ptr 3 0 = AV.ptr 3 0, wy c d = wy c d, h = stF a b c d lo hi, AV.ptr 1 1 = AV.ptr 1 1, d = d, AV.ptr 1 0 = AV.ptr 1 0, c = c, (0 : Int) = (0 : Int), (0 : Int) = (0 : Int), lo = lo, hi = hi, c = c, d = d, a = a, b = b] (Tree.leaf (AEx.exit 0))))) := by kernel_rfl
    rw [e]
    obtain ⟨f1, f2, f3⟩ := stF_bd pre0 pre1 pre2
    have s1 := sizeI_pos pre0.2.2.2.2
    have hw : (l + h) / 2 * 1 = (l + h) / 2 := by omega
    have hwy : wy c d * ((l + h) / 2) = (l + h) / 2 ∨ wy c d * ((l + h) / 2) = -((l + h) / 2) := by unfold wy; split <;> simp
    simp only [T_st1, out_st1, Tree.sat, Option.getD_some] at hQ
    simp only [Tree.sat, allP, true_and, and_true, decide_eq_true_eq, decide_eq_false_iff_not, inI64, out_st1, low_wy pre1.2.2.2.2 s1]
    refine ⟨by omega, fun h1 => ⟨by omega, by omega, by omega, by omega, by omega, fun h2 => ?_, fun h2 => ?_⟩, fun h1 => ?_⟩
    · simp only [h2, if_true, if_false, decide_true, true_and, and_true]
      omega
    · simp only [h2, if_true, if_false, decide_false, Bool.false_eq_true, true_and, and_true]
      omega
    · refine ⟨by omega, fun E hE => ?_⟩
      cases hE
      exact hQ

noncomputable def E_st2 (a b c d lo hi : Int) : St := (some
  {
    σ :=
      [AV.agg [AV.x (Value.int IntKind.i64 a), AV.x (Value.int IntKind.i64 b)],
        AV.agg [AV.x (Value.int IntKind.i64 c), AV.x (Value.int IntKind.i64 d)],
        AV.agg [AV.x (Value.int IntKind.i64 lo), AV.x (Value.int IntKind.i64 hi)], AV.ptr (0 : Nat) (0 : Nat),
        AV.ptr (1 : Nat) (0 : Nat), AV.ptr (2 : Nat) (0 : Nat), AV.ptr (3 : Nat) (0 : Nat),
        AV.x (Value.int IntKind.i64 (wy c d)), AV.top, AV.top, AV.top, AV.x (Value.int IntKind.i64 (stF a b c d lo hi)),
        AV.top, AV.top, AV.top, AV.ptr (1 : Nat) (1 : Nat), AV.x (Value.int IntKind.i64 d), AV.ptr (1 : Nat) (0 : Nat),
        AV.x (Value.int IntKind.i64 c), AV.top, AV.top, AV.top, AV.top, AV.top, AV.top, AV.top, AV.top, AV.top, AV.top,
        AV.top, AV.top, AV.top, AV.top, AV.top, AV.top, AV.top, AV.top, AV.top, AV.top, AV.top,
        AV.x (Value.int IntKind.i64 (stF a b c d lo hi)), AV.top, AV.top, AV.top, AV.top, AV.top, AV.top, AV.top,
        AV.top, AV.top, AV.top, AV.top, AV.top, AV.top, AV.top, AV.top, AV.top, AV.top, AV.top, AV.top, AV.top, AV.top,
        AV.top, AV.top, AV.top, AV.top, AV.top, AV.top, AV.top, AV.top, AV.top, AV.top, AV.top, AV.top, AV.top, AV.top,
        AV.top, AV.top, AV.top, AV.top],
    m :=
      [((3 : Nat),
          Res.cells (24 : Nat) [AV.x (Value.int IntKind.i64 (0 : Int)), AV.x (Value.int IntKind.i64 (0 : Int))]),
        ((2 : Nat), Res.cells (24 : Nat) [AV.x (Value.int IntKind.i64 lo), AV.x (Value.int IntKind.i64 hi)]),
        ((1 : Nat), Res.cells (40 : Nat) [AV.x (Value.int IntKind.i64 c), AV.x (Value.int IntKind.i64 d)]),
        ((0 : Nat), Res.cells (40 : Nat) [AV.x (Value.int IntKind.i64 a), AV.x (Value.int IntKind.i64 b)])],
    nx := (16 : Nat) } : Option St).getD { σ := [], m := [], nx := 0 }
noncomputable def B_st2 : Code := loopBody (loopAt (bodyOf Try.f24) 1)
noncomputable def inv_st2 (a b c d lo hi : Int) (l h : Int) : St := { σ := ovrS [(7, i (wy c d)), (8, i l), (9, i h), (11, i (stF a b c d lo hi)), (19, .top)] (E_st2 a b c d lo hi).σ, m := (E_st2 a b c d lo hi).m, nx := (E_st2 a b c d lo hi).nx }
noncomputable def out_st2 (a b c d lo hi : Int) (l h : Int) : AEx → Option St := fun ex => match ex with
  | .exit 2 => some { σ := ovrS [(7, i (wy c d)), (8, i (stL a b c d lo hi)), (11, i (stF a b c d lo hi)), (19, .top)] (E_st2 a b c d lo hi).σ, m := (E_st2 a b c d lo hi).m, nx := (E_st2 a b c d lo hi).nx }
  | _ => none
noncomputable def T_st2 (a b c d lo hi : Int) : CT := .leaf (.exit 2, ( out_st2 a b c d lo hi 0 0 (.exit 2)).getD (E_st2 a b c d lo hi))
noncomputable def LS_st2 (a b c d lo hi : Int) : LSpec := (sumL (inv_st2 a b c d lo hi (-17179869184) (17179869184)) (T_st2 a b c d lo hi))
set_option maxRecDepth 100000 in
theorem st2_ls (a b c d lo hi : Int) (pre0 : -1000 ≤ a ∧ a ≤ 1000 ∧ -1000 ≤ b ∧ b ≤ 1000 ∧ a ≠ b) (pre1 : -1000 ≤ c ∧ c ≤ 1000 ∧ -1000 ≤ d ∧ d ≤ 1000 ∧ c ≠ d) (pre2 : -1000000 ≤ lo ∧ lo ≤ hi ∧ hi ≤ 1000000) : LSound Try.prog (.loop B_st2) (LS_st2 a b c d lo hi) := by
  refine loop_rounds (G := [(57, S_rFloor), (59, S_rHigh)]) (L := []) (SoundG.cons rFloor_ok (SoundG.cons rHigh_ok (SoundG.nil _))) mixed noLoops (X := Int × Int) (fun x => inv_st2 a b c d lo hi x.1 x.2) (fun x => (fun (l h : Int) => -17179869184 ≤ l ∧ l ≤ stL a b c d lo hi ∧ stL a b c d lo hi < h ∧ h ≤ 17179869184) x.1 x.2) (fun x => (fun (l h : Int) => (h - l).toNat) x.1 x.2) (fun x => out_st2 a b c d lo hi x.1 x.2) (x0 := (-17179869184, 17179869184)) (by have := stF_bd pre0 pre1 pre2; dsimp only; omega) ?_ ?_ ?_
  · rintro ⟨l, h⟩
    kernel_rfl
  · rintro ⟨l, h⟩ y E h
    dsimp only at h
    unfold out_st2 at h
    split at h
    · cases h; kernel_rfl
    · cases h
  · rintro Q hQ ⟨l, h⟩ hx
    refine ⟨(if highB c d (c + wy c d * ((l + h) / 2)) a b lo hi then l else (l + h) / 2, if highB c d (c + wy c d * ((l + h) / 2)) a b lo hi then (l + h) / 2 else h), ?_⟩
    dsimp only at hx ⊢
    have e : roundT Try.prog [(57, S_rFloor), (59, S_rHigh)] [] B_st2 (inv_st2 a b c d lo hi l h) (inv_st2 a b c d lo hi (if highB c d (c + wy c d * ((l + h) / 2)) a b lo hi then l else (l + h) / 2) (if highB c d (c + wy c d * ((l + h) / 2)) a b lo hi then (l + h) / 2 else h)) (out_st2 a b c d lo hi l h) = (Tree.need [inI64 (h - l)] (Tree.branch (decide (h - l > (1 : Int))) (Tree.need [inI64 (l + h)] (Tree.need [(-4611686018427387904 : Int) ≤ l + h ∧ l + h ≤ (4611686018427387904 : Int), (1 : Int) ≤ (2 : Int) ∧ (2 : Int) ≤ (4000000000000 : Int)] (Tree.need [inI64 (wy c d * ((l + h) / (2 : Int)))] (Tree.need [inI64 (c + wy c d * ((l + h) / (2 : Int)))] (Tree.need [(-1000 : Int) ≤ a ∧ a ≤ (1000 : Int) ∧ (-1000 : Int) ≤ b ∧ b ≤ (1000 : Int) ∧ (-1000 : Int) ≤ c ∧ c ≤ (1000 : Int) ∧ (-1000 : Int) ≤ d ∧ d ≤ (1000 : Int), (-1000000 : Int) ≤ lo ∧ lo ≤ hi ∧ hi ≤ (1000000 : Int), (-100000000000 : Int) ≤ c + wy c d * ((l + h) / (2 : Int)) ∧ c + wy c d * ((l + h) / (2 : Int)) ≤ (100000000000 : Int)] (Tree.branch (highB c d (c + wy c d * ((l + h) / (2 : Int))) a b lo hi) (Tree.need [AV.agg [iI a, iI b] = AV.agg [iI a, iI b], AV.agg [iI c, iI d] = AV.agg [iI c, iI d], AV.agg [iI lo, iI hi] = AV.agg [iI lo, iI hi], AV.ptr 0 0 = AV.ptr 0 0, AV.ptr 1 0 = AV.ptr 1 0, AV.ptr 2 0 = AV.ptr 2 0, AV.ptr 3 0 = AV.ptr 3 0, wy c d = wy c d, l = if highB c d (c + wy c d * ((l + h) / (2 : Int))) a b lo hi = true then l else (l + h) / (2 : Int), (l + h) / (2 : Int) = if highB c d (c + wy c d * ((l + h) / (2 : Int))) a b lo hi = true then (l + h) / (2 : Int) else h, stF a b c d lo hi = stF a b c d lo hi, AV.ptr 1 1 = AV.ptr 1 1, d = d, AV.ptr 1 0 = AV.ptr 1 0, c = c, stF a b c d lo hi = stF a b c d lo hi, (0 : Int) = (0 : Int), (0 : Int) = (0 : Int), lo = lo, hi = hi, c = c, d = d, a = a, b = b] (Tree.leaf AEx.normal)) (Tree.need [AV.agg [iI a, iI b] = AV.agg [iI a, iI b], AV.agg [iI c, iI d] = AV.agg [iI c, iI d], AV.agg [iI lo, iI hi] = AV.agg [iI lo, iI hi], AV.ptr 0 0 = AV.ptr 0 0, AV.ptr 1 0 = AV.ptr 1 0, AV.ptr 2 0 = AV.ptr 2 0, AV.ptr 3 0 = AV.ptr 3 0, wy c d = wy c d, (l + h) / (2 : Int) = if highB c d (c + wy c d * ((l + h) / (2 : Int))) a b lo hi = true then l else (l + h) / (2 : Int), h = if highB c d (c + wy c d * ((l + h) / (2 : Int))) a b lo hi = true then (l + h) / (2 : Int) else h, stF a b c d lo hi = stF a b c d lo hi, AV.ptr 1 1 = AV.ptr 1 1, d = d, AV.ptr 1 0 = AV.ptr 1 0, c = c, stF a b c d lo hi = stF a b c d lo hi, (0 : Int) = (0 : Int), (0 : Int) = (0 : Int), lo = lo, hi = hi, c = c, d = d, a = a, b = b] (Tree.leaf AEx.normal)))))))) (Tree.need [AV.agg [iI a, iI b] = AV.agg [iI a, iI b], AV.agg [iI c, iI d] = AV.agg [iI c, iI d], AV.agg [iI lo, iI hi] = AV.agg [iI lo, iI hi], AV.ptr 0 0 = AV.ptr 0 0, AV.ptr 1 0 = AV.ptr 1 0, AV.ptr 2 0 = AV.ptr 2 0, AV.ptr 3 0 = AV.ptr 3 0, wy c d = wy c d, l = stL a b c d lo hi, stF a b c d lo hi = stF a b c d lo hi, AV.ptr 1 1 = AV.ptr 1 1, d = d, AV.ptr 1 0 = AV.ptr 1 0, c = c, stF a b c d lo hi = stF a b c d lo hi, (0 : Int) = (0 : Int), (0 : Int) = (0 : Int), lo = lo, hi = hi, c = c, d = d, a = a, b = b] (Tree.leaf (AEx.exit 2))))) := by kernel_rfl
    rw [e]
    obtain ⟨f1, f2, f3⟩ := stF_bd pre0 pre1 pre2
    have s1 := sizeI_pos pre0.2.2.2.2
    have hw : (l + h) / 2 * 1 = (l + h) / 2 := by omega
    have hwy : wy c d * ((l + h) / 2) = (l + h) / 2 ∨ wy c d * ((l + h) / 2) = -((l + h) / 2) := by unfold wy; split <;> simp
    simp only [T_st2, out_st2, Tree.sat, Option.getD_some] at hQ
    simp only [Tree.sat, allP, true_and, and_true, decide_eq_true_eq, decide_eq_false_iff_not, inI64, out_st2, high_wy pre1.2.2.2.2 s1]
    refine ⟨by omega, fun h1 => ⟨by omega, by omega, by omega, by omega, by omega, fun h2 => ?_, fun h2 => ?_⟩, fun h1 => ?_⟩
    · simp only [h2, if_true, if_false, decide_true, true_and, and_true]
      omega
    · simp only [h2, if_true, if_false, decide_false, Bool.false_eq_true, true_and, and_true]
      omega
    · refine ⟨by omega, fun E hE => ?_⟩
      cases hE
      exact hQ


theorem ce_two {n d : Int} (hd : 0 < d) : ceI (2 * n) (2 * d) = ceI n d := by
  unfold ceI
  rw [show -(2 * n) = 2 * (-n) by omega, Int.mul_ediv_mul_of_pos _ _ (by omega)]
theorem sizeI_even (a b : Int) : 2 * (sizeI a b / 2) = sizeI a b := by unfold sizeI; split <;> omega
theorem st_eq {a b c d lo hi : Int} (h : -1000 ≤ a ∧ a ≤ 1000 ∧ -1000 ≤ b ∧ b ≤ 1000 ∧ a ≠ b) (k : -1000 ≤ c ∧ c ≤ 1000 ∧ -1000 ≤ d ∧ d ≤ 1000 ∧ c ≠ d) (r : -1000000 ≤ lo ∧ lo ≤ hi ∧ hi ≤ 1000000) :
    min (c + wy c d * stF a b c d lo hi) (c + wy c d * stL a b c d lo hi) = stLo a b c d lo hi ∧ max (c + wy c d * stF a b c d lo hi) (c + wy c d * stL a b c d lo hi) = stHi a b c d lo hi := by
  obtain ⟨f1, f2, f3⟩ := stF_bd h k r
  have s1 := sizeI_pos h.2.2.2.2
  have s2 := sizeI_even a b
  have e := al_bdx (a := a) (b := b) (lo := lo) (hi := hi) (R := 1000000) (by omega) (by omega)
  by_cases hd : d < c
  · have w : wy c d = -1 := by simp [wy, hd]
    have z : sizeI c d = 2 * (c - d) := by unfold sizeI; rw [if_neg (by omega)]
    have m : alHi a b lo hi * (d - c) ≤ alLo a b lo hi * (d - c) := Int.mul_le_mul_of_nonpos_right (by omega) (by omega)
    have n1 : alHi a b lo hi * (d - c) = -(alHi a b lo hi * (c - d)) := by rw [← Int.mul_neg]; congr 1; omega
    have n2 : alLo a b lo hi * (d - c) = -(alLo a b lo hi * (c - d)) := by rw [← Int.mul_neg]; congr 1; omega
    have eA : stA a b c d lo hi = -(alHi a b lo hi * (c - d) + sizeI a b / 2) := by unfold stA; omega
    have eB : stB a b c d lo hi = -(alLo a b lo hi * (c - d) - sizeI a b / 2) := by unfold stB; omega
    have g1 : stL a b c d lo hi = (alHi a b lo hi * (c - d) + sizeI a b / 2) / sizeI a b := by
      unfold stL
      rw [z, show alHi a b lo hi * (2 * (c - d)) + sizeI a b = 2 * (alHi a b lo hi * (c - d) + sizeI a b / 2) by rw [Int.mul_left_comm]; omega, Int.mul_ediv_mul_of_pos _ _ (by omega)]
    have g2 : stF a b c d lo hi = ceI (alLo a b lo hi * (c - d) - sizeI a b / 2) (sizeI a b) := by
      unfold stF
      rw [z, show alLo a b lo hi * (2 * (c - d)) - sizeI a b = 2 * (alLo a b lo hi * (c - d) - sizeI a b / 2) by rw [Int.mul_left_comm]; omega, ce_two (by omega)]
    have h1 : stLo a b c d lo hi = c - stL a b c d lo hi := by
      unfold stLo ceI
      rw [eA, g1, Int.neg_neg]
      omega
    have h2 : stHi a b c d lo hi = c - stF a b c d lo hi := by
      unfold stHi
      rw [eB, g2]
      unfold ceI
      omega
    rw [w, h1, h2]
    omega
  · have w : wy c d = 1 := by simp [wy, hd]
    have z : sizeI c d = 2 * (d - c) := by unfold sizeI; rw [if_pos (by omega)]
    have m : alLo a b lo hi * (d - c) ≤ alHi a b lo hi * (d - c) := Int.mul_le_mul_of_nonneg_right (by omega) (by omega)
    have eA : stA a b c d lo hi = alLo a b lo hi * (d - c) - sizeI a b / 2 := by unfold stA; omega
    have eB : stB a b c d lo hi = alHi a b lo hi * (d - c) + sizeI a b / 2 := by unfold stB; omega
    have g1 : stL a b c d lo hi = (alHi a b lo hi * (d - c) + sizeI a b / 2) / sizeI a b := by
      unfold stL
      rw [z, show alHi a b lo hi * (2 * (d - c)) + sizeI a b = 2 * (alHi a b lo hi * (d - c) + sizeI a b / 2) by rw [Int.mul_left_comm]; omega, Int.mul_ediv_mul_of_pos _ _ (by omega)]
    have g2 : stF a b c d lo hi = ceI (alLo a b lo hi * (d - c) - sizeI a b / 2) (sizeI a b) := by
      unfold stF
      rw [z, show alLo a b lo hi * (2 * (d - c)) - sizeI a b = 2 * (alLo a b lo hi * (d - c) - sizeI a b / 2) by rw [Int.mul_left_comm]; omega, ce_two (by omega)]
    have h1 : stLo a b c d lo hi = c + stF a b c d lo hi := by
      unfold stLo
      rw [eA, g2]
    have h2 : stHi a b c d lo hi = c + stL a b c d lo hi := by
      unfold stHi
      rw [eB, g1]
    rw [w, h1, h2]
    omega

def S_rStands : Sx.Spec := fun l => match l with
  | [.agg [.x (.int .i64 a), .x (.int .i64 b)], .agg [.x (.int .i64 c), .x (.int .i64 d)], .agg [.x (.int .i64 lo), .x (.int .i64 hi)]] => some ([-1000 ≤ a ∧ a ≤ 1000 ∧ -1000 ≤ b ∧ b ≤ 1000 ∧ a ≠ b, -1000 ≤ c ∧ c ≤ 1000 ∧ -1000 ≤ d ∧ d ≤ 1000 ∧ c ≠ d, -1000000 ≤ lo ∧ lo ≤ hi ∧ hi ≤ 1000000], .agg [i (stLo a b c d lo hi), i (stHi a b c d lo hi)])
  | _ => none

set_option maxRecDepth 100000 in
theorem rStands_at (a b c d lo hi : Int) (pre0 : -1000 ≤ a ∧ a ≤ 1000 ∧ -1000 ≤ b ∧ b ≤ 1000 ∧ a ≠ b) (pre1 : -1000 ≤ c ∧ c ≤ 1000 ∧ -1000 ≤ d ∧ d ≤ 1000 ∧ c ≠ d) (pre2 : -1000000 ≤ lo ∧ lo ≤ hi ∧ hi ≤ 1000000) : SoundAt Try.prog 24 [.agg [i a, i b], .agg [i c, i d], .agg [i lo, i hi]] (.agg [i (stLo a b c d lo hi), i (stHi a b c d lo hi)]) := by
  refine soundAt_fin (G := [(57, S_rFloor), (58, S_rLow), (59, S_rHigh)]) (L := [LS_st1 a b c d lo hi, LS_st2 a b c d lo hi]) (SoundG.cons rFloor_ok (SoundG.cons rLow_ok (SoundG.cons rHigh_ok (SoundG.nil _)))) mixed Try.func24 (show Try.f24.body = some (bodyOf Try.f24) by kernel_rfl) (two_loops (fun cj hcj => by
    have e : loopAt (bodyOf Try.f24) 0 = some (.loop B_st1) := by kernel_rfl
    rw [e] at hcj; cases hcj
    exact st1_ls a b c d lo hi pre0 pre1 pre2) (fun cj hcj => by
    have e : loopAt (bodyOf Try.f24) 1 = some (.loop B_st2) := by kernel_rfl
    rw [e] at hcj; cases hcj
    exact st2_ls a b c d lo hi pre0 pre1 pre2)) (t := (Tree.branch (decide (d < c)) (Tree.need [AV.agg [iI a, iI b] = AV.agg [iI a, iI b], AV.agg [iI c, iI d] = AV.agg [iI c, iI d], AV.agg [iI lo, iI hi] = AV.agg [iI lo, iI hi], AV.ptr 0 0 = AV.ptr 0 0, AV.ptr 1 0 = AV.ptr 1 0, AV.ptr 2 0 = AV.ptr 2 0, AV.ptr 3 0 = AV.ptr 3 0, (-1 : Int) = wy c d, (-17179869184 : Int) = (-17179869184 : Int), (17179869184 : Int) = (17179869184 : Int), AV.ptr 1 1 = AV.ptr 1 1, d = d, AV.ptr 1 0 = AV.ptr 1 0, c = c, (0 : Int) = (0 : Int), (0 : Int) = (0 : Int), lo = lo, hi = hi, c = c, d = d, a = a, b = b] (Tree.need [AV.agg [iI a, iI b] = AV.agg [iI a, iI b], AV.agg [iI c, iI d] = AV.agg [iI c, iI d], AV.agg [iI lo, iI hi] = AV.agg [iI lo, iI hi], AV.ptr 0 0 = AV.ptr 0 0, AV.ptr 1 0 = AV.ptr 1 0, AV.ptr 2 0 = AV.ptr 2 0, AV.ptr 3 0 = AV.ptr 3 0, wy c d = wy c d, (-17179869184 : Int) = (-17179869184 : Int), (17179869184 : Int) = (17179869184 : Int), stF a b c d lo hi = stF a b c d lo hi, AV.ptr 1 1 = AV.ptr 1 1, d = d, AV.ptr 1 0 = AV.ptr 1 0, c = c, stF a b c d lo hi = stF a b c d lo hi, (0 : Int) = (0 : Int), (0 : Int) = (0 : Int), lo = lo, hi = hi, c = c, d = d, a = a, b = b] (Tree.need [inI64 (wy c d * stF a b c d lo hi)] (Tree.need [inI64 (c + wy c d * stF a b c d lo hi)] (Tree.need [inI64 (wy c d * stL a b c d lo hi)] (Tree.need [inI64 (c + wy c d * stL a b c d lo hi)] (Tree.leaf (RV.agg [RV.x (Value.int IntKind.i64 (min (c + wy c d * stF a b c d lo hi) (c + wy c d * stL a b c d lo hi))), RV.x (Value.int IntKind.i64 (max (c + wy c d * stF a b c d lo hi) (c + wy c d * stL a b c d lo hi)))])))))))) (Tree.need [AV.agg [iI a, iI b] = AV.agg [iI a, iI b], AV.agg [iI c, iI d] = AV.agg [iI c, iI d], AV.agg [iI lo, iI hi] = AV.agg [iI lo, iI hi], AV.ptr 0 0 = AV.ptr 0 0, AV.ptr 1 0 = AV.ptr 1 0, AV.ptr 2 0 = AV.ptr 2 0, AV.ptr 3 0 = AV.ptr 3 0, (1 : Int) = wy c d, (-17179869184 : Int) = (-17179869184 : Int), (17179869184 : Int) = (17179869184 : Int), AV.ptr 1 1 = AV.ptr 1 1, d = d, AV.ptr 1 0 = AV.ptr 1 0, c = c, (0 : Int) = (0 : Int), (0 : Int) = (0 : Int), lo = lo, hi = hi, c = c, d = d, a = a, b = b] (Tree.need [AV.agg [iI a, iI b] = AV.agg [iI a, iI b], AV.agg [iI c, iI d] = AV.agg [iI c, iI d], AV.agg [iI lo, iI hi] = AV.agg [iI lo, iI hi], AV.ptr 0 0 = AV.ptr 0 0, AV.ptr 1 0 = AV.ptr 1 0, AV.ptr 2 0 = AV.ptr 2 0, AV.ptr 3 0 = AV.ptr 3 0, wy c d = wy c d, (-17179869184 : Int) = (-17179869184 : Int), (17179869184 : Int) = (17179869184 : Int), stF a b c d lo hi = stF a b c d lo hi, AV.ptr 1 1 = AV.ptr 1 1, d = d, AV.ptr 1 0 = AV.ptr 1 0, c = c, stF a b c d lo hi = stF a b c d lo hi, (0 : Int) = (0 : Int), (0 : Int) = (0 : Int), lo = lo, hi = hi, c = c, d = d, a = a, b = b] (Tree.need [inI64 (wy c d * stF a b c d lo hi)] (Tree.need [inI64 (c + wy c d * stF a b c d lo hi)] (Tree.need [inI64 (wy c d * stL a b c d lo hi)] (Tree.need [inI64 (c + wy c d * stL a b c d lo hi)] (Tree.leaf (RV.agg [RV.x (Value.int IntKind.i64 (min (c + wy c d * stF a b c d lo hi) (c + wy c d * stL a b c d lo hi))), RV.x (Value.int IntKind.i64 (max (c + wy c d * stF a b c d lo hi) (c + wy c d * stL a b c d lo hi)))])))))))))) (by kernel_rfl) ?_
  obtain ⟨f1, f2, f3⟩ := stF_bd pre0 pre1 pre2
  obtain ⟨e1, e2⟩ := st_eq pre0 pre1 pre2
  have hw1 : wy c d * stF a b c d lo hi = stF a b c d lo hi ∨ wy c d * stF a b c d lo hi = -stF a b c d lo hi := by unfold wy; split <;> simp
  have hw2 : wy c d * stL a b c d lo hi = stL a b c d lo hi ∨ wy c d * stL a b c d lo hi = -stL a b c d lo hi := by unfold wy; split <;> simp
  simp only [Tree.sat, allP, fitP, fitL, valEq, inI64, true_and, and_true, decide_eq_true_eq, decide_eq_false_iff_not]
  refine ⟨fun h => ?_, fun h => ?_⟩
  · have w : wy c d = -1 := by simp [wy, h]
    rw [w] at e1 e2
    simp only [w]
    exact ⟨trivial, by omega, by omega, by omega, by omega, e1, e2⟩
  · have w : wy c d = 1 := by simp [wy, h]
    rw [w] at e1 e2
    simp only [w]
    exact ⟨trivial, by omega, by omega, by omega, by omega, e1, e2⟩
theorem rStands_ok : SoundSpec Try.prog 24 S_rStands := by
  refine ⟨⟨_, Try.func24, by kernel_rfl, by kernel_rfl⟩, ?_⟩
  intro avs ns res h hn
  unfold S_rStands at h
  split at h
  · cases h
    exact rStands_at _ _ _ _ _ _ (hn _ (by simp)) (hn _ (by simp)) (hn _ (by simp))
  · cases h

end Go.Proofs.Ytchcegfhamngkaa
