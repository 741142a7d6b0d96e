/- Contracts of functions of the program, by the engine Sx: what each call comes to. Printed by a program of this repo (sxgen.py). -/
import Derived.Test.YtchcegfhamngkaaPtY
import Derived.Test.YtchcegfhamngkaaSxZ
set_option linter.unusedSimpArgs false
set_option linter.unusedVariables false
namespace Go.Proofs.Ytchcegfhamngkaa
open Go Go.Sx Go.RowKit

theorem tabled_facts {n : Nat} {p q : Nat → Int} {u v : Int} (h : (decide (n ≤ 8) && (itB n p q && insB (p 0) u v (p (n - 1)))) = true) : n ≤ 8 ∧ 2 ≤ n ∧ itB n p q = true ∧ tabB n p q = true ∧ tbE n p q = 0 ∧ (p 0 ≤ u ∧ u ≤ v ∧ v ≤ p (n - 1)) := by
  simp only [Bool.and_eq_true, decide_eq_true_eq] at h
  obtain ⟨h1, h2, h3⟩ := h
  have h4 : tabB n p q = true ∧ 2 ≤ n := by simpa [itB] using h2
  exact ⟨h1, h4.2, h2, h4.1, by simp [tbE, h4.1]; omega, (insB_iff _ _ _ _).1 h3⟩
theorem bl_ok {n : Nat} {p q : Nat → Int} {u v : Int} (h0 : tbE n p q = 0) (hr : p 0 ≤ u ∧ u ≤ v ∧ v ≤ p (n - 1)) : blE n p q u v = 0 ∧ blLo n p q u v = boilI n p q u ∧ blHi n p q u v = boilI n p q v := by
  have e : blE n p q u v = 0 := by simp [blE, h0, (insB_iff _ _ _ _).2 hr]
  exact ⟨e, by simp [blLo, e], by simp [blHi, e]⟩
theorem co_ok {n : Nat} {p q : Nat → Int} {a b u v lo hi : Int} (h0 : tbE n p q = 0) (hs : scB a b = true) (hr : p 0 ≤ u ∧ u ≤ v ∧ v ≤ p (n - 1)) (h : -1000000 ≤ lo ∧ lo ≤ hi ∧ hi ≤ 1000000) :
    coE n p q a b u v lo hi = 0 ∧ coLo n p q a b u v lo hi = crLo a b (boilI n p q u) (boilI n p q v) lo hi ∧ coHi n p q a b u v lo hi = crHi a b (boilI n p q u) (boilI n p q v) lo hi := by
  have e : coE n p q a b u v lo hi = 0 := by simp [coE, h0, hs, (insB_iff _ _ _ _).2 h, (bl_ok h0 hr).1]
  exact ⟨e, by simp [coLo, e], by simp [coHi, e]⟩

set_option maxRecDepth 100000 in
theorem PointWider_at (a b c d : Int) (n : Nat) (p q : Nat → Int) (u v lo hi t : Int) (pre0 : 0 ≤ t ∧ t ≤ 255) : SoundAt Try.prog 9 [.agg [i a, i b], .agg [i c, i d], scs n p q, .agg [i u, i v], .agg [i lo, i hi], .x (.int .u8 t)] (bl true) := by
  refine soundAt_fin (G := [(37, S_ready), (39, S_tabled), (23, S_lScale), (19, S_lto), (22, S_Convert), (27, S_lTable), (28, S_Corrected), (26, S_Boils), (35, S_between), (36, S_pHeights), (16, S_wakes)]) (L := []) (SoundG.cons ready_ok (SoundG.cons tabled_ok (SoundG.cons lScale_ok (SoundG.cons lto_ok (SoundG.cons Convert_ok (SoundG.cons lTable_ok (SoundG.cons Corrected_ok (SoundG.cons Boils_ok (SoundG.cons between_ok (SoundG.cons pHeights_ok (SoundG.cons wakes_ok (SoundG.nil _)))))))))))) mixed Try.func9 (show Try.f9.body = some (bodyOf Try.f9) by kernel_rfl) noLoops (t := (Tree.need [isRec 2 2 (chunk 2 [iI a, iI b, iI c, iI d]), 2 ≤ 100000] (Tree.branch (!(decide (sdE 2 (col 0 (chunk 2 [iI a, iI b, iI c, iI d])) (col 1 (chunk 2 [iI a, iI b, iI c, iI d])) lo hi = (0 : Int)) && (decide ((-400 : Int) ≤ lo) && decide (hi ≤ (400 : Int))))) (Tree.leaf (RV.x (Value.bool true))) (Tree.need [isRec 2 n fun k => [i (p k), i (q k)]] (Tree.branch (!(decide (n ≤ 8) && (itB n (col 0 fun k => [i (p k), i (q k)]) (col 1 fun k => [i (p k), i (q k)]) && insB (col 0 (fun k => [i (p k), i (q k)]) 0) u v (col 0 (fun k => [i (p k), i (q k)]) (n - 1))))) (Tree.leaf (RV.x (Value.bool true))) (Tree.need [inI64 t] (Tree.need [(4 : Int) ≠ (0 : Int)] (Tree.need [inI64 (lo - Int.tmod t (4 : Int))] (Tree.need [inI64 t] (Tree.need [(4 : Int) ≠ (0 : Int), inI64 (Int.tdiv t (4 : Int))] (Tree.need [(4 : Int) ≠ (0 : Int)] (Tree.need [inI64 (hi + Int.tmod (Int.tdiv t (4 : Int)) (4 : Int))] (Tree.need [(0 : Int) ≤ (0 : Int) ∧ (0 : Int) < (↑n : Int)] (Tree.need [inI64 t] (Tree.need [(16 : Int) ≠ (0 : Int), inI64 (Int.tdiv t (16 : Int))] (Tree.need [inI64 (u - Int.tdiv t (16 : Int))] (Tree.need [inI64 ((↑n : Int) - (1 : Int))] (Tree.need [(0 : Int) ≤ (↑n : Int) - (1 : Int) ∧ (↑n : Int) - (1 : Int) < (↑n : Int)] (Tree.need [inI64 t] (Tree.need [(8 : Int) ≠ (0 : Int), inI64 (Int.tdiv t (8 : Int))] (Tree.need [inI64 (v + Int.tdiv t (8 : Int))] (Tree.need [isRec 2 n fun k => [i (p k), i (q k)], n ≤ 100000] (Tree.need [isRec 2 n fun k => [i (col 0 (fun k => [i (p k), i (q k)]) k), i (col 1 (fun k => [i (p k), i (q k)]) k)], n ≤ 100000] (Tree.need [isRec 2 n fun k => [i (p k), i (q k)], n ≤ 100000] (Tree.need [isRec 2 n fun k => [i (col 0 (fun k => [i (p k), i (q k)]) k), i (col 1 (fun k => [i (p k), i (q k)]) k)], n ≤ 100000] (Tree.branch (coE n (col 0 fun k => [i (col 0 (fun k => [i (p k), i (q k)]) k), i (col 1 (fun k => [i (p k), i (q k)]) k)]) (col 1 fun k => [i (col 0 (fun k => [i (p k), i (q k)]) k), i (col 1 (fun k => [i (p k), i (q k)]) k)]) a b u v lo hi != (0 : Int)) (Tree.leaf (RV.x (Value.bool false))) (Tree.branch (coE n (col 0 fun k => [i (col 0 (fun k => [i (p k), i (q k)]) k), i (col 1 (fun k => [i (p k), i (q k)]) k)]) (col 1 fun k => [i (col 0 (fun k => [i (p k), i (q k)]) k), i (col 1 (fun k => [i (p k), i (q k)]) k)]) a b (max (p (Int.toNat (0 : Int))) (u - Int.tdiv t (16 : Int))) (min (p (Int.toNat ((↑n : Int) - (1 : Int)))) (v + Int.tdiv t (8 : Int))) (lo - Int.tmod t (4 : Int)) (hi + Int.tmod (Int.tdiv t (4 : Int)) (4 : Int)) != (0 : Int)) (Tree.leaf (RV.x (Value.bool false))) (Tree.branch (decide (coLo n (col 0 fun k => [i (col 0 (fun k => [i (p k), i (q k)]) k), i (col 1 (fun k => [i (p k), i (q k)]) k)]) (col 1 fun k => [i (col 0 (fun k => [i (p k), i (q k)]) k), i (col 1 (fun k => [i (p k), i (q k)]) k)]) a b (max (p (Int.toNat (0 : Int))) (u - Int.tdiv t (16 : Int))) (min (p (Int.toNat ((↑n : Int) - (1 : Int)))) (v + Int.tdiv t (8 : Int))) (lo - Int.tmod t (4 : Int)) (hi + Int.tmod (Int.tdiv t (4 : Int)) (4 : Int)) > coLo n (col 0 fun k => [i (col 0 (fun k => [i (p k), i (q k)]) k), i (col 1 (fun k => [i (p k), i (q k)]) k)]) (col 1 fun k => [i (col 0 (fun k => [i (p k), i (q k)]) k), i (col 1 (fun k => [i (p k), i (q k)]) k)]) a b u v lo hi)) (Tree.leaf (RV.x (Value.bool false))) (Tree.branch (decide (coHi n (col 0 fun k => [i (col 0 (fun k => [i (p k), i (q k)]) k), i (col 1 (fun k => [i (p k), i (q k)]) k)]) (col 1 fun k => [i (col 0 (fun k => [i (p k), i (q k)]) k), i (col 1 (fun k => [i (p k), i (q k)]) k)]) a b (max (p (Int.toNat (0 : Int))) (u - Int.tdiv t (16 : Int))) (min (p (Int.toNat ((↑n : Int) - (1 : Int)))) (v + Int.tdiv t (8 : Int))) (lo - Int.tmod t (4 : Int)) (hi + Int.tmod (Int.tdiv t (4 : Int)) (4 : Int)) < coHi n (col 0 fun k => [i (col 0 (fun k => [i (p k), i (q k)]) k), i (col 1 (fun k => [i (p k), i (q k)]) k)]) (col 1 fun k => [i (col 0 (fun k => [i (p k), i (q k)]) k), i (col 1 (fun k => [i (p k), i (q k)]) k)]) a b u v lo hi)) (Tree.leaf (RV.x (Value.bool false))) (Tree.branch (cvE a b c d (lo - Int.tmod t (4 : Int)) (hi + Int.tmod (Int.tdiv t (4 : Int)) (4 : Int)) != (0 : Int)) (Tree.branch (cvE a b c d (lo - Int.tmod t (4 : Int)) (hi + Int.tmod (Int.tdiv t (4 : Int)) (4 : Int)) == (10 : Int)) (Tree.branch (cvE a b c d lo hi == (0 : Int)) (Tree.leaf (RV.x (Value.bool true))) (Tree.branch (cvE a b c d lo hi == (10 : Int)) (Tree.leaf (RV.x (Value.bool true))) (Tree.leaf (RV.x (Value.bool false))))) (Tree.leaf (RV.x (Value.bool false)))) (Tree.branch (cvE a b c d lo hi == (0 : Int)) (Tree.branch (decide (cvLo a b c d (lo - Int.tmod t (4 : Int)) (hi + Int.tmod (Int.tdiv t (4 : Int)) (4 : Int)) ≤ cvLo a b c d lo hi)) (Tree.branch (decide (cvHi a b c d (lo - Int.tmod t (4 : Int)) (hi + Int.tmod (Int.tdiv t (4 : Int)) (4 : Int)) ≥ cvHi a b c d lo hi)) (Tree.leaf (RV.x (Value.bool true))) (Tree.leaf (RV.x (Value.bool false)))) (Tree.leaf (RV.x (Value.bool false)))) (Tree.leaf (RV.x (Value.bool false)))))))))))))))))))))))))))))))))) (by kernel_rfl) ?_
  have c0 : (col 0 fun k => [i (p k), i (q k)]) = p := rfl
  have c1 : (col 1 fun k => [i (p k), i (q k)]) = q := rfl
  have r0 : isRec 2 n (fun k => [i (p k), i (q k)]) := fun _ _ => rfl
  have hr : isRec 2 2 (chunk 2 [iI a, iI b, iI c, iI d]) := isRec_c2 a b c d
  simp only [Tree.sat, allP, fitP, valEq, true_and, and_true, c0, c1]
  refine ⟨⟨hr, by omega⟩, fun _ => trivial, fun h0 => ?_⟩
  have h0' := ready_two (p := col 0 (chunk 2 [iI a, iI b, iI c, iI d])) (q := col 1 (chunk 2 [iI a, iI b, iI c, iI d])) (lo := lo) (hi := hi) (by simpa using h0)
  obtain ⟨v1, v2, r1, r2, r3⟩ := h0'
  replace v1 : scB a b = true := v1
  replace v2 : scB c d = true := v2
  clear h0 hr
  have s1 := scB_bd v1
  have s2 := scB_bd v2
  refine ⟨r0, fun _ => trivial, fun h0 => ?_⟩
  obtain ⟨t1, t2, t3, t4, t5, t6⟩ := tabled_facts (by simpa using h0)
  clear h0
  have pre1 : n ≤ 100000 := by omega
  have m4 : Int.tmod t 4 = t % 4 := Int.tmod_eq_emod_of_nonneg pre0.1
  have d4 : Int.tdiv t 4 = t / 4 := Int.tdiv_eq_ediv_of_nonneg pre0.1
  have d16 : Int.tdiv t 16 = t / 16 := Int.tdiv_eq_ediv_of_nonneg pre0.1
  have d8 : Int.tdiv t 8 = t / 8 := Int.tdiv_eq_ediv_of_nonneg pre0.1
  have m44 : Int.tmod (t / 4) 4 = t / 4 % 4 := Int.tmod_eq_emod_of_nonneg (by omega)
  rw [m4, d4, d16, d8, m44]
  have e1 : Int.toNat 0 = 0 := rfl
  have e2 : Int.toNat ((n : Int) - 1) = n - 1 := by omega
  rw [e1, e2]
  have x1 : 0 ≤ t % 4 ∧ t % 4 ≤ 3 := by omega
  have x2 : 0 ≤ t / 4 % 4 ∧ t / 4 % 4 ≤ 3 := by omega
  have x3 : 0 ≤ t / 16 ∧ t / 16 ≤ 15 := by omega
  have x4 : 0 ≤ t / 8 ∧ t / 8 ≤ 31 := by omega
  have x5 : 0 ≤ t / 4 ∧ t / 4 ≤ 63 := by omega
  have iT : inI64 t := by unfold inI64; omega
  clear m4 d4 d16 d8 m44
  generalize t % 4 = y1 at *
  generalize t / 4 % 4 = y2 at *
  generalize t / 16 = y3 at *
  generalize t / 8 = y4 at *
  generalize t / 4 = y5 at *
  have b0 := tab_step t4 (show 0 < n by omega)
  have b1 := tab_step t4 (show n - 1 < n by omega)
  obtain ⟨f1, f2, f3⟩ := co_ok t5 v1 t6 (show -1000000 ≤ lo ∧ lo ≤ hi ∧ hi ≤ 1000000 by omega)
  have hf : p 0 ≤ max (p 0) (u - y3) ∧ max (p 0) (u - y3) ≤ min (p (n - 1)) (v + y4) ∧ min (p (n - 1)) (v + y4) ≤ p (n - 1) := by omega
  obtain ⟨g1, g2, g3⟩ := co_ok t5 v1 hf (show -1000000 ≤ lo - y1 ∧ lo - y1 ≤ hi + y2 ∧ hi + y2 ≤ 1000000 by omega)
  have z0 := boil_spec t2 t4 (x := max (p 0) (u - y3)) (by omega)
  have z1 := boil_mono t2 t4 (x := max (p 0) (u - y3)) (y := u) (by omega) (by omega) (by omega)
  have z2 := boil_mono t2 t4 (x := u) (y := v) (by omega) (by omega) (by omega)
  have z3 := boil_mono t2 t4 (x := v) (y := min (p (n - 1)) (v + y4)) (by omega) (by omega) (by omega)
  have w := cr_mono (lo := lo) (hi := hi) (lo' := lo - y1) (hi' := hi + y2) s1.2.2.2.2 ⟨show 0 ≤ _ by omega, z1, z2, z3⟩ (by omega)
  have w2 := st_mono s1 s2 (lo := lo) (hi := hi) (lo' := lo - y1) (hi' := hi + y2) (by omega) (by omega)
  have h4 : (4 : Int) ≠ 0 := by decide
  have i1 : inI64 (lo - y1) := by unfold inI64; omega
  have i2 : inI64 (hi + y2) := by unfold inI64; omega
  have i3 : inI64 (u - y3) := by unfold inI64; omega
  have i4 : inI64 (v + y4) := by unfold inI64; omega
  have i5 : inI64 y3 := by unfold inI64; omega
  have i6 : inI64 y4 := by unfold inI64; omega
  have i7 : inI64 y5 := by unfold inI64; omega
  have i8 : inI64 ((n : Int) - 1) := by unfold inI64; omega
  have j1 : (0 : Int) ≤ (n : Int) - 1 := by omega
  have j2 : (0 : Int) < (n : Int) := by omega
  have j3 : (n : Int) - 1 < (n : Int) := by omega
  have j4 : ¬ coLo n p q a b (max (p 0) (u - y3)) (min (p (n - 1)) (v + y4)) (lo - y1) (hi + y2) > coLo n p q a b u v lo hi := by rw [f2, g2]; omega
  have j5 : ¬ coHi n p q a b (max (p 0) (u - y3)) (min (p (n - 1)) (v + y4)) (lo - y1) (hi + y2) < coHi n p q a b u v lo hi := by rw [f3, g3]; omega
  have k1 : decide (coLo n p q a b (max (p 0) (u - y3)) (min (p (n - 1)) (v + y4)) (lo - y1) (hi + y2) > coLo n p q a b u v lo hi) = false := decide_eq_false j4
  have k2 : decide (coHi n p q a b (max (p 0) (u - y3)) (min (p (n - 1)) (v + y4)) (lo - y1) (hi + y2) < coHi n p q a b u v lo hi) = false := decide_eq_false j5
  rw [k1, k2, f1, g1]
  have hR : -1000000 ≤ lo - y1 ∧ lo - y1 ≤ hi + y2 ∧ hi + y2 ≤ 1000000 := by omega
  clear f1 f2 f3 g1 g2 g3 z0 z1 z2 z3 w j4 j5 k1 k2 hf b0 b1 x1 x2 x3 x4 x5
  rcases cv_cases v1 v2 (show -1000000 ≤ lo ∧ lo ≤ hi ∧ hi ≤ 1000000 by omega) with ⟨e1, e2, e3, e4⟩ | ⟨e1, e2, e3, e4, e5, e6⟩ <;> rcases cv_cases v1 v2 hR with ⟨k1, k2, k3, k4⟩ | ⟨k1, k2, k3, k4, k5, k6⟩
  · simp [r0, pre1, iT, i1, i2, i3, i4, i5, i6, i7, i8, j1, j2, j3, e1, k1]; omega
  · exact absurd ⟨by omega, by omega⟩ e4
  · simp [r0, pre1, iT, i1, i2, i3, i4, i5, i6, i7, i8, j1, j2, j3, e1, k1]; omega
  · simp [r0, pre1, iT, i1, i2, i3, i4, i5, i6, i7, i8, j1, j2, j3, e1, k1, e2, e3, k2, k3, w2.1, w2.2]; omega

set_option maxRecDepth 100000 in
theorem PointPressure_at (a b : Int) (n : Nat) (p q : Nat → Int) (u v lo hi : Int) : SoundAt Try.prog 10 [.agg [i a, i b], scs n p q, .agg [i u, i v], .agg [i lo, i hi]] (bl true) := by
  refine soundAt_fin (G := [(37, S_ready), (39, S_tabled), (23, S_lScale), (19, S_lto), (22, S_Convert), (27, S_lTable), (28, S_Corrected), (26, S_Boils), (35, S_between), (36, S_pHeights), (16, S_wakes)]) (L := []) (SoundG.cons ready_ok (SoundG.cons tabled_ok (SoundG.cons lScale_ok (SoundG.cons lto_ok (SoundG.cons Convert_ok (SoundG.cons lTable_ok (SoundG.cons Corrected_ok (SoundG.cons Boils_ok (SoundG.cons between_ok (SoundG.cons pHeights_ok (SoundG.cons wakes_ok (SoundG.nil _)))))))))))) mixed Try.func10 (show Try.f10.body = some (bodyOf Try.f10) by kernel_rfl) noLoops (t := (Tree.need [isRec 2 1 (chunk 2 [iI a, iI b]), 1 ≤ 100000] (Tree.branch (!(decide (sdE 1 (col 0 (chunk 2 [iI a, iI b])) (col 1 (chunk 2 [iI a, iI b])) lo hi = (0 : Int)) && (decide ((-400 : Int) ≤ lo) && decide (hi ≤ (400 : Int))))) (Tree.leaf (RV.x (Value.bool true))) (Tree.need [isRec 2 n fun k => [i (p k), i (q k)]] (Tree.branch (!(decide (n ≤ 8) && (itB n (col 0 fun k => [i (p k), i (q k)]) (col 1 fun k => [i (p k), i (q k)]) && insB (col 0 (fun k => [i (p k), i (q k)]) 0) u v (col 0 (fun k => [i (p k), i (q k)]) (n - 1))))) (Tree.leaf (RV.x (Value.bool true))) (Tree.need [isRec 2 n fun k => [i (p k), i (q k)], n ≤ 100000] (Tree.need [isRec 2 n fun k => [i (col 0 (fun k => [i (p k), i (q k)]) k), i (col 1 (fun k => [i (p k), i (q k)]) k)], n ≤ 100000] (Tree.need [isRec 2 n fun k => [i (p k), i (q k)], n ≤ 100000] (Tree.need [isRec 2 n fun k => [i (col 0 (fun k => [i (p k), i (q k)]) k), i (col 1 (fun k => [i (p k), i (q k)]) k)], n ≤ 100000] (Tree.need [isRec 2 n fun k => [i (p k), i (q k)], n ≤ 100000] (Tree.need [isRec 2 n fun k => [i (col 0 (fun k => [i (p k), i (q k)]) k), i (col 1 (fun k => [i (p k), i (q k)]) k)], n ≤ 100000] (Tree.branch (blE n (col 0 fun k => [i (col 0 (fun k => [i (p k), i (q k)]) k), i (col 1 (fun k => [i (p k), i (q k)]) k)]) (col 1 fun k => [i (col 0 (fun k => [i (p k), i (q k)]) k), i (col 1 (fun k => [i (p k), i (q k)]) k)]) u u != (0 : Int)) (Tree.leaf (RV.x (Value.bool false))) (Tree.branch (blE n (col 0 fun k => [i (col 0 (fun k => [i (p k), i (q k)]) k), i (col 1 (fun k => [i (p k), i (q k)]) k)]) (col 1 fun k => [i (col 0 (fun k => [i (p k), i (q k)]) k), i (col 1 (fun k => [i (p k), i (q k)]) k)]) v v != (0 : Int)) (Tree.leaf (RV.x (Value.bool false))) (Tree.branch (blE n (col 0 fun k => [i (col 0 (fun k => [i (p k), i (q k)]) k), i (col 1 (fun k => [i (p k), i (q k)]) k)]) (col 1 fun k => [i (col 0 (fun k => [i (p k), i (q k)]) k), i (col 1 (fun k => [i (p k), i (q k)]) k)]) u v != (0 : Int)) (Tree.leaf (RV.x (Value.bool false))) (Tree.branch (blLo n (col 0 fun k => [i (col 0 (fun k => [i (p k), i (q k)]) k), i (col 1 (fun k => [i (p k), i (q k)]) k)]) (col 1 fun k => [i (col 0 (fun k => [i (p k), i (q k)]) k), i (col 1 (fun k => [i (p k), i (q k)]) k)]) u u != blHi n (col 0 fun k => [i (col 0 (fun k => [i (p k), i (q k)]) k), i (col 1 (fun k => [i (p k), i (q k)]) k)]) (col 1 fun k => [i (col 0 (fun k => [i (p k), i (q k)]) k), i (col 1 (fun k => [i (p k), i (q k)]) k)]) u u) (Tree.leaf (RV.x (Value.bool false))) (Tree.branch (blLo n (col 0 fun k => [i (col 0 (fun k => [i (p k), i (q k)]) k), i (col 1 (fun k => [i (p k), i (q k)]) k)]) (col 1 fun k => [i (col 0 (fun k => [i (p k), i (q k)]) k), i (col 1 (fun k => [i (p k), i (q k)]) k)]) v v != blHi n (col 0 fun k => [i (col 0 (fun k => [i (p k), i (q k)]) k), i (col 1 (fun k => [i (p k), i (q k)]) k)]) (col 1 fun k => [i (col 0 (fun k => [i (p k), i (q k)]) k), i (col 1 (fun k => [i (p k), i (q k)]) k)]) v v) (Tree.leaf (RV.x (Value.bool false))) (Tree.branch (decide (blLo n (col 0 fun k => [i (col 0 (fun k => [i (p k), i (q k)]) k), i (col 1 (fun k => [i (p k), i (q k)]) k)]) (col 1 fun k => [i (col 0 (fun k => [i (p k), i (q k)]) k), i (col 1 (fun k => [i (p k), i (q k)]) k)]) u u > blLo n (col 0 fun k => [i (col 0 (fun k => [i (p k), i (q k)]) k), i (col 1 (fun k => [i (p k), i (q k)]) k)]) (col 1 fun k => [i (col 0 (fun k => [i (p k), i (q k)]) k), i (col 1 (fun k => [i (p k), i (q k)]) k)]) v v)) (Tree.leaf (RV.x (Value.bool false))) (Tree.branch (!(blLo n (col 0 fun k => [i (col 0 (fun k => [i (p k), i (q k)]) k), i (col 1 (fun k => [i (p k), i (q k)]) k)]) (col 1 fun k => [i (col 0 (fun k => [i (p k), i (q k)]) k), i (col 1 (fun k => [i (p k), i (q k)]) k)]) u v == blLo n (col 0 fun k => [i (col 0 (fun k => [i (p k), i (q k)]) k), i (col 1 (fun k => [i (p k), i (q k)]) k)]) (col 1 fun k => [i (col 0 (fun k => [i (p k), i (q k)]) k), i (col 1 (fun k => [i (p k), i (q k)]) k)]) u u && (blHi n (col 0 fun k => [i (col 0 (fun k => [i (p k), i (q k)]) k), i (col 1 (fun k => [i (p k), i (q k)]) k)]) (col 1 fun k => [i (col 0 (fun k => [i (p k), i (q k)]) k), i (col 1 (fun k => [i (p k), i (q k)]) k)]) u v == blLo n (col 0 fun k => [i (col 0 (fun k => [i (p k), i (q k)]) k), i (col 1 (fun k => [i (p k), i (q k)]) k)]) (col 1 fun k => [i (col 0 (fun k => [i (p k), i (q k)]) k), i (col 1 (fun k => [i (p k), i (q k)]) k)]) v v && true))) (Tree.leaf (RV.x (Value.bool false))) (Tree.need [(0 : Int) ≤ (0 : Int) ∧ (0 : Int) < (↑n : Int)] (Tree.branch (decide (blLo n (col 0 fun k => [i (col 0 (fun k => [i (p k), i (q k)]) k), i (col 1 (fun k => [i (p k), i (q k)]) k)]) (col 1 fun k => [i (col 0 (fun k => [i (p k), i (q k)]) k), i (col 1 (fun k => [i (p k), i (q k)]) k)]) u u < q (Int.toNat (0 : Int)))) (Tree.leaf (RV.x (Value.bool false))) (Tree.need [inI64 ((↑n : Int) - (1 : Int))] (Tree.need [(0 : Int) ≤ (↑n : Int) - (1 : Int) ∧ (↑n : Int) - (1 : Int) < (↑n : Int)] (Tree.branch (decide (blHi n (col 0 fun k => [i (col 0 (fun k => [i (p k), i (q k)]) k), i (col 1 (fun k => [i (p k), i (q k)]) k)]) (col 1 fun k => [i (col 0 (fun k => [i (p k), i (q k)]) k), i (col 1 (fun k => [i (p k), i (q k)]) k)]) v v > q (Int.toNat ((↑n : Int) - (1 : Int))))) (Tree.leaf (RV.x (Value.bool false))) (Tree.need [isRec 2 2 (chunk 2 [iI (700 : Int), iI (940 : Int), iI (760 : Int), iI (1000 : Int)]), 2 ≤ 100000] (Tree.branch (hgErr a b lo hi == (0 : Int)) (Tree.branch (coE 2 (col 0 (chunk 2 [iI (700 : Int), iI (940 : Int), iI (760 : Int), iI (1000 : Int)])) (col 1 (chunk 2 [iI (700 : Int), iI (940 : Int), iI (760 : Int), iI (1000 : Int)])) a b (760 : Int) (760 : Int) lo hi == (0 : Int)) (Tree.branch ((if hgOk a b lo hi = true then hgLo a b lo hi else (0 : Int)) == coLo 2 (col 0 (chunk 2 [iI (700 : Int), iI (940 : Int), iI (760 : Int), iI (1000 : Int)])) (col 1 (chunk 2 [iI (700 : Int), iI (940 : Int), iI (760 : Int), iI (1000 : Int)])) a b (760 : Int) (760 : Int) lo hi && ((if hgOk a b lo hi = true then hgHi a b lo hi else (0 : Int)) == coHi 2 (col 0 (chunk 2 [iI (700 : Int), iI (940 : Int), iI (760 : Int), iI (1000 : Int)])) (col 1 (chunk 2 [iI (700 : Int), iI (940 : Int), iI (760 : Int), iI (1000 : Int)])) a b (760 : Int) (760 : Int) lo hi && true)) (Tree.leaf (RV.x (Value.bool true))) (Tree.leaf (RV.x (Value.bool false)))) (Tree.leaf (RV.x (Value.bool false)))) (Tree.leaf (RV.x (Value.bool false)))))))))))))))))))))))))))) (by kernel_rfl) ?_
  have c0 : (col 0 fun k => [i (p k), i (q k)]) = p := rfl
  have c1 : (col 1 fun k => [i (p k), i (q k)]) = q := rfl
  have r0 : isRec 2 n (fun k => [i (p k), i (q k)]) := fun _ _ => rfl
  have hr : isRec 2 1 (chunk 2 [iI a, iI b]) := isRec_c1 a b
  have e0 : sdE 1 (col 0 (chunk 2 [iI a, iI b])) (col 1 (chunk 2 [iI a, iI b])) lo hi = hgErr a b lo hi := sdE_one _ _ lo hi
  have hE : isRec 2 2 (chunk 2 [iI 700, iI 940, iI 760, iI 1000]) := isRec_c2 _ _ _ _
  have p0 : col 0 (chunk 2 [iI 700, iI 940, iI 760, iI 1000]) 0 = 700 := rfl
  have p1 : col 0 (chunk 2 [iI 700, iI 940, iI 760, iI 1000]) 1 = 760 := rfl
  have q0 : col 1 (chunk 2 [iI 700, iI 940, iI 760, iI 1000]) 0 = 940 := rfl
  have q1 : col 1 (chunk 2 [iI 700, iI 940, iI 760, iI 1000]) 1 = 1000 := rfl
  generalize col 0 (chunk 2 [iI 700, iI 940, iI 760, iI 1000]) = ep at *
  generalize col 1 (chunk 2 [iI 700, iI 940, iI 760, iI 1000]) = eq at *
  simp only [Tree.sat, allP, fitP, valEq, true_and, and_true, c0, c1, e0]
  refine ⟨⟨hr, by omega⟩, fun _ => trivial, fun h0 => ?_⟩
  have h0' : hgErr a b lo hi = 0 ∧ -400 ≤ lo ∧ hi ≤ 400 := by simpa using h0
  obtain ⟨v0, r1, r3⟩ := h0'
  clear h0 hr
  have v1 : scB a b = true := by
    cases h : scB a b
    · simp [hgErr, h] at v0
    · rfl
  have v2 : insB (-1000000) lo hi 1000000 = true := by
    cases h : insB (-1000000) lo hi 1000000
    · simp [hgErr, v1, h] at v0
    · rfl
  have r2 := (insB_iff _ _ _ _).1 v2
  have s1 := scB_bd v1
  refine ⟨r0, fun _ => trivial, fun h0 => ?_⟩
  obtain ⟨t1, t2, t3, t4, t5, t6⟩ := tabled_facts (by simpa using h0)
  clear h0
  obtain ⟨f1, f2, f3⟩ := bl_ok t5 (show p 0 ≤ u ∧ u ≤ u ∧ u ≤ p (n - 1) by omega)
  obtain ⟨g1, g2, g3⟩ := bl_ok t5 (show p 0 ≤ v ∧ v ≤ v ∧ v ≤ p (n - 1) by omega)
  obtain ⟨k1, k2, k3⟩ := bl_ok t5 t6
  have z0 := boil_spec t2 t4 (x := u) (by omega)
  have z1 := boil_spec t2 t4 (x := v) (by omega)
  have z2 := boil_mono t2 t4 (x := u) (y := v) (by omega) (by omega) (by omega)
  have et : tabB 2 ep eq = true := by
    refine allI_iff.2 (fun j hj => ?_)
    rcases (show j = 0 ∨ j = 1 by omega) with rfl | rfl <;> simp [stepB, bt, p0, p1, q0, q1]
  have eb : tbE 2 ep eq = 0 := by simp [tbE, et]
  have es : segI 2 ep 760 = 0 := by
    unfold segI
    exact fstI_eq (by omega) (by simp [p1]) (fun j hj => by omega)
  have ei : boilI 2 ep eq 760 = 1000 := by
    unfold boilI boilAt
    rw [es, p0, show 0 + 1 = 1 from rfl, p1, q0, q1]
    decide
  obtain ⟨d1, d2, d3⟩ := co_ok eb v1 (u := 760) (v := 760) (show ep 0 ≤ 760 ∧ (760 : Int) ≤ 760 ∧ 760 ≤ ep (2 - 1) by rw [p0, show 2 - 1 = 1 from rfl, p1]; omega) r2
  rw [ei] at d2 d3
  have ce := cr_even (a := a) (b := b) (lo := lo) (hi := hi)
  have hO : hgOk a b lo hi = true := by simp [hgOk, v1, v2]
  have e1 : Int.toNat 0 = 0 := rfl
  have e2 : Int.toNat ((n : Int) - 1) = n - 1 := by omega
  rw [e1, e2, f1, f2, f3, g1, g2, g3, k1, k2, k3, d1, d2, d3, ce.1, ce.2, v0, hO]
  have n1 : ¬ boilI n p q u > boilI n p q v := by omega
  have n2 : ¬ boilI n p q u < q 0 := by omega
  have n3 : ¬ boilI n p q v > q (n - 1) := by omega
  have i8 : inI64 ((n : Int) - 1) := by unfold inI64; omega
  simp [r0, n1, n2, n3, i8, hE]
  omega

end Go.Proofs.Ytchcegfhamngkaa
