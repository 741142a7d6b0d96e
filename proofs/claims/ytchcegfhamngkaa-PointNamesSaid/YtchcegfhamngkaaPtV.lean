/- Contracts of functions of the program, by the engine Sx: what each call comes to. Printed by a program of this repo (sxgen.py). -/
import Derived.Test.YtchcegfhamngkaaPtT
set_option linter.unusedSimpArgs false
set_option linter.unusedVariables false
namespace Go.Proofs.Ytchcegfhamngkaa
open Go Go.Sx Go.RowKit

theorem sdE_two (p q : Nat → Int) (lo hi : Int) : sdE 2 p q lo hi = if scB (p 0) (q 0) && scB (p 1) (q 1) then (if insB (-1000000) lo hi 1000000 then 0 else 2) else 1 := by simp [sdE, allS, allI]
/-- What 'ready' says of two scales. -/
theorem ready_two {p q : Nat → Int} {lo hi : Int} (h : (decide (sdE 2 p q lo hi = 0) && (decide (-400 ≤ lo) && decide (hi ≤ 400))) = true) : scB (p 0) (q 0) = true ∧ scB (p 1) (q 1) = true ∧ -400 ≤ lo ∧ lo ≤ hi ∧ hi ≤ 400 := by
  simp only [Bool.and_eq_true, decide_eq_true_eq] at h
  obtain ⟨h1, h2, h3⟩ := h
  rw [sdE_two] at h1
  cases g1 : scB (p 0) (q 0) <;> cases g2 : scB (p 1) (q 1) <;> simp [g1, g2] at h1
  have := (insB_iff _ _ _ _).1 h1
  exact ⟨rfl, rfl, h2, by omega, h3⟩


theorem cv_cases {a b c d lo hi : Int} (h1 : scB a b = true) (h2 : scB c d = true) (r : -1000000 ≤ lo ∧ lo ≤ hi ∧ hi ≤ 1000000) :
    (cvE a b c d lo hi = 10 ∧ cvLo a b c d lo hi = 0 ∧ cvHi a b c d lo hi = 0 ∧ ¬ (-1000000 ≤ stLo a b c d lo hi ∧ stHi a b c d lo hi ≤ 1000000)) ∨ (cvE a b c d lo hi = 0 ∧ cvLo a b c d lo hi = stLo a b c d lo hi ∧ cvHi a b c d lo hi = stHi a b c d lo hi ∧ -1000000 ≤ stLo a b c d lo hi ∧ stLo a b c d lo hi ≤ stHi a b c d lo hi ∧ stHi a b c d lo hi ≤ 1000000) := by
  have hi' : insB (-1000000) lo hi 1000000 = true := (insB_iff _ _ _ _).2 r
  cases h3 : insB (-1000000) (stLo a b c d lo hi) (stHi a b c d lo hi) 1000000
  · have e : cvE a b c d lo hi = 10 := by simp [cvE, h1, h2, hi', h3]
    have hle := st_le (scB_bd h1) (scB_bd h2) r
    refine .inl ⟨e, by simp [cvLo, e], by simp [cvHi, e], fun hh => ?_⟩
    have := (insB_iff (-1000000) (stLo a b c d lo hi) (stHi a b c d lo hi) 1000000).2 ⟨hh.1, hle, hh.2⟩
    rw [h3] at this
    cases this
  · have e : cvE a b c d lo hi = 0 := by simp [cvE, h1, h2, hi', h3]
    exact .inr ⟨e, by simp [cvLo, e], by simp [cvHi, e], (insB_iff _ _ _ _).1 h3⟩

set_option maxRecDepth 100000 in
theorem PointEnds_at (a b c d lo hi : Int) : SoundAt Try.prog 6 [.agg [i a, i b], .agg [i c, i d], .agg [i lo, i hi]] (bl true) := by
  refine soundAt_fin (G := [(37, S_ready), (23, S_lScale), (22, S_Convert), (19, S_lto), (25, S_rAreReadings), (38, S_rMeets), (16, S_wakes)]) (L := []) (SoundG.cons ready_ok (SoundG.cons lScale_ok (SoundG.cons Convert_ok (SoundG.cons lto_ok (SoundG.cons rAreReadings_ok (SoundG.cons rMeets_ok (SoundG.cons wakes_ok (SoundG.nil _)))))))) mixed Try.func6 (show Try.f6.body = some (bodyOf Try.f6) by kernel_rfl) noLoops (t := (Tree.need [isRec 2 2 (chunk 2 [iI a, iI b, iI c, iI d]), 2 ≤ 100000] (Tree.branch (!(decide (sdE 2 (col 0 (chunk 2 [iI a, iI b, iI c, iI d])) (col 1 (chunk 2 [iI a, iI b, iI c, iI d])) lo hi = (0 : Int)) && (decide ((-400 : Int) ≤ lo) && decide (hi ≤ (400 : Int))))) (Tree.leaf (RV.x (Value.bool true))) (Tree.branch (cvE a b c d lo hi != (0 : Int)) (Tree.branch (cvE a b c d lo hi == (10 : Int)) (Tree.leaf (RV.x (Value.bool true))) (Tree.leaf (RV.x (Value.bool false)))) (Tree.branch (decide (cvLo a b c d lo hi ≤ cvHi a b c d lo hi)) (Tree.branch (insB (-1000000 : Int) (cvLo a b c d lo hi) (cvHi a b c d lo hi) (1000000 : Int)) (Tree.need [(-1000 : Int) ≤ a ∧ a ≤ (1000 : Int) ∧ (-1000 : Int) ≤ b ∧ b ≤ (1000 : Int) ∧ (-1000 : Int) ≤ c ∧ c ≤ (1000 : Int) ∧ (-1000 : Int) ≤ d ∧ d ≤ (1000 : Int), (-1000000 : Int) ≤ lo ∧ lo ≤ hi ∧ hi ≤ (1000000 : Int), (-100000000000 : Int) ≤ cvLo a b c d lo hi ∧ cvLo a b c d lo hi ≤ (100000000000 : Int)] (Tree.branch (meetB c d (cvLo a b c d lo hi) a b lo hi) (Tree.need [(-1000 : Int) ≤ a ∧ a ≤ (1000 : Int) ∧ (-1000 : Int) ≤ b ∧ b ≤ (1000 : Int) ∧ (-1000 : Int) ≤ c ∧ c ≤ (1000 : Int) ∧ (-1000 : Int) ≤ d ∧ d ≤ (1000 : Int), (-1000000 : Int) ≤ lo ∧ lo ≤ hi ∧ hi ≤ (1000000 : Int), (-100000000000 : Int) ≤ cvHi a b c d lo hi ∧ cvHi a b c d lo hi ≤ (100000000000 : Int)] (Tree.branch (meetB c d (cvHi a b c d lo hi) a b lo hi) (Tree.need [inI64 (cvLo a b c d lo hi - (1 : Int))] (Tree.need [(-1000 : Int) ≤ a ∧ a ≤ (1000 : Int) ∧ (-1000 : Int) ≤ b ∧ b ≤ (1000 : Int) ∧ (-1000 : Int) ≤ c ∧ c ≤ (1000 : Int) ∧ (-1000 : Int) ≤ d ∧ d ≤ (1000 : Int), (-1000000 : Int) ≤ lo ∧ lo ≤ hi ∧ hi ≤ (1000000 : Int), (-100000000000 : Int) ≤ cvLo a b c d lo hi - (1 : Int) ∧ cvLo a b c d lo hi - (1 : Int) ≤ (100000000000 : Int)] (Tree.branch (!meetB c d (cvLo a b c d lo hi - (1 : Int)) a b lo hi) (Tree.need [inI64 (cvHi a b c d lo hi + (1 : Int))] (Tree.need [(-1000 : Int) ≤ a ∧ a ≤ (1000 : Int) ∧ (-1000 : Int) ≤ b ∧ b ≤ (1000 : Int) ∧ (-1000 : Int) ≤ c ∧ c ≤ (1000 : Int) ∧ (-1000 : Int) ≤ d ∧ d ≤ (1000 : Int), (-1000000 : Int) ≤ lo ∧ lo ≤ hi ∧ hi ≤ (1000000 : Int), (-100000000000 : Int) ≤ cvHi a b c d lo hi + (1 : Int) ∧ cvHi a b c d lo hi + (1 : Int) ≤ (100000000000 : Int)] (Tree.branch (!meetB c d (cvHi a b c d lo hi + (1 : Int)) a b lo hi) (Tree.leaf (RV.x (Value.bool true))) (Tree.leaf (RV.x (Value.bool false)))))) (Tree.leaf (RV.x (Value.bool false)))))) (Tree.leaf (RV.x (Value.bool false))))) (Tree.leaf (RV.x (Value.bool false))))) (Tree.leaf (RV.x (Value.bool false)))) (Tree.leaf (RV.x (Value.bool false)))))))) (by kernel_rfl) ?_
  have hr : isRec 2 2 (chunk 2 [iI a, iI b, iI c, iI d]) := isRec_c2 a b c d
  simp only [Tree.sat, allP, fitP, valEq, true_and, and_true]
  refine ⟨⟨hr, by omega⟩, fun _ => trivial, fun h0 => ?_⟩
  have h0' := ready_two (p := col 0 (chunk 2 [iI a, iI b, iI c, iI d])) (q := col 1 (chunk 2 [iI a, iI b, iI c, iI d])) (lo := lo) (hi := hi) (by simpa using h0)
  obtain ⟨v1, v2, r1, r2, r3⟩ := h0'
  replace v1 : scB a b = true := v1
  replace v2 : scB c d = true := v2
  clear h0 hr
  have s1 := scB_bd v1
  have s2 := scB_bd v2
  
  have m1 := meet_iff (x := stLo a b c d lo hi) (lo := lo) (hi := hi) s1 s2 (by omega)
  have m2 := meet_iff (x := stHi a b c d lo hi) (lo := lo) (hi := hi) s1 s2 (by omega)
  have m3 := meet_iff (x := stLo a b c d lo hi - 1) (lo := lo) (hi := hi) s1 s2 (by omega)
  have m4 := meet_iff (x := stHi a b c d lo hi + 1) (lo := lo) (hi := hi) s1 s2 (by omega)
  rcases cv_cases v1 v2 (show -1000000 ≤ lo ∧ lo ≤ hi ∧ hi ≤ 1000000 by omega) with ⟨e1, e2, e3, _⟩ | ⟨e1, e2, e3, e4, e5, e6⟩
  · simp [e1]
  · have n1 : meetB c d (stLo a b c d lo hi) a b lo hi = true := m1.2 (by omega)
    have n2 : meetB c d (stHi a b c d lo hi) a b lo hi = true := m2.2 (by omega)
    have n3 : meetB c d (stLo a b c d lo hi - 1) a b lo hi = false := by
      cases h : meetB c d (stLo a b c d lo hi - 1) a b lo hi
      · rfl
      · have := m3.1 h; omega
    have n4 : meetB c d (stHi a b c d lo hi + 1) a b lo hi = false := by
      cases h : meetB c d (stHi a b c d lo hi + 1) a b lo hi
      · rfl
      · have := m4.1 h; omega
    have n5 : insB (-1000000) (stLo a b c d lo hi) (stHi a b c d lo hi) 1000000 = true := (insB_iff _ _ _ _).2 ⟨e4, e5, e6⟩
    clear m1 m2 m3 m4
    simp only [e1, e2, e3, n1, n2, n3, n4, n5, inI64]
    simp [e5]
    omega

set_option maxRecDepth 100000 in
theorem PointBack_at (a b c d lo hi : Int) : SoundAt Try.prog 7 [.agg [i a, i b], .agg [i c, i d], .agg [i lo, i hi]] (bl true) := by
  refine soundAt_fin (G := [(37, S_ready), (23, S_lScale), (22, S_Convert), (19, S_lto), (35, S_between), (16, S_wakes)]) (L := []) (SoundG.cons ready_ok (SoundG.cons lScale_ok (SoundG.cons Convert_ok (SoundG.cons lto_ok (SoundG.cons between_ok (SoundG.cons wakes_ok (SoundG.nil _))))))) mixed Try.func7 (show Try.f7.body = some (bodyOf Try.f7) by kernel_rfl) noLoops (t := (Tree.need [isRec 2 2 (chunk 2 [iI a, iI b, iI c, iI d]), 2 ≤ 100000] (Tree.branch (!(decide (sdE 2 (col 0 (chunk 2 [iI a, iI b, iI c, iI d])) (col 1 (chunk 2 [iI a, iI b, iI c, iI d])) lo hi = (0 : Int)) && (decide ((-400 : Int) ≤ lo) && decide (hi ≤ (400 : Int))))) (Tree.leaf (RV.x (Value.bool true))) (Tree.branch (cvE a b a b lo hi != (0 : Int)) (Tree.leaf (RV.x (Value.bool false))) (Tree.need [inI64 (lo - (1 : Int))] (Tree.need [inI64 (hi + (1 : Int))] (Tree.branch (!(cvLo a b a b lo hi == lo - (1 : Int) && (cvHi a b a b lo hi == hi + (1 : Int) && true))) (Tree.leaf (RV.x (Value.bool false))) (Tree.branch (cvE a b c d lo hi != (0 : Int)) (Tree.branch (cvE a b c d lo hi == (10 : Int)) (Tree.leaf (RV.x (Value.bool true))) (Tree.leaf (RV.x (Value.bool false)))) (Tree.branch (cvE c d a b (cvLo a b c d lo hi) (cvHi a b c d lo hi) == (10 : Int)) (Tree.leaf (RV.x (Value.bool true))) (Tree.branch (cvE c d a b (cvLo a b c d lo hi) (cvHi a b c d lo hi) == (0 : Int)) (Tree.branch (decide (cvLo c d a b (cvLo a b c d lo hi) (cvHi a b c d lo hi) ≤ lo)) (Tree.branch (decide (cvHi c d a b (cvLo a b c d lo hi) (cvHi a b c d lo hi) ≥ hi)) (Tree.leaf (RV.x (Value.bool true))) (Tree.leaf (RV.x (Value.bool false)))) (Tree.leaf (RV.x (Value.bool false)))) (Tree.leaf (RV.x (Value.bool false))))))))))))) (by kernel_rfl) ?_
  have hr : isRec 2 2 (chunk 2 [iI a, iI b, iI c, iI d]) := isRec_c2 a b c d
  simp only [Tree.sat, allP, fitP, valEq, true_and, and_true]
  refine ⟨⟨hr, by omega⟩, fun _ => trivial, fun h0 => ?_⟩
  have h0' := ready_two (p := col 0 (chunk 2 [iI a, iI b, iI c, iI d])) (q := col 1 (chunk 2 [iI a, iI b, iI c, iI d])) (lo := lo) (hi := hi) (by simpa using h0)
  obtain ⟨v1, v2, r1, r2, r3⟩ := h0'
  replace v1 : scB a b = true := v1
  replace v2 : scB c d = true := v2
  clear h0 hr
  have s1 := scB_bd v1
  have s2 := scB_bd v2
  
  obtain ⟨z1, z2⟩ := st_self s1 (show -1000000 ≤ lo ∧ lo ≤ hi ∧ hi ≤ 1000000 by omega)
  rcases cv_cases v1 v1 (show -1000000 ≤ lo ∧ lo ≤ hi ∧ hi ≤ 1000000 by omega) with ⟨_, _, _, f4⟩ | ⟨f1, f2, f3, f4, f5, f6⟩
  · exact absurd ⟨by omega, by omega⟩ f4
  rw [z1] at f2
  rw [z2] at f3
  have t1 : (lo - 1 == lo - 1) = true := by simp
  have t2 : (hi + 1 == hi + 1) = true := by simp
  have i1 : inI64 (lo - 1) := by unfold inI64; omega
  have i2 : inI64 (hi + 1) := by unfold inI64; omega
  rcases cv_cases v1 v2 (show -1000000 ≤ lo ∧ lo ≤ hi ∧ hi ≤ 1000000 by omega) with ⟨e1, e2, e3, _⟩ | ⟨e1, e2, e3, e4, e5, e6⟩
  · simp [e1, f1, f2, f3, i1, i2]
  · obtain ⟨b1, b2⟩ := st_back s1 s2 (show -1000000 ≤ lo ∧ lo ≤ hi ∧ hi ≤ 1000000 by omega) ⟨e4, e6⟩
    rcases cv_cases v2 v1 (show -1000000 ≤ stLo a b c d lo hi ∧ stLo a b c d lo hi ≤ stHi a b c d lo hi ∧ stHi a b c d lo hi ≤ 1000000 by omega) with ⟨g1, g2, g3, _⟩ | ⟨g1, g2, g3, _⟩
    · simp [e1, e2, e3, f1, f2, f3, i1, i2, g1]
    · simp [e1, e2, e3, f1, f2, f3, i1, i2, g1, g2, g3, b1, b2]

set_option maxRecDepth 100000 in
theorem PointTurned_at (a b c d lo hi t : Int) (pre0 : -128 ≤ t ∧ t ≤ 127) : SoundAt Try.prog 11 [.agg [i a, i b], .agg [i c, i d], .agg [i lo, i hi], .x (.int .i8 t)] (bl true) := by
  refine soundAt_fin (G := [(37, S_ready), (23, S_lScale), (22, S_Convert), (19, S_lto), (35, S_between), (40, S_turned), (31, S_rIsScale), (36, S_pHeights), (16, S_wakes)]) (L := []) (SoundG.cons ready_ok (SoundG.cons lScale_ok (SoundG.cons Convert_ok (SoundG.cons lto_ok (SoundG.cons between_ok (SoundG.cons turned_ok (SoundG.cons rIsScale_ok (SoundG.cons pHeights_ok (SoundG.cons wakes_ok (SoundG.nil _)))))))))) mixed Try.func11 (show Try.f11.body = some (bodyOf Try.f11) by kernel_rfl) noLoops (t := (Tree.need [isRec 2 2 (chunk 2 [iI a, iI b, iI c, iI d]), 2 ≤ 100000] (Tree.branch (!(decide (sdE 2 (col 0 (chunk 2 [iI a, iI b, iI c, iI d])) (col 1 (chunk 2 [iI a, iI b, iI c, iI d])) lo hi = (0 : Int)) && (decide ((-400 : Int) ≤ lo) && decide (hi ≤ (400 : Int))))) (Tree.leaf (RV.x (Value.bool true))) (Tree.need [(-1000000 : Int) ≤ a ∧ a ≤ (1000000 : Int) ∧ (-1000000 : Int) ≤ b ∧ b ≤ (1000000 : Int)] (Tree.need [(-1000000 : Int) ≤ c ∧ c ≤ (1000000 : Int) ∧ (-1000000 : Int) ≤ d ∧ d ≤ (1000000 : Int)] (Tree.need [inI64 (-hi)] (Tree.need [inI64 (-lo)] (Tree.branch (cvE a b c d lo hi != cvE (-a) (-b) (-c) (-d) (-hi) (-lo)) (Tree.leaf (RV.x (Value.bool false))) (Tree.branch (cvE a b c d lo hi != (0 : Int)) (Tree.branch (cvE a b c d lo hi != (10 : Int)) (Tree.leaf (RV.x (Value.bool false))) (Tree.need [inI64 (-cvHi (-a) (-b) (-c) (-d) (-hi) (-lo))] (Tree.branch (cvLo a b c d lo hi != -cvHi (-a) (-b) (-c) (-d) (-hi) (-lo)) (Tree.leaf (RV.x (Value.bool false))) (Tree.need [inI64 (-cvLo (-a) (-b) (-c) (-d) (-hi) (-lo))] (Tree.branch (cvHi a b c d lo hi != -cvLo (-a) (-b) (-c) (-d) (-hi) (-lo)) (Tree.leaf (RV.x (Value.bool false))) (Tree.need [inI64 t] (Tree.need [inI64 (a + t)] (Tree.need [inI64 t] (Tree.need [inI64 (b + t)] (Tree.branch (!scB (a + t) (b + t)) (Tree.leaf (RV.x (Value.bool true))) (Tree.need [inI64 t] (Tree.need [inI64 (lo + t)] (Tree.need [inI64 t] (Tree.need [inI64 (hi + t)] (Tree.branch (hgErr a b lo hi == (0 : Int)) (Tree.branch (hgErr (a + t) (b + t) (lo + t) (hi + t) == (0 : Int)) (Tree.branch (((if hgOk a b lo hi = true then hgLo a b lo hi else (0 : Int)) == if hgOk (a + t) (b + t) (lo + t) (hi + t) = true then hgLo (a + t) (b + t) (lo + t) (hi + t) else (0 : Int)) && (((if hgOk a b lo hi = true then hgHi a b lo hi else (0 : Int)) == if hgOk (a + t) (b + t) (lo + t) (hi + t) = true then hgHi (a + t) (b + t) (lo + t) (hi + t) else (0 : Int)) && true)) (Tree.leaf (RV.x (Value.bool true))) (Tree.leaf (RV.x (Value.bool false)))) (Tree.leaf (RV.x (Value.bool false)))) (Tree.leaf (RV.x (Value.bool false)))))))))))))))))) (Tree.need [inI64 (-cvHi (-a) (-b) (-c) (-d) (-hi) (-lo))] (Tree.branch (cvLo a b c d lo hi != -cvHi (-a) (-b) (-c) (-d) (-hi) (-lo)) (Tree.leaf (RV.x (Value.bool false))) (Tree.need [inI64 (-cvLo (-a) (-b) (-c) (-d) (-hi) (-lo))] (Tree.branch (cvHi a b c d lo hi != -cvLo (-a) (-b) (-c) (-d) (-hi) (-lo)) (Tree.leaf (RV.x (Value.bool false))) (Tree.need [inI64 t] (Tree.need [inI64 (a + t)] (Tree.need [inI64 t] (Tree.need [inI64 (b + t)] (Tree.branch (!scB (a + t) (b + t)) (Tree.leaf (RV.x (Value.bool true))) (Tree.need [inI64 t] (Tree.need [inI64 (lo + t)] (Tree.need [inI64 t] (Tree.need [inI64 (hi + t)] (Tree.branch (hgErr a b lo hi == (0 : Int)) (Tree.branch (hgErr (a + t) (b + t) (lo + t) (hi + t) == (0 : Int)) (Tree.branch (((if hgOk a b lo hi = true then hgLo a b lo hi else (0 : Int)) == if hgOk (a + t) (b + t) (lo + t) (hi + t) = true then hgLo (a + t) (b + t) (lo + t) (hi + t) else (0 : Int)) && (((if hgOk a b lo hi = true then hgHi a b lo hi else (0 : Int)) == if hgOk (a + t) (b + t) (lo + t) (hi + t) = true then hgHi (a + t) (b + t) (lo + t) (hi + t) else (0 : Int)) && true)) (Tree.leaf (RV.x (Value.bool true))) (Tree.leaf (RV.x (Value.bool false)))) (Tree.leaf (RV.x (Value.bool false)))) (Tree.leaf (RV.x (Value.bool false)))))))))))))))))))))))))) (by kernel_rfl) ?_
  have hr : isRec 2 2 (chunk 2 [iI a, iI b, iI c, iI d]) := isRec_c2 a b c d
  simp only [Tree.sat, allP, fitP, valEq, true_and, and_true]
  refine ⟨⟨hr, by omega⟩, fun _ => trivial, fun h0 => ?_⟩
  have h0' := ready_two (p := col 0 (chunk 2 [iI a, iI b, iI c, iI d])) (q := col 1 (chunk 2 [iI a, iI b, iI c, iI d])) (lo := lo) (hi := hi) (by simpa using h0)
  obtain ⟨v1, v2, r1, r2, r3⟩ := h0'
  replace v1 : scB a b = true := v1
  replace v2 : scB c d = true := v2
  clear h0 hr
  have s1 := scB_bd v1
  have s2 := scB_bd v2
  
  have w1 : scB (-a) (-b) = true := (scB_iff _ _).2 (by omega)
  have w2 : scB (-c) (-d) = true := (scB_iff _ _).2 (by omega)
  obtain ⟨n1, n2⟩ := st_neg s1 s2 (show -1000000 ≤ lo ∧ lo ≤ hi ∧ hi ≤ 1000000 by omega)
  obtain ⟨k1, k2⟩ := hg_shift (a := a) (b := b) (lo := lo) (hi := hi) (t := t)
  have hE : hgErr a b lo hi = 0 := by
    have : insB (-1000000) lo hi 1000000 = true := (insB_iff _ _ _ _).2 (by omega)
    simp [hgErr, v1, this]
  have hO : hgOk a b lo hi = true := by
    have : insB (-1000000) lo hi 1000000 = true := (insB_iff _ _ _ _).2 (by omega)
    simp [hgOk, v1, this]
  have hi2 : insB (-1000000) (lo + t) (hi + t) 1000000 = true := (insB_iff _ _ _ _).2 (by omega)
  have j1 : inI64 (-hi) := by unfold inI64; omega
  have j2 : inI64 (-lo) := by unfold inI64; omega
  have j3 : inI64 t := by unfold inI64; omega
  have j4 : inI64 (a + t) := by unfold inI64; omega
  have j5 : inI64 (b + t) := by unfold inI64; omega
  have j6 : inI64 (lo + t) := by unfold inI64; omega
  have j7 : inI64 (hi + t) := by unfold inI64; omega
  have p1 : -1000000 ≤ a ∧ a ≤ 1000000 ∧ -1000000 ≤ b ∧ b ≤ 1000000 := by omega
  have p2 : -1000000 ≤ c ∧ c ≤ 1000000 ∧ -1000000 ≤ d ∧ d ≤ 1000000 := by omega
  have key : cvE a b c d lo hi = cvE (-a) (-b) (-c) (-d) (-hi) (-lo) ∧ (cvE a b c d lo hi = 0 ∨ cvE a b c d lo hi = 10) ∧ cvLo a b c d lo hi = -cvHi (-a) (-b) (-c) (-d) (-hi) (-lo) ∧ cvHi a b c d lo hi = -cvLo (-a) (-b) (-c) (-d) (-hi) (-lo) ∧ inI64 (-cvHi (-a) (-b) (-c) (-d) (-hi) (-lo)) ∧ inI64 (-cvLo (-a) (-b) (-c) (-d) (-hi) (-lo)) := by
    rcases cv_cases v1 v2 (show -1000000 ≤ lo ∧ lo ≤ hi ∧ hi ≤ 1000000 by omega) with ⟨e1, e2, e3, e4⟩ | ⟨e1, e2, e3, e4, e5, e6⟩ <;> rcases cv_cases w1 w2 (show -1000000 ≤ -hi ∧ -hi ≤ -lo ∧ -lo ≤ 1000000 by omega) with ⟨g1, g2, g3, g4⟩ | ⟨g1, g2, g3, g4, g5, g6⟩
    · unfold inI64; rw [e1, e2, e3, g1, g2, g3]; omega
    · exact absurd ⟨by omega, by omega⟩ e4
    · exact absurd ⟨by omega, by omega⟩ g4
    · unfold inI64; rw [e1, e2, e3, g1, g2, g3]; omega
  obtain ⟨q1, q2, q3, q4, q5, q6⟩ := key
  have u1 : (cvE a b c d lo hi != cvE (-a) (-b) (-c) (-d) (-hi) (-lo)) = false := by simp [q1]
  have u2 : (cvLo a b c d lo hi != -cvHi (-a) (-b) (-c) (-d) (-hi) (-lo)) = false := by simp [q3]
  have u3 : (cvHi a b c d lo hi != -cvLo (-a) (-b) (-c) (-d) (-hi) (-lo)) = false := by simp [q4]
  rw [u1, u2, u3, hE, hO, k1, k2]
  clear u1 u2 u3 q1 q3 q4 n1 n2 k1 k2 hE
  cases hs : scB (a + t) (b + t)
  · rcases q2 with q2 | q2 <;> simp [q2, q5, q6, j1, j2, j3, j4, j5, p1, p2]
  · have hE2 : hgErr (a + t) (b + t) (lo + t) (hi + t) = 0 := by simp [hgErr, hs, hi2]
    have hO2 : hgOk (a + t) (b + t) (lo + t) (hi + t) = true := by simp [hgOk, hs, hi2]
    rcases q2 with q2 | q2 <;> simp [q2, q5, q6, j1, j2, j3, j4, j5, j6, j7, p1, p2, hE2, hO2]

end Go.Proofs.Ytchcegfhamngkaa
