/- Contracts of functions of the program, by the engine Sx: what each call comes to. Printed by a program of this repo (sxgen.py). -/
import Derived.Test.YtchcegfhamngkaaPtS
set_option linter.unusedSimpArgs false
set_option linter.unusedVariables false
namespace Go.Proofs.Ytchcegfhamngkaa
open Go Go.Sx Go.RowKit

theorem sdE_one (p q : Nat → Int) (lo hi : Int) : sdE 1 p q lo hi = hgErr (p 0) (q 0) lo hi := by simp [sdE, allS, allI, hgErr]
theorem isRec_c1 (a b : Int) : isRec 2 1 (chunk 2 [iI a, iI b]) := by
  intro k hk
  obtain rfl : k = 0 := by omega
  rfl
theorem isRec_c2 (a b c d : Int) : isRec 2 2 (chunk 2 [iI a, iI b, iI c, iI d]) := by
  intro k hk
  rcases (show k = 0 ∨ k = 1 by omega) with rfl | rfl <;> rfl

set_option maxRecDepth 100000 in
theorem PointHeights_at (a b lo hi : Int) : SoundAt Try.prog 12 [.agg [i a, i b], .agg [i lo, i hi]] (bl true) := by
  refine soundAt_fin (G := [(41, S_CheckScale), (23, S_lScale), (36, S_pHeights), (19, S_lto), (31, S_rIsScale), (20, S_scaled), (42, S_rHeights), (16, S_wakes)]) (L := []) (SoundG.cons CheckScale_ok (SoundG.cons lScale_ok (SoundG.cons pHeights_ok (SoundG.cons lto_ok (SoundG.cons rIsScale_ok (SoundG.cons scaled_ok (SoundG.cons rHeights_ok (SoundG.cons wakes_ok (SoundG.nil _))))))))) mixed Try.func12 (show Try.f12.body = some (bodyOf Try.f12) by kernel_rfl) noLoops (t := (Tree.branch (!((if scB a b = true then (0 : Int) else (1 : Int)) == (0 : Int)) == scB a b) (Tree.leaf (RV.x (Value.bool false))) (Tree.branch ((if scB a b = true then (0 : Int) else (1 : Int)) != (0 : Int)) (Tree.branch ((if scB a b = true then (0 : Int) else (1 : Int)) != (1 : Int)) (Tree.leaf (RV.x (Value.bool false))) (Tree.need [isRec 2 1 (chunk 2 [iI a, iI b]), 1 ≤ 100000] (Tree.branch (sdE 1 (col 0 (chunk 2 [iI a, iI b])) (col 1 (chunk 2 [iI a, iI b])) lo hi != (0 : Int)) (Tree.branch (hgErr a b lo hi == sdE 1 (col 0 (chunk 2 [iI a, iI b])) (col 1 (chunk 2 [iI a, iI b])) lo hi) (Tree.branch ((if hgOk a b lo hi = true then hgLo a b lo hi else (0 : Int)) == (0 : Int) && ((if hgOk a b lo hi = true then hgHi a b lo hi else (0 : Int)) == (0 : Int) && true)) (Tree.leaf (RV.x (Value.bool true))) (Tree.leaf (RV.x (Value.bool false)))) (Tree.leaf (RV.x (Value.bool false)))) (Tree.branch (hgErr a b lo hi == (0 : Int)) (Tree.need [(-1000 : Int) ≤ a ∧ a ≤ (1000 : Int) ∧ (-1000 : Int) ≤ b ∧ b ≤ (1000 : Int) ∧ a ≠ b, (-1000000 : Int) ≤ lo ∧ lo ≤ hi ∧ hi ≤ (1000000 : Int)] (Tree.branch ((if hgOk a b lo hi = true then hgLo a b lo hi else (0 : Int)) == hgLo a b lo hi && ((if hgOk a b lo hi = true then hgHi a b lo hi else (0 : Int)) == hgHi a b lo hi && true)) (Tree.leaf (RV.x (Value.bool true))) (Tree.leaf (RV.x (Value.bool false))))) (Tree.leaf (RV.x (Value.bool false))))))) (Tree.need [isRec 2 1 (chunk 2 [iI a, iI b]), 1 ≤ 100000] (Tree.branch (sdE 1 (col 0 (chunk 2 [iI a, iI b])) (col 1 (chunk 2 [iI a, iI b])) lo hi != (0 : Int)) (Tree.branch (hgErr a b lo hi == sdE 1 (col 0 (chunk 2 [iI a, iI b])) (col 1 (chunk 2 [iI a, iI b])) lo hi) (Tree.branch ((if hgOk a b lo hi = true then hgLo a b lo hi else (0 : Int)) == (0 : Int) && ((if hgOk a b lo hi = true then hgHi a b lo hi else (0 : Int)) == (0 : Int) && true)) (Tree.leaf (RV.x (Value.bool true))) (Tree.leaf (RV.x (Value.bool false)))) (Tree.leaf (RV.x (Value.bool false)))) (Tree.branch (hgErr a b lo hi == (0 : Int)) (Tree.need [(-1000 : Int) ≤ a ∧ a ≤ (1000 : Int) ∧ (-1000 : Int) ≤ b ∧ b ≤ (1000 : Int) ∧ a ≠ b, (-1000000 : Int) ≤ lo ∧ lo ≤ hi ∧ hi ≤ (1000000 : Int)] (Tree.branch ((if hgOk a b lo hi = true then hgLo a b lo hi else (0 : Int)) == hgLo a b lo hi && ((if hgOk a b lo hi = true then hgHi a b lo hi else (0 : Int)) == hgHi a b lo hi && true)) (Tree.leaf (RV.x (Value.bool true))) (Tree.leaf (RV.x (Value.bool false))))) (Tree.leaf (RV.x (Value.bool false))))))))) (by kernel_rfl) ?_
  have hs : sdE 1 (col 0 (chunk 2 [iI a, iI b])) (col 1 (chunk 2 [iI a, iI b])) lo hi = hgErr a b lo hi := sdE_one _ _ lo hi
  have hr : isRec 2 1 (chunk 2 [iI a, iI b]) := isRec_c1 a b
  cases h1 : scB a b
  · simp [Tree.sat, allP, fitP, valEq, hs, hr, hgErr, hgOk, h1]
  · have e1 := scB_bd h1
    cases h2 : insB (-1000000) lo hi 1000000
    · simp [Tree.sat, allP, fitP, valEq, hs, hr, hgErr, hgOk, h1, h2]
    · have e2 := (insB_iff _ _ _ _).1 h2
      simp [Tree.sat, allP, fitP, valEq, hs, hr, hgErr, hgOk, h1, h2]
      omega

end Go.Proofs.Ytchcegfhamngkaa
