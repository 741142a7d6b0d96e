/- Contracts of functions of the program, by the engine Sx: what each call comes to. Printed by a program of this repo (sxgen.py). -/
import Derived.Test.YtchcegfhamngkaaPtU
import Derived.Test.YtchcegfhamngkaaSxZ
set_option linter.unusedSimpArgs false
set_option linter.unusedVariables false
namespace Go.Proofs.Ytchcegfhamngkaa
open Go Go.Sx Go.RowKit

theorem catF_l {n k : Nat} {f g : Nat → List AV} {x y : Int} (h : k < n) (hf : f k = [iI x, iI y]) (hg : g 0 = [] ∨ ∃ u v, g 0 = [iI u, iI v]) : catF n f g k = [iI x, iI y] := by
  unfold catF
  rw [show decide (k < n) = true by simp [h], show k - n = 0 by omega, hf]
  rcases hg with hg | ⟨u, v, hg⟩ <;> rw [hg] <;> rfl
theorem catF_r {n k : Nat} {f g : Nat → List AV} {x y : Int} (h : ¬ k < n) (hf : f k = [] ∨ ∃ u v, f k = [iI u, iI v]) (hg : g (k - n) = [iI x, iI y]) : catF n f g k = [iI x, iI y] := by
  unfold catF
  rw [show decide (k < n) = false by simp; omega, hg]
  rcases hf with hf | ⟨u, v, hf⟩ <;> rw [hf] <;> rfl
theorem chunk_out {l : List AV} {k : Nat} (h : 0 < k) (hl : l.length = 2) : chunk 2 l k = [] := by
  unfold chunk
  rw [List.drop_of_length_le (by omega)]
  rfl
theorem chunk_or (x y : Int) (k : Nat) : chunk 2 [iI x, iI y] k = [] ∨ ∃ u v, chunk 2 [iI x, iI y] k = [iI u, iI v] := by
  by_cases h : k = 0
  · subst h; exact .inr ⟨x, y, rfl⟩
  · exact .inl (chunk_out (by omega) rfl)
/-- One number, some, and one. -/
def thA (a : Int) (n : Nat) (p : Nat → Int) (c : Int) (k : Nat) : Int := if k = 0 then a else if k ≤ n then p (k - 1) else c
theorem catAll (a b c d : Int) (n : Nat) (p q : Nat → Int) {k : Nat} (hk : k < 1 + n + 1) : catF (1 + n) (catF 1 (chunk 2 [iI a, iI b]) (fun k => [iI (p k), iI (q k)])) (chunk 2 [iI c, iI d]) k = [iI (thA a n p c k), iI (thA b n q d k)] := by
  unfold thA
  by_cases h0 : k = 0
  · subst h0
    exact catF_l (by omega) (catF_l (by omega) rfl (.inr ⟨_, _, rfl⟩)) (.inr ⟨c, d, rfl⟩)
  by_cases hn : k ≤ n
  · rw [if_neg h0, if_neg h0, if_pos hn, if_pos hn]
    exact catF_l (by omega) (catF_r (by omega) (chunk_or _ _ _) rfl) (.inr ⟨c, d, rfl⟩)
  · rw [if_neg h0, if_neg h0, if_neg hn, if_neg hn]
    refine catF_r (by omega) (.inr ?_) ?_
    · exact ⟨_, _, catF_r (by omega) (chunk_or _ _ _) rfl⟩
    · rw [show k - (1 + n) = 0 by omega]; rfl
theorem thr_bd {a b : Nat → Int} : ∀ (m k : Nat) (lo hi L H : Int), thr a b m k lo hi = some (L, H) → -1000000 ≤ L ∧ H ≤ 1000000
  | 0, k, lo, hi, L, H, h => by
    unfold thr at h
    split at h
    · rename_i hi1
      have := (insB_iff _ _ _ _).1 hi1
      cases h; omega
    · cases h
  | m + 1, k, lo, hi, L, H, h => by
    rw [thr] at h
    split at h
    · exact thr_bd m (k + 1) _ _ L H h
    · cases h
theorem one_ok {a b lo hi : Int} (A B : Nat → Int) (hA : A 0 = a) (hB : B 0 = b) (h : scB a b = true) (r : insB (-1000000) lo hi 1000000 = true) : thE 1 A B lo hi = 0 ∧ thR 1 A B lo hi = some (lo, hi) := by
  have hS : allS 1 A B = true := by simp [allS, allI, hA, hB, h]
  have ht : thr A B 0 0 lo hi = some (lo, hi) := by simp [thr, r]
  have e : thE 1 A B lo hi = 0 := by simp [thE, hS, r, ht]
  exact ⟨e, by simp [thR, e, ht]⟩

set_option maxRecDepth 100000 in
theorem PointThrough_at (a b c d : Int) (n : Nat) (p q : Nat → Int) (lo hi : Int) : SoundAt Try.prog 8 [.agg [i a, i b], .agg [i c, i d], scs n p q, .agg [i lo, i hi]] (bl true) := by
  refine soundAt_fin (G := [(37, S_ready), (23, S_lScale), (17, S_Through), (19, S_lto), (22, S_Convert), (18, S_lScales), (16, S_wakes)]) (L := []) (SoundG.cons ready_ok (SoundG.cons lScale_ok (SoundG.cons Through_ok (SoundG.cons lto_ok (SoundG.cons Convert_ok (SoundG.cons lScales_ok (SoundG.cons wakes_ok (SoundG.nil _)))))))) mixed Try.func8 (show Try.f8.body = some (bodyOf Try.f8) by kernel_rfl) noLoops (t := (Tree.branch (decide ((↑n : Int) > (6 : Int))) (Tree.leaf (RV.x (Value.bool true))) (Tree.need [(1 + n) * 16 ≤ 140737488355328, ∀ (i : Nat), i < n → ∀ (a : AV), a ∈ [Ytchcegfhamngkaa.i (p i), Ytchcegfhamngkaa.i (q i)] → AV.one a = true] (Tree.need [(1 + n + 1) * 16 ≤ 140737488355328, ∀ (i : Nat), i < 1 → ∀ (a : AV), a ∈ chunk 2 [iI c, iI d] i → AV.one a = true] (Tree.need [isRec 2 (1 + n + 1) (catF (1 + n) (catF 1 (chunk 2 [iI a, iI b]) fun k => [i (p k), i (q k)]) (chunk 2 [iI c, iI d])), 1 + n + 1 ≤ 100000] (Tree.branch (!(decide (sdE (1 + n + 1) (col 0 (catF (1 + n) (catF 1 (chunk 2 [iI a, iI b]) fun k => [i (p k), i (q k)]) (chunk 2 [iI c, iI d]))) (col 1 (catF (1 + n) (catF 1 (chunk 2 [iI a, iI b]) fun k => [i (p k), i (q k)]) (chunk 2 [iI c, iI d]))) lo hi = (0 : Int)) && (decide ((-400 : Int) ≤ lo) && decide (hi ≤ (400 : Int))))) (Tree.leaf (RV.x (Value.bool true))) (Tree.need [isRec 2 1 (chunk 2 [iI a, iI b])] (Tree.need [isRec 2 (1 + n + 1) (catF (1 + n) (catF 1 (chunk 2 [iI a, iI b]) fun k => [i (p k), i (q k)]) (chunk 2 [iI c, iI d])), 1 + n + 1 ≤ 100000] (Tree.need [isRec 2 (1 + n + 1) fun k => [i (col 0 (catF (1 + n) (catF 1 (chunk 2 [iI a, iI b]) fun k => [i (p k), i (q k)]) (chunk 2 [iI c, iI d])) k), i (col 1 (catF (1 + n) (catF 1 (chunk 2 [iI a, iI b]) fun k => [i (p k), i (q k)]) (chunk 2 [iI c, iI d])) k)]] (Tree.branch (thE 1 (col 0 (chunk 2 [iI a, iI b])) (col 1 (chunk 2 [iI a, iI b])) lo hi != (0 : Int)) (Tree.leaf (RV.x (Value.bool false))) (Tree.branch (!((match thR 1 (col 0 (chunk 2 [iI a, iI b])) (col 1 (chunk 2 [iI a, iI b])) lo hi with | some p => Prod.fst p | none => (0 : Int)) == lo && ((match thR 1 (col 0 (chunk 2 [iI a, iI b])) (col 1 (chunk 2 [iI a, iI b])) lo hi with | some p => Prod.snd p | none => (0 : Int)) == hi && true))) (Tree.leaf (RV.x (Value.bool false))) (Tree.branch (thE (1 + n + 1) (col 0 fun k => [i (col 0 (catF (1 + n) (catF 1 (chunk 2 [iI a, iI b]) fun k => [i (p k), i (q k)]) (chunk 2 [iI c, iI d])) k), i (col 1 (catF (1 + n) (catF 1 (chunk 2 [iI a, iI b]) fun k => [i (p k), i (q k)]) (chunk 2 [iI c, iI d])) k)]) (col 1 fun k => [i (col 0 (catF (1 + n) (catF 1 (chunk 2 [iI a, iI b]) fun k => [i (p k), i (q k)]) (chunk 2 [iI c, iI d])) k), i (col 1 (catF (1 + n) (catF 1 (chunk 2 [iI a, iI b]) fun k => [i (p k), i (q k)]) (chunk 2 [iI c, iI d])) k)]) lo hi != (0 : Int)) (Tree.branch (thE (1 + n + 1) (col 0 fun k => [i (col 0 (catF (1 + n) (catF 1 (chunk 2 [iI a, iI b]) fun k => [i (p k), i (q k)]) (chunk 2 [iI c, iI d])) k), i (col 1 (catF (1 + n) (catF 1 (chunk 2 [iI a, iI b]) fun k => [i (p k), i (q k)]) (chunk 2 [iI c, iI d])) k)]) (col 1 fun k => [i (col 0 (catF (1 + n) (catF 1 (chunk 2 [iI a, iI b]) fun k => [i (p k), i (q k)]) (chunk 2 [iI c, iI d])) k), i (col 1 (catF (1 + n) (catF 1 (chunk 2 [iI a, iI b]) fun k => [i (p k), i (q k)]) (chunk 2 [iI c, iI d])) k)]) lo hi != (10 : Int)) (Tree.leaf (RV.x (Value.bool false))) (Tree.branch (cvE a b c d lo hi != (0 : Int)) (Tree.branch (cvE a b c d lo hi == (10 : Int)) (Tree.branch (thE (1 + n + 1) (col 0 fun k => [i (col 0 (catF (1 + n) (catF 1 (chunk 2 [iI a, iI b]) fun k => [i (p k), i (q k)]) (chunk 2 [iI c, iI d])) k), i (col 1 (catF (1 + n) (catF 1 (chunk 2 [iI a, iI b]) fun k => [i (p k), i (q k)]) (chunk 2 [iI c, iI d])) k)]) (col 1 fun k => [i (col 0 (catF (1 + n) (catF 1 (chunk 2 [iI a, iI b]) fun k => [i (p k), i (q k)]) (chunk 2 [iI c, iI d])) k), i (col 1 (catF (1 + n) (catF 1 (chunk 2 [iI a, iI b]) fun k => [i (p k), i (q k)]) (chunk 2 [iI c, iI d])) k)]) lo hi == (10 : Int)) (Tree.leaf (RV.x (Value.bool true))) (Tree.leaf (RV.x (Value.bool false)))) (Tree.leaf (RV.x (Value.bool false)))) (Tree.branch (thE (1 + n + 1) (col 0 fun k => [i (col 0 (catF (1 + n) (catF 1 (chunk 2 [iI a, iI b]) fun k => [i (p k), i (q k)]) (chunk 2 [iI c, iI d])) k), i (col 1 (catF (1 + n) (catF 1 (chunk 2 [iI a, iI b]) fun k => [i (p k), i (q k)]) (chunk 2 [iI c, iI d])) k)]) (col 1 fun k => [i (col 0 (catF (1 + n) (catF 1 (chunk 2 [iI a, iI b]) fun k => [i (p k), i (q k)]) (chunk 2 [iI c, iI d])) k), i (col 1 (catF (1 + n) (catF 1 (chunk 2 [iI a, iI b]) fun k => [i (p k), i (q k)]) (chunk 2 [iI c, iI d])) k)]) lo hi == (10 : Int)) (Tree.leaf (RV.x (Value.bool true))) (Tree.branch (decide ((match thR (1 + n + 1) (col 0 fun k => [i (col 0 (catF (1 + n) (catF 1 (chunk 2 [iI a, iI b]) fun k => [i (p k), i (q k)]) (chunk 2 [iI c, iI d])) k), i (col 1 (catF (1 + n) (catF 1 (chunk 2 [iI a, iI b]) fun k => [i (p k), i (q k)]) (chunk 2 [iI c, iI d])) k)]) (col 1 fun k => [i (col 0 (catF (1 + n) (catF 1 (chunk 2 [iI a, iI b]) fun k => [i (p k), i (q k)]) (chunk 2 [iI c, iI d])) k), i (col 1 (catF (1 + n) (catF 1 (chunk 2 [iI a, iI b]) fun k => [i (p k), i (q k)]) (chunk 2 [iI c, iI d])) k)]) lo hi with | some p => Prod.fst p | none => (0 : Int)) ≤ cvLo a b c d lo hi)) (Tree.branch (decide ((match thR (1 + n + 1) (col 0 fun k => [i (col 0 (catF (1 + n) (catF 1 (chunk 2 [iI a, iI b]) fun k => [i (p k), i (q k)]) (chunk 2 [iI c, iI d])) k), i (col 1 (catF (1 + n) (catF 1 (chunk 2 [iI a, iI b]) fun k => [i (p k), i (q k)]) (chunk 2 [iI c, iI d])) k)]) (col 1 fun k => [i (col 0 (catF (1 + n) (catF 1 (chunk 2 [iI a, iI b]) fun k => [i (p k), i (q k)]) (chunk 2 [iI c, iI d])) k), i (col 1 (catF (1 + n) (catF 1 (chunk 2 [iI a, iI b]) fun k => [i (p k), i (q k)]) (chunk 2 [iI c, iI d])) k)]) lo hi with | some p => Prod.snd p | none => (0 : Int)) ≥ cvHi a b c d lo hi)) (Tree.leaf (RV.x (Value.bool true))) (Tree.leaf (RV.x (Value.bool false)))) (Tree.leaf (RV.x (Value.bool false))))))) (Tree.branch (cvE a b c d lo hi != (0 : Int)) (Tree.branch (cvE a b c d lo hi == (10 : Int)) (Tree.branch (thE (1 + n + 1) (col 0 fun k => [i (col 0 (catF (1 + n) (catF 1 (chunk 2 [iI a, iI b]) fun k => [i (p k), i (q k)]) (chunk 2 [iI c, iI d])) k), i (col 1 (catF (1 + n) (catF 1 (chunk 2 [iI a, iI b]) fun k => [i (p k), i (q k)]) (chunk 2 [iI c, iI d])) k)]) (col 1 fun k => [i (col 0 (catF (1 + n) (catF 1 (chunk 2 [iI a, iI b]) fun k => [i (p k), i (q k)]) (chunk 2 [iI c, iI d])) k), i (col 1 (catF (1 + n) (catF 1 (chunk 2 [iI a, iI b]) fun k => [i (p k), i (q k)]) (chunk 2 [iI c, iI d])) k)]) lo hi == (10 : Int)) (Tree.leaf (RV.x (Value.bool true))) (Tree.leaf (RV.x (Value.bool false)))) (Tree.leaf (RV.x (Value.bool false)))) (Tree.branch (thE (1 + n + 1) (col 0 fun k => [i (col 0 (catF (1 + n) (catF 1 (chunk 2 [iI a, iI b]) fun k => [i (p k), i (q k)]) (chunk 2 [iI c, iI d])) k), i (col 1 (catF (1 + n) (catF 1 (chunk 2 [iI a, iI b]) fun k => [i (p k), i (q k)]) (chunk 2 [iI c, iI d])) k)]) (col 1 fun k => [i (col 0 (catF (1 + n) (catF 1 (chunk 2 [iI a, iI b]) fun k => [i (p k), i (q k)]) (chunk 2 [iI c, iI d])) k), i (col 1 (catF (1 + n) (catF 1 (chunk 2 [iI a, iI b]) fun k => [i (p k), i (q k)]) (chunk 2 [iI c, iI d])) k)]) lo hi == (10 : Int)) (Tree.leaf (RV.x (Value.bool true))) (Tree.branch (decide ((match thR (1 + n + 1) (col 0 fun k => [i (col 0 (catF (1 + n) (catF 1 (chunk 2 [iI a, iI b]) fun k => [i (p k), i (q k)]) (chunk 2 [iI c, iI d])) k), i (col 1 (catF (1 + n) (catF 1 (chunk 2 [iI a, iI b]) fun k => [i (p k), i (q k)]) (chunk 2 [iI c, iI d])) k)]) (col 1 fun k => [i (col 0 (catF (1 + n) (catF 1 (chunk 2 [iI a, iI b]) fun k => [i (p k), i (q k)]) (chunk 2 [iI c, iI d])) k), i (col 1 (catF (1 + n) (catF 1 (chunk 2 [iI a, iI b]) fun k => [i (p k), i (q k)]) (chunk 2 [iI c, iI d])) k)]) lo hi with | some p => Prod.fst p | none => (0 : Int)) ≤ cvLo a b c d lo hi)) (Tree.branch (decide ((match thR (1 + n + 1) (col 0 fun k => [i (col 0 (catF (1 + n) (catF 1 (chunk 2 [iI a, iI b]) fun k => [i (p k), i (q k)]) (chunk 2 [iI c, iI d])) k), i (col 1 (catF (1 + n) (catF 1 (chunk 2 [iI a, iI b]) fun k => [i (p k), i (q k)]) (chunk 2 [iI c, iI d])) k)]) (col 1 fun k => [i (col 0 (catF (1 + n) (catF 1 (chunk 2 [iI a, iI b]) fun k => [i (p k), i (q k)]) (chunk 2 [iI c, iI d])) k), i (col 1 (catF (1 + n) (catF 1 (chunk 2 [iI a, iI b]) fun k => [i (p k), i (q k)]) (chunk 2 [iI c, iI d])) k)]) lo hi with | some p => Prod.snd p | none => (0 : Int)) ≥ cvHi a b c d lo hi)) (Tree.leaf (RV.x (Value.bool true))) (Tree.leaf (RV.x (Value.bool false)))) (Tree.leaf (RV.x (Value.bool false)))))))))))))))))) (by kernel_rfl) ?_
  by_cases h6 : (n : Int) > 6
  · simp [Tree.sat, fitP, valEq, h6]
  have hn : n ≤ 6 := by omega
  have g6 : decide ((n : Int) > 6) = false := by simpa using h6
  have F1 : ∀ k, k < 1 + n + 1 → catF (1 + n) (catF 1 (chunk 2 [iI a, iI b]) (fun k => [i (p k), i (q k)])) (chunk 2 [iI c, iI d]) k = [iI (thA a n p c k), iI (thA b n q d k)] := fun k hk => catAll a b c d n p q hk
  have C0 : col 0 (chunk 2 [iI a, iI b]) 0 = a := rfl
  have C1 : col 1 (chunk 2 [iI a, iI b]) 0 = b := rfl
  have C2 : isRec 2 1 (chunk 2 [iI a, iI b]) := isRec_c1 a b
  have C3 : ∀ k, k < 1 → ∀ x, x ∈ chunk 2 [iI c, iI d] k → AV.one x = true := by
    intro k hk x hx
    obtain rfl : k = 0 := by omega
    rcases (show x = iI c ∨ x = iI d by simpa [chunk] using hx) with rfl | rfl <;> rfl
  have C4 : ∀ (k : Nat), k < n → ∀ x, x ∈ [i (p k), i (q k)] → AV.one x = true := by
    intro k hk x hx
    rcases (show x = i (p k) ∨ x = i (q k) by simpa using hx) with rfl | rfl <;> rfl
  generalize catF (1 + n) (catF 1 (chunk 2 [iI a, iI b]) (fun k => [i (p k), i (q k)])) (chunk 2 [iI c, iI d]) = F at *
  generalize chunk 2 [iI a, iI b] = C at *
  generalize chunk 2 [iI c, iI d] = D at *
  have hF : isRec 2 (1 + n + 1) F := fun k hk => by rw [F1 k hk]; rfl
  have A1 : ∀ k, k < 1 + n + 1 → col 0 F k = thA a n p c k := fun k hk => by unfold col; rw [F1 k hk]; rfl
  have B1 : ∀ k, k < 1 + n + 1 → col 1 F k = thA b n q d k := fun k hk => by unfold col; rw [F1 k hk]; rfl
  have c0 : (col 0 fun k => [i (col 0 F k), i (col 1 F k)]) = col 0 F := rfl
  have c1 : (col 1 fun k => [i (col 0 F k), i (col 1 F k)]) = col 1 F := rfl
  have hG : isRec 2 (1 + n + 1) (fun k => [i (col 0 F k), i (col 1 F k)]) := fun _ _ => rfl
  simp only [Tree.sat, allP, fitP, valEq, true_and, and_true, c0, c1, g6]
  have a0 := A1 0 (by omega)
  have b0 := B1 0 (by omega)
  have an := A1 (n + 1) (by omega)
  have bn := B1 (n + 1) (by omega)
  simp only [thA, if_true, if_neg (show ¬ n + 1 = 0 by omega), if_neg (show ¬ n + 1 ≤ n by omega)] at a0 b0 an bn
  generalize col 0 F = A at *
  generalize col 1 F = B at *
  refine ⟨fun h => absurd h (by decide), fun _ => ⟨⟨by omega, C4⟩, ⟨by omega, C3⟩, ⟨hF, by omega⟩, ?_⟩⟩
  cases hR : (decide (sdE (1 + n + 1) A B lo hi = 0) && (decide (-400 ≤ lo) && decide (hi ≤ 400)))
  · simp
  simp only [Bool.and_eq_true, decide_eq_true_eq] at hR
  obtain ⟨s0, r1, r2⟩ := hR
  rcases th_cases (1 + n + 1) A B lo hi with ⟨q1, q2, q3, q4⟩ | ⟨q1, q2, q3, q4⟩ | ⟨q1, q0, q2, q3, q4⟩ | ⟨q1, q0, k1, k2, q2, q3, q4, q5⟩ | ⟨q1, q0, k1, k2, q2, q3, q4, q5⟩
  · omega
  · omega
  · omega
  · have hS := allI_iff.1 k1
    have v1 := hS 0 (by omega)
    have v2 := hS (n + 1) (by omega)
    simp only [a0, b0, an, bn] at v1 v2
    obtain ⟨o1, o2⟩ := one_ok (col 0 C) (col 1 C) C0 C1 v1 k2
    have r := (insB_iff _ _ _ _).1 k2
    rcases cv_cases v1 v2 r with ⟨e1, e2, e3, _⟩ | ⟨e1, e2, e3, e4, e5, e6⟩
    · simp [hF, hG, C2, o1, o2, q3, q4, e1, e2, e3]; omega
    · simp [hF, hG, C2, o1, o2, q3, q4, e1, e2, e3]; omega
  · have hS := allI_iff.1 k1
    have v1 := hS 0 (by omega)
    have v2 := hS (n + 1) (by omega)
    simp only [a0, b0, an, bn] at v1 v2
    obtain ⟨o1, o2⟩ := one_ok (col 0 C) (col 1 C) C0 C1 v1 k2
    have r := (insB_iff _ _ _ _).1 k2
    have ht : thr A B (n + 1) 0 lo hi = some (rth A B (1 + n + 1 - 1) 0 lo hi).2 := by
      have := q4
      unfold thR at this
      rw [if_pos q3, show 1 + n + 1 - 1 = n + 1 by omega] at this
      rw [show 1 + n + 1 - 1 = n + 1 by omega]
      exact this
    generalize (rth A B (1 + n + 1 - 1) 0 lo hi).2 = LH at *
    obtain ⟨L, H⟩ := LH
    have w := thr_wide (a := A) (b := B) (m := n) (fun j hj => hS j (by omega)) r ht
    rw [a0, b0, an, bn] at w
    have hb : -1000000 ≤ L ∧ H ≤ 1000000 := thr_bd (n + 1) 0 lo hi _ _ ht
    rcases cv_cases v1 v2 r with ⟨e1, e2, e3, e4⟩ | ⟨e1, e2, e3, e4, e5, e6⟩
    · exact absurd ⟨by omega, by omega⟩ e4
    · simp [hF, hG, C2, o1, o2, q3, q4, e1, e2, e3, w.1, w.2]; omega

end Go.Proofs.Ytchcegfhamngkaa
