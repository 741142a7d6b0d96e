/- Contracts of functions of the program, by the engine Sx: what each call comes to. Printed by a program of this repo (sxgen.py). -/
import Derived.Test.YtchcegfhamngkaaPtM
import Derived.Test.YtchcegfhamngkaaPtK
set_option linter.unusedSimpArgs false
set_option linter.unusedVariables false
namespace Go.Proofs.Ytchcegfhamngkaa
open Go Go.Sx Go.RowKit

theorem seg_spec {n : Nat} {p q : Nat → Int} {x : Int} (hn : 2 ≤ n) (ht : tabB n p q = true) (hx : p 0 ≤ x ∧ x ≤ p (n - 1)) : segI n p x < n - 1 ∧ p (segI n p x) ≤ x ∧ x ≤ p (segI n p x + 1) := by
  have h1 := seg_lt hn hx.2
  obtain ⟨f1, f2, f3⟩ := fstI_spec (fun k => decide (x ≤ p (k + 1))) (n - 1)
  have h3 := f3 h1
  refine ⟨h1, ?_, of_decide_eq_true h3⟩
  rcases Nat.eq_zero_or_pos (segI n p x) with h | h
  · rw [h]; exact hx.1
  · have := f2 (segI n p x - 1) (by unfold segI at h ⊢; omega)
    rw [show segI n p x - 1 + 1 = segI n p x by omega] at this
    simp at this
    omega
theorem boilAt_bd {p q : Nat → Int} {x : Int} {k : Nat} (hp : p k < p (k + 1)) (hq : q k < q (k + 1)) (h1 : p k ≤ x) (h2 : x ≤ p (k + 1)) : boilAt p q x k = q k + (q (k + 1) - q k) * (x - p k) / (p (k + 1) - p k) ∧ q k ≤ boilAt p q x k ∧ boilAt p q x k ≤ q (k + 1) := by
  have m0 : 0 ≤ (q (k + 1) - q k) * (x - p k) := Int.mul_nonneg (by omega) (by omega)
  have e : boilAt p q x k = q k + (q (k + 1) - q k) * (x - p k) / (p (k + 1) - p k) := by
    unfold boilAt
    rw [Int.tdiv_eq_ediv_of_nonneg m0]
  have m1 : (q (k + 1) - q k) * (x - p k) ≤ (q (k + 1) - q k) * (p (k + 1) - p k) := Int.mul_le_mul_of_nonneg_left (by omega) (by omega)
  have d0 : 0 ≤ (q (k + 1) - q k) * (x - p k) / (p (k + 1) - p k) := Int.ediv_nonneg m0 (by omega)
  have d1 : (q (k + 1) - q k) * (x - p k) / (p (k + 1) - p k) ≤ q (k + 1) - q k := Int.ediv_le_of_le_mul (by omega) m1
  rw [e]
  omega
theorem seg_mono {n : Nat} {p : Nat → Int} {x y : Int} (h : x ≤ y) : segI n p x ≤ segI n p y := by
  obtain ⟨f1, f2, f3⟩ := fstI_spec (fun k => decide (x ≤ p (k + 1))) (n - 1)
  obtain ⟨g1, g2, g3⟩ := fstI_spec (fun k => decide (y ≤ p (k + 1))) (n - 1)
  unfold segI
  rcases Nat.lt_or_ge (fstI (fun k => decide (y ≤ p (k + 1))) (n - 1)) (fstI (fun k => decide (x ≤ p (k + 1))) (n - 1)) with hl | hl
  · have a1 := f2 _ hl
    have a2 := g3 (by omega)
    simp at a1 a2
    omega
  · exact hl
theorem boil_spec {n : Nat} {p q : Nat → Int} {x : Int} (hn : 2 ≤ n) (ht : tabB n p q = true) (hx : p 0 ≤ x ∧ x ≤ p (n - 1)) : q 0 ≤ boilI n p q x ∧ boilI n p q x ≤ q (n - 1) ∧ 1 ≤ boilI n p q x ∧ boilI n p q x ≤ 2000 := by
  obtain ⟨h1, h2, h3⟩ := seg_spec hn ht hx
  have s := tab_step ht (show segI n p x + 1 < n by omega)
  simp only [Nat.add_sub_cancel] at s
  have b := boilAt_bd (p := p) (q := q) (x := x) (k := segI n p x) (by omega) (by omega) h2 h3
  have m1 := tab_mono ht (show 0 ≤ segI n p x by omega) (show segI n p x < n by omega)
  have m2 := tab_mono ht (show segI n p x + 1 ≤ n - 1 by omega) (show n - 1 < n by omega)
  have z := tab_step ht (show 0 < n by omega)
  have z2 := tab_step ht (show n - 1 < n by omega)
  unfold boilI
  omega
theorem boil_mono {n : Nat} {p q : Nat → Int} {x y : Int} (hn : 2 ≤ n) (ht : tabB n p q = true) (hx : p 0 ≤ x) (hxy : x ≤ y) (hy : y ≤ p (n - 1)) : boilI n p q x ≤ boilI n p q y := by
  obtain ⟨h1, h2, h3⟩ := seg_spec hn ht (x := x) (by omega)
  obtain ⟨g1, g2, g3⟩ := seg_spec hn ht (x := y) (by omega)
  have s := tab_step ht (show segI n p x + 1 < n by omega)
  have s' := tab_step ht (show segI n p y + 1 < n by omega)
  simp only [Nat.add_sub_cancel] at s s'
  have b := boilAt_bd (p := p) (q := q) (x := x) (k := segI n p x) (by omega) (by omega) h2 h3
  have b' := boilAt_bd (p := p) (q := q) (x := y) (k := segI n p y) (by omega) (by omega) g2 g3
  have hm := seg_mono (n := n) (p := p) hxy
  unfold boilI
  rcases Nat.lt_or_ge (segI n p x) (segI n p y) with hl | hl
  · have m := tab_mono ht (show segI n p x + 1 ≤ segI n p y by omega) (show segI n p y < n by omega)
    omega
  · have e : segI n p x = segI n p y := by omega
    rw [b.1, b'.1, e]
    rw [e] at s
    have := Int.ediv_le_ediv (show 0 < p (segI n p y + 1) - p (segI n p y) by omega) (Int.mul_le_mul_of_nonneg_left (show x - p (segI n p y) ≤ y - p (segI n p y) by omega) (show 0 ≤ q (segI n p y + 1) - q (segI n p y) by omega))
    omega


theorem min_mul {A A' u v u' v' : Int} (a1 : A' ≤ A) (hu : 0 ≤ u' ∧ u' ≤ u ∧ u ≤ v ∧ v ≤ v') : min (A' * u') (A' * v') ≤ min (A * u) (A * v) := by
  have b1 : min (A' * u') (A' * v') ≤ A * u := by
    rcases Int.le_total 0 A' with h0 | h0
    · have := Int.mul_le_mul_of_nonneg_left hu.2.1 h0
      have := Int.mul_le_mul_of_nonneg_right a1 (show 0 ≤ u by omega)
      omega
    · have := Int.mul_le_mul_of_nonpos_left h0 (show u ≤ v' by omega)
      have := Int.mul_le_mul_of_nonneg_right a1 (show 0 ≤ u by omega)
      omega
  have b2 : min (A' * u') (A' * v') ≤ A * v := by
    rcases Int.le_total 0 A' with h0 | h0
    · have := Int.mul_le_mul_of_nonneg_left (show u' ≤ v by omega) h0
      have := Int.mul_le_mul_of_nonneg_right a1 (show 0 ≤ v by omega)
      omega
    · have := Int.mul_le_mul_of_nonpos_left h0 hu.2.2.2
      have := Int.mul_le_mul_of_nonneg_right a1 (show 0 ≤ v by omega)
      omega
  omega
theorem cr_mono {a b u v lo hi u' v' lo' hi' : Int} (h : a ≠ b) (hu : 0 ≤ u' ∧ u' ≤ u ∧ u ≤ v ∧ v ≤ v') (hr : lo' ≤ lo ∧ lo ≤ hi ∧ hi ≤ hi') : crLo a b u' v' lo' hi' ≤ crLo a b u v lo hi ∧ crHi a b u v lo hi ≤ crHi a b u' v' lo' hi' := by
  have s1 := sizeI_pos h
  have a1 : alLo a b lo' hi' ≤ alLo a b lo hi := by unfold alLo; split <;> omega
  have a2 : alHi a b lo hi ≤ alHi a b lo' hi' := by unfold alHi; split <;> omega
  have m1 := min_mul a1 hu
  have m2 := min_mul (show -alHi a b lo' hi' ≤ -alHi a b lo hi by omega) hu
  simp only [Int.neg_mul] at m2
  constructor
  · exact Int.ediv_le_ediv (by omega) m1
  · unfold crHi ceI
    have := Int.ediv_le_ediv (show 0 < sizeI a b by omega) (show -(max (alHi a b lo' hi' * u') (alHi a b lo' hi' * v')) ≤ -(max (alHi a b lo hi * u) (alHi a b lo hi * v)) by omega)
    omega
theorem cr_even {a b lo hi : Int} : crLo a b 1000 1000 lo hi = hgLo a b lo hi ∧ crHi a b 1000 1000 lo hi = hgHi a b lo hi := by
  unfold crLo crHi hgLo hgHi
  rw [Int.min_self, Int.max_self, Int.mul_comm _ 1000, Int.mul_comm _ 1000]
  exact ⟨rfl, rfl⟩

end Go.Proofs.Ytchcegfhamngkaa
