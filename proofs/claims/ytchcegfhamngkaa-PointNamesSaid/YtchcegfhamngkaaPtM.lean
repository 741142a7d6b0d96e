/- Contracts of functions of the program, by the engine Sx: what each call comes to. Printed by a program of this repo (sxgen.py). -/
import Derived.Test.YtchcegfhamngkaaPtF
set_option linter.unusedSimpArgs false
set_option linter.unusedVariables false
namespace Go.Proofs.Ytchcegfhamngkaa
open Go Go.Sx Go.RowKit

/-- A reading meets others just if it can stand for them. -/
theorem meet_iff {a b c d lo hi x : Int} (h : -1000 ≤ a ∧ a ≤ 1000 ∧ -1000 ≤ b ∧ b ≤ 1000 ∧ a ≠ b) (k : -1000 ≤ c ∧ c ≤ 1000 ∧ -1000 ≤ d ∧ d ≤ 1000 ∧ c ≠ d) (r : -1000000 ≤ lo ∧ lo ≤ hi ∧ hi ≤ 1000000) :
    meetB c d x a b lo hi = true ↔ stLo a b c d lo hi ≤ x ∧ x ≤ stHi a b c d lo hi := by
  have s1 := sizeI_pos h.2.2.2.2
  obtain ⟨f1, f2, f3⟩ := stF_bd h k r
  obtain ⟨e1, e2⟩ := st_eq h k r
  have hw : wy c d = 1 ∨ wy c d = -1 := by unfold wy; split <;> simp
  obtain ⟨n, hn⟩ : ∃ n, x = c + wy c d * n := by
    rcases hw with hw | hw
    · exact ⟨x - c, by rw [hw]; omega⟩
    · exact ⟨c - x, by rw [hw]; omega⟩
  have hl : lowB c d x a b lo hi = decide (n < stF a b c d lo hi) := by rw [hn]; exact low_wy k.2.2.2.2 s1
  have hh : highB c d x a b lo hi = decide (stL a b c d lo hi < n) := by rw [hn]; exact high_wy k.2.2.2.2 s1
  have hm : meetB c d x a b lo hi = (!highB c d x a b lo hi && !lowB c d x a b lo hi) := by
    unfold meetB highB lowB
    rw [Bool.eq_iff_iff]
    simp only [Bool.and_eq_true, Bool.not_eq_true', decide_eq_true_eq, decide_eq_false_iff_not]
    omega
  rw [hm, hl, hh]
  simp only [Bool.and_eq_true, Bool.not_eq_true', decide_eq_false_iff_not]
  rcases hw with hw | hw
  · rw [hw] at e1 e2 hn
    omega
  · rw [hw] at e1 e2 hn
    omega
theorem st_le {a b c d lo hi : Int} (h : -1000 ≤ a ∧ a ≤ 1000 ∧ -1000 ≤ b ∧ b ≤ 1000 ∧ a ≠ b) (k : -1000 ≤ c ∧ c ≤ 1000 ∧ -1000 ≤ d ∧ d ≤ 1000 ∧ c ≠ d) (r : -1000000 ≤ lo ∧ lo ≤ hi ∧ hi ≤ 1000000) : stLo a b c d lo hi ≤ stHi a b c d lo hi := by
  obtain ⟨e1, e2⟩ := st_eq h k r
  omega
/-- With more readings no less can stand. -/
theorem st_mono {a b c d lo hi lo' hi' : Int} (h : -1000 ≤ a ∧ a ≤ 1000 ∧ -1000 ≤ b ∧ b ≤ 1000 ∧ a ≠ b) (k : -1000 ≤ c ∧ c ≤ 1000 ∧ -1000 ≤ d ∧ d ≤ 1000 ∧ c ≠ d) (r : -1000000 ≤ lo ∧ lo ≤ hi ∧ hi ≤ 1000000) (r' : -1000000 ≤ lo' ∧ lo' ≤ lo ∧ hi ≤ hi' ∧ hi' ≤ 1000000) :
    stLo a b c d lo' hi' ≤ stLo a b c d lo hi ∧ stHi a b c d lo hi ≤ stHi a b c d lo' hi' := by
  have mono : ∀ x, meetB c d x a b lo hi = true → meetB c d x a b lo' hi' = true := by
    intro x hx
    have s1 : 0 ≤ sizeI c d := by have := sizeI_pos k.2.2.2.2; omega
    have a1 : alLo a b lo' hi' ≤ alLo a b lo hi := by unfold alLo; split <;> omega
    have a2 : alHi a b lo hi ≤ alHi a b lo' hi' := by unfold alHi; split <;> omega
    have m1 := Int.mul_le_mul_of_nonneg_right a1 s1
    have m2 := Int.mul_le_mul_of_nonneg_right a2 s1
    unfold meetB at hx ⊢
    simp only [Bool.and_eq_true, decide_eq_true_eq] at hx ⊢
    omega
  have hle := st_le h k r
  have q1 := mono _ ((meet_iff h k r (x := stLo a b c d lo hi)).2 ⟨Int.le_refl _, hle⟩)
  have q2 := mono _ ((meet_iff h k r (x := stHi a b c d lo hi)).2 ⟨hle, Int.le_refl _⟩)
  have r2 : -1000000 ≤ lo' ∧ lo' ≤ hi' ∧ hi' ≤ 1000000 := by omega
  exact ⟨((meet_iff h k r2).1 q1).1, ((meet_iff h k r2).1 q2).2⟩


theorem meet_symm {a b c d x y : Int} : meetB c d x a b y y = meetB a b y c d x x := by
  unfold meetB
  rw [Bool.eq_iff_iff]
  simp only [Bool.and_eq_true, decide_eq_true_eq]
  omega
/-- What was read can stand for all that can stand for it. -/
theorem st_back {a b c d lo hi : Int} (h : -1000 ≤ a ∧ a ≤ 1000 ∧ -1000 ≤ b ∧ b ≤ 1000 ∧ a ≠ b) (k : -1000 ≤ c ∧ c ≤ 1000 ∧ -1000 ≤ d ∧ d ≤ 1000 ∧ c ≠ d) (r : -1000000 ≤ lo ∧ lo ≤ hi ∧ hi ≤ 1000000)
    (rc : -1000000 ≤ stLo a b c d lo hi ∧ stHi a b c d lo hi ≤ 1000000) :
    stLo c d a b (stLo a b c d lo hi) (stHi a b c d lo hi) ≤ lo ∧ hi ≤ stHi c d a b (stLo a b c d lo hi) (stHi a b c d lo hi) := by
  have hle := st_le h k r
  have one : ∀ y, lo ≤ y → y ≤ hi → stLo c d a b (stLo a b c d lo hi) (stHi a b c d lo hi) ≤ y ∧ y ≤ stHi c d a b (stLo a b c d lo hi) (stHi a b c d lo hi) := by
    intro y h1 h2
    have ry : -1000000 ≤ y ∧ y ≤ y ∧ y ≤ 1000000 := by omega
    have hy := st_le h k ry
    have hm := st_mono h k ry (lo' := lo) (hi' := hi) (by omega)
    have m1 := (meet_iff h k ry (x := stLo a b c d y y)).2 ⟨Int.le_refl _, hy⟩
    rw [meet_symm] at m1
    have rx : -1000000 ≤ stLo a b c d y y ∧ stLo a b c d y y ≤ stLo a b c d y y ∧ stLo a b c d y y ≤ 1000000 := by omega
    have m2 := (meet_iff k h rx).1 m1
    have m3 := st_mono k h rx (lo' := stLo a b c d lo hi) (hi' := stHi a b c d lo hi) (by omega)
    omega
  exact ⟨(one lo (Int.le_refl _) r.2.1).1, (one hi r.2.1 (Int.le_refl _)).2⟩
/-- On its own scale readings can stand for those from one less to one more. -/
theorem st_self {a b lo hi : Int} (h : -1000 ≤ a ∧ a ≤ 1000 ∧ -1000 ≤ b ∧ b ≤ 1000 ∧ a ≠ b) (r : -1000000 ≤ lo ∧ lo ≤ hi ∧ hi ≤ 1000000) : stLo a b a b lo hi = lo - 1 ∧ stHi a b a b lo hi = hi + 1 := by
  have s1 := sizeI_pos h.2.2.2.2
  have hle := st_le h h r
  have key : ∀ x, (stLo a b a b lo hi ≤ x ∧ x ≤ stHi a b a b lo hi) ↔ (lo - 1 ≤ x ∧ x ≤ hi + 1) := by
    intro x
    rw [← meet_iff h h r]
    unfold meetB
    simp only [Bool.and_eq_true, decide_eq_true_eq, ge_iff_le]
    rw [Int.mul_le_mul_right (by omega), Int.mul_le_mul_right (by omega)]
    unfold alLo alHi
    split <;> omega
  have k1 := (key (stLo a b a b lo hi)).1 ⟨Int.le_refl _, hle⟩
  have k2 := (key (stHi a b a b lo hi)).1 ⟨hle, Int.le_refl _⟩
  have k3 := (key (lo - 1)).2 (by omega)
  have k4 := (key (hi + 1)).2 (by omega)
  omega
/-- The point u / v is within the heights of readings. -/
def holdsP (a b lo hi u v : Int) : Prop := alLo a b lo hi * v ≤ u * sizeI a b ∧ u * sizeI a b ≤ alHi a b lo hi * v


theorem holds_meet {a b c d lo hi x u v : Int} (hv : 0 < v) (h : a ≠ b) (k : c ≠ d) (p : holdsP a b lo hi u v) (q : holdsP c d x x u v) : meetB c d x a b lo hi = true := by
  have s1 := sizeI_pos h
  have s2 := sizeI_pos k
  obtain ⟨p1, p2⟩ := p
  obtain ⟨q1, q2⟩ := q
  have e1 := Int.mul_le_mul_of_nonneg_right p1 (show 0 ≤ sizeI c d by omega)
  have e2 := Int.mul_le_mul_of_nonneg_right p2 (show 0 ≤ sizeI c d by omega)
  have e3 := Int.mul_le_mul_of_nonneg_right q1 (show 0 ≤ sizeI a b by omega)
  have e4 := Int.mul_le_mul_of_nonneg_right q2 (show 0 ≤ sizeI a b by omega)
  have c1 : u * sizeI a b * sizeI c d = u * sizeI c d * sizeI a b := Int.mul_right_comm _ _ _
  have c2 : alLo c d x x * v * sizeI a b = alLo c d x x * sizeI a b * v := Int.mul_right_comm _ _ _
  have c3 : alHi c d x x * v * sizeI a b = alHi c d x x * sizeI a b * v := Int.mul_right_comm _ _ _
  have c4 : alLo a b lo hi * v * sizeI c d = alLo a b lo hi * sizeI c d * v := Int.mul_right_comm _ _ _
  have c5 : alHi a b lo hi * v * sizeI c d = alHi a b lo hi * sizeI c d * v := Int.mul_right_comm _ _ _
  rw [c1, c4] at e1
  rw [c1, c5] at e2
  rw [c2] at e3
  rw [c3] at e4
  unfold meetB
  simp only [Bool.and_eq_true, decide_eq_true_eq, ge_iff_le]
  exact ⟨Int.le_of_mul_le_mul_right (Int.le_trans e3 e2) hv, Int.le_of_mul_le_mul_right (Int.le_trans e1 e4) hv⟩
theorem al_lt {a b lo hi : Int} (r : lo ≤ hi) : alLo a b lo hi < alHi a b lo hi := by unfold alLo alHi; split <;> omega
theorem meet_point {a b c d lo hi x : Int} (h : a ≠ b) (k : c ≠ d) (r : lo ≤ hi) (m : meetB c d x a b lo hi = true) : ∃ u v : Int, 0 < v ∧ holdsP a b lo hi u v ∧ holdsP c d x x u v := by
  have s1 := sizeI_pos h
  have s2 := sizeI_pos k
  unfold meetB at m
  simp only [Bool.and_eq_true, decide_eq_true_eq, ge_iff_le] at m
  obtain ⟨m1, m2⟩ := m
  have l1 := Int.mul_le_mul_of_nonneg_right (Int.le_of_lt (al_lt (a := a) (b := b) r)) (show 0 ≤ sizeI c d by omega)
  have l2 := Int.mul_le_mul_of_nonneg_right (Int.le_of_lt (al_lt (a := c) (b := d) (Int.le_refl x))) (show 0 ≤ sizeI a b by omega)
  refine ⟨max (alLo a b lo hi * sizeI c d) (alLo c d x x * sizeI a b), sizeI a b * sizeI c d, Int.mul_pos (by omega) (by omega), ⟨?_, ?_⟩, ⟨?_, ?_⟩⟩
  · rw [← Int.mul_assoc, Int.mul_right_comm]
    exact Int.mul_le_mul_of_nonneg_right (Int.le_max_left _ _) (by omega)
  · rw [← Int.mul_assoc, Int.mul_right_comm]
    exact Int.mul_le_mul_of_nonneg_right (by omega) (by omega)
  · rw [← Int.mul_assoc]
    exact Int.mul_le_mul_of_nonneg_right (Int.le_max_right _ _) (by omega)
  · rw [← Int.mul_assoc]
    exact Int.mul_le_mul_of_nonneg_right (by omega) (by omega)
theorem near_point {c d u v : Int} (hv : 0 < v) (k : c ≠ d) : holdsP c d (c + wy c d * ((u * sizeI c d + v) / (2 * v))) (c + wy c d * ((u * sizeI c d + v) / (2 * v))) u v := by
  obtain ⟨e1, e2⟩ := al_wy (n := (u * sizeI c d + v) / (2 * v)) k
  unfold holdsP
  rw [e1, e2]
  have h1 := Int.mul_ediv_self_le (x := u * sizeI c d + v) (k := 2 * v) (by omega)
  have h2 := Int.lt_mul_ediv_self_add (x := u * sizeI c d + v) (k := 2 * v) (by omega)
  have e : 2 * v * ((u * sizeI c d + v) / (2 * v)) = 2 * ((u * sizeI c d + v) / (2 * v)) * v := by rw [Int.mul_assoc, Int.mul_assoc, Int.mul_comm v]
  rw [e] at h1 h2
  rw [Int.sub_mul, Int.add_mul]
  omega
theorem holds_wide {a b lo hi lo' hi' u v : Int} (hv : 0 < v) (p : holdsP a b lo hi u v) (h1 : lo' ≤ lo) (h2 : hi ≤ hi') : holdsP a b lo' hi' u v := by
  obtain ⟨p1, p2⟩ := p
  have a1 : alLo a b lo' hi' ≤ alLo a b lo hi := by unfold alLo; split <;> omega
  have a2 : alHi a b lo hi ≤ alHi a b lo' hi' := by unfold alHi; split <;> omega
  exact ⟨Int.le_trans (Int.mul_le_mul_of_nonneg_right a1 (by omega)) p1, Int.le_trans p2 (Int.mul_le_mul_of_nonneg_right a2 (by omega))⟩
/-- A point of the readings stays within what can stand. -/
theorem st_point {a b c d lo hi u v : Int} (h : -1000 ≤ a ∧ a ≤ 1000 ∧ -1000 ≤ b ∧ b ≤ 1000 ∧ a ≠ b) (k : -1000 ≤ c ∧ c ≤ 1000 ∧ -1000 ≤ d ∧ d ≤ 1000 ∧ c ≠ d) (r : -1000000 ≤ lo ∧ lo ≤ hi ∧ hi ≤ 1000000) (hv : 0 < v) (p : holdsP a b lo hi u v) :
    (∀ x, holdsP c d x x u v → stLo a b c d lo hi ≤ x ∧ x ≤ stHi a b c d lo hi) ∧ holdsP c d (stLo a b c d lo hi) (stHi a b c d lo hi) u v := by
  have h1 : ∀ x, holdsP c d x x u v → stLo a b c d lo hi ≤ x ∧ x ≤ stHi a b c d lo hi := fun x q => (meet_iff h k r).1 (holds_meet hv h.2.2.2.2 k.2.2.2.2 p q)
  refine ⟨h1, ?_⟩
  have q := near_point (u := u) hv k.2.2.2.2
  have := h1 _ q
  exact holds_wide hv q this.1 this.2


/-- Through scales a point stays. -/
theorem thr_point {a b : Nat → Int} {u v : Int} (hv : 0 < v) : ∀ (m k : Nat) (lo hi L H : Int), (∀ j, j ≤ k + m + 1 → scB (a j) (b j) = true) → holdsP (a k) (b k) lo hi u v → thr a b (m + 1) k lo hi = some (L, H) →
    ∀ x, holdsP (a (k + m + 1)) (b (k + m + 1)) x x u v → L ≤ x ∧ x ≤ H := by
  intro m
  induction m with
  | zero =>
    intro k lo hi L H hA p ht x q
    have b1 := scB_bd (hA k (by omega))
    have b2 := scB_bd (hA (k + 1) (by omega))
    unfold thr at ht
    split at ht
    · rename_i hi1
      have r := (insB_iff _ _ _ _).1 hi1
      unfold thr at ht
      split at ht
      · cases ht
        exact (st_point b1 b2 r hv p).1 x q
      · cases ht
    · cases ht
  | succ m ih =>
    intro k lo hi L H hA p ht x q
    have b1 := scB_bd (hA k (by omega))
    have b2 := scB_bd (hA (k + 1) (by omega))
    rw [thr] at ht
    split at ht
    · rename_i hi1
      have r := (insB_iff _ _ _ _).1 hi1
      refine ih (k + 1) _ _ L H (fun j hj => hA j (by omega)) (st_point b1 b2 r hv p).2 ht x ?_
      rw [show k + 1 + m + 1 = k + (m + 1) + 1 by omega]
      exact q
    · cases ht
/-- Through scales no less can stand on the last one than directly. -/
theorem thr_wide {a b : Nat → Int} {m : Nat} {lo hi L H : Int} (hA : ∀ j, j ≤ m + 1 → scB (a j) (b j) = true) (r : -1000000 ≤ lo ∧ lo ≤ hi ∧ hi ≤ 1000000) (ht : thr a b (m + 1) 0 lo hi = some (L, H)) :
    L ≤ stLo (a 0) (b 0) (a (m + 1)) (b (m + 1)) lo hi ∧ stHi (a 0) (b 0) (a (m + 1)) (b (m + 1)) lo hi ≤ H := by
  have b1 := scB_bd (hA 0 (by omega))
  have b2 := scB_bd (hA (m + 1) (by omega))
  have hle := st_le b1 b2 r
  have one : ∀ x, stLo (a 0) (b 0) (a (m + 1)) (b (m + 1)) lo hi ≤ x → x ≤ stHi (a 0) (b 0) (a (m + 1)) (b (m + 1)) lo hi → L ≤ x ∧ x ≤ H := by
    intro x h1 h2
    obtain ⟨u, v, hv, p, q⟩ := meet_point b1.2.2.2.2 b2.2.2.2.2 r.2.1 ((meet_iff b1 b2 r).2 ⟨h1, h2⟩)
    refine thr_point hv m 0 lo hi L H (fun j hj => hA j (by omega)) p ht x ?_
    rw [show 0 + m + 1 = m + 1 by omega]
    exact q
  exact ⟨(one _ (Int.le_refl _) hle).1, (one _ hle (Int.le_refl _)).2⟩
/-- A height of a point within readings is within the thousandths. -/
theorem hg_point {a b lo hi u v : Int} (hv : 0 < v) (h : a ≠ b) (p : holdsP a b lo hi u v) : hgLo a b lo hi * v ≤ 1000 * u ∧ 1000 * u ≤ hgHi a b lo hi * v := by
  have s1 := sizeI_pos h
  obtain ⟨p1, p2⟩ := p
  unfold hgLo hgHi ceI
  have h1 := Int.mul_ediv_self_le (x := 1000 * alLo a b lo hi) (k := sizeI a b) (by omega)
  have h2 := Int.mul_ediv_self_le (x := -(1000 * alHi a b lo hi)) (k := sizeI a b) (by omega)
  have e1 := Int.mul_le_mul_of_nonneg_right h1 (show 0 ≤ v by omega)
  have e2 := Int.mul_le_mul_of_nonneg_right h2 (show 0 ≤ v by omega)
  constructor
  · refine Int.le_of_mul_le_mul_right (a := sizeI a b) ?_ (by omega)
    have c1 : sizeI a b * (1000 * alLo a b lo hi / sizeI a b) * v = 1000 * alLo a b lo hi / sizeI a b * v * sizeI a b := by rw [Int.mul_comm (sizeI a b), Int.mul_right_comm]
    rw [c1] at e1
    rw [Int.mul_assoc 1000] at e1
    rw [Int.mul_assoc 1000]
    omega
  · refine Int.le_of_mul_le_mul_right (a := sizeI a b) ?_ (by omega)
    have c1 : sizeI a b * (-(1000 * alHi a b lo hi) / sizeI a b) * v = -(1000 * alHi a b lo hi) / sizeI a b * v * sizeI a b := by rw [Int.mul_comm (sizeI a b), Int.mul_right_comm]
    rw [c1, Int.neg_mul (1000 * alHi a b lo hi) v, Int.mul_assoc 1000] at e2
    rw [Int.mul_assoc 1000, Int.neg_mul, Int.neg_mul]
    omega


theorem al_neg {a b lo hi : Int} (h : a ≠ b) : alLo (-a) (-b) (-hi) (-lo) = alLo a b lo hi ∧ alHi (-a) (-b) (-hi) (-lo) = alHi a b lo hi ∧ sizeI (-a) (-b) = sizeI a b := by
  unfold alLo alHi sizeI
  by_cases hb : b > a
  · rw [if_pos hb, if_pos hb, if_pos hb, if_neg (by omega), if_neg (by omega), if_neg (by omega)]
    omega
  · rw [if_neg hb, if_neg hb, if_neg hb, if_pos (by omega), if_pos (by omega), if_pos (by omega)]
    omega
theorem st_neg {a b c d lo hi : Int} (h : -1000 ≤ a ∧ a ≤ 1000 ∧ -1000 ≤ b ∧ b ≤ 1000 ∧ a ≠ b) (k : -1000 ≤ c ∧ c ≤ 1000 ∧ -1000 ≤ d ∧ d ≤ 1000 ∧ c ≠ d) (r : -1000000 ≤ lo ∧ lo ≤ hi ∧ hi ≤ 1000000) :
    stLo (-a) (-b) (-c) (-d) (-hi) (-lo) = -stHi a b c d lo hi ∧ stHi (-a) (-b) (-c) (-d) (-hi) (-lo) = -stLo a b c d lo hi := by
  have h' : -1000 ≤ -a ∧ -a ≤ 1000 ∧ -1000 ≤ -b ∧ -b ≤ 1000 ∧ -a ≠ -b := by omega
  have k' : -1000 ≤ -c ∧ -c ≤ 1000 ∧ -1000 ≤ -d ∧ -d ≤ 1000 ∧ -c ≠ -d := by omega
  have r' : -1000000 ≤ -hi ∧ -hi ≤ -lo ∧ -lo ≤ 1000000 := by omega
  have key : ∀ x, (stLo a b c d lo hi ≤ x ∧ x ≤ stHi a b c d lo hi) ↔ (stLo (-a) (-b) (-c) (-d) (-hi) (-lo) ≤ -x ∧ -x ≤ stHi (-a) (-b) (-c) (-d) (-hi) (-lo)) := by
    intro x
    rw [← meet_iff h k r, ← meet_iff h' k' r']
    unfold meetB
    obtain ⟨e1, e2, e3⟩ := al_neg (lo := lo) (hi := hi) h.2.2.2.2
    obtain ⟨e4, e5, e6⟩ := al_neg (lo := x) (hi := x) k.2.2.2.2
    rw [e1, e2, e3, e4, e5, e6]
  have l1 := st_le h k r
  have l2 := st_le h' k' r'
  have k1 := (key (stLo a b c d lo hi)).1 ⟨Int.le_refl _, l1⟩
  have k2 := (key (stHi a b c d lo hi)).1 ⟨l1, Int.le_refl _⟩
  have k3 := (key (-stLo (-a) (-b) (-c) (-d) (-hi) (-lo))).2 (by rw [Int.neg_neg]; exact ⟨Int.le_refl _, l2⟩)
  have k4 := (key (-stHi (-a) (-b) (-c) (-d) (-hi) (-lo))).2 (by rw [Int.neg_neg]; exact ⟨l2, Int.le_refl _⟩)
  omega
theorem hg_shift {a b lo hi t : Int} : hgLo (a + t) (b + t) (lo + t) (hi + t) = hgLo a b lo hi ∧ hgHi (a + t) (b + t) (lo + t) (hi + t) = hgHi a b lo hi := by
  have e1 : alLo (a + t) (b + t) (lo + t) (hi + t) = alLo a b lo hi := by
    unfold alLo
    by_cases hb : b > a
    · rw [if_pos hb, if_pos (by omega)]; omega
    · rw [if_neg hb, if_neg (by omega)]; omega
  have e2 : alHi (a + t) (b + t) (lo + t) (hi + t) = alHi a b lo hi := by
    unfold alHi
    by_cases hb : b > a
    · rw [if_pos hb, if_pos (by omega)]; omega
    · rw [if_neg hb, if_neg (by omega)]; omega
  have e3 : sizeI (a + t) (b + t) = sizeI a b := by
    unfold sizeI
    by_cases hb : b > a
    · rw [if_pos hb, if_pos (by omega)]; omega
    · rw [if_neg hb, if_neg (by omega)]; omega
  unfold hgLo hgHi
  rw [e1, e2, e3]
  exact ⟨rfl, rfl⟩

end Go.Proofs.Ytchcegfhamngkaa
