/- Texts of this claim, put together: BoA, BoB, BoC, BoD, BoE, BoF, BoG, BoH, BoI, BoJ, BoK, BoL -/
import Derived.Test.YtmdeoobmeokmeaaMi
import Derived.Test.YtmdeoobmeokmeaaRows
/- Contracts of functions of the program, by the engine Sx: what each call comes to. Printed by a program of this repo (sxgen.py). -/
set_option linter.unusedSimpArgs false
set_option linter.unusedVariables false
namespace Go.Proofs.Ytmdeoobmeokmeaa
open Go Go.Sx Go.RowKit Go.ChangeShapes Go.WideShapes Go.ChangeAt

theorem mixed : Try.prog.follows .mixedOrders = true := by kernel_rfl
abbrev i (n : Int) : AV := .x (.int .i64 n)
abbrev iI (n : Int) : AV := .x (.int .i64 n)
abbrev bl (b : Bool) : AV := .x (.bool b)
def bt (lo n hi : Int) : Bool := decide (lo ≤ n) && decide (n ≤ hi)
theorem bt_iff (lo n hi : Int) : bt lo n hi = true ↔ lo ≤ n ∧ n ≤ hi := by simp [bt]
def insB (lo a b hi : Int) : Bool := decide (lo ≤ a) && decide (a ≤ b) && decide (b ≤ hi)
theorem insB_iff (lo a b hi : Int) : insB lo a b hi = true ↔ lo ≤ a ∧ a ≤ b ∧ b ≤ hi := by simp [insB, and_assoc]
/-- A tube: cells, total, and the bounds of a cell. -/
def tubeB (c T lo hi : Int) : Bool := bt 1 c 10 && insB 1 lo hi 200 && bt 1 T 2000 && bt (c * lo) T (c * hi)
def rdB (c a b u v : Int) : Bool := bt 0 a (c - 1) && bt a b c && insB 0 u v 2000

def S_within : Sx.Spec := fun l => match l with
  | [.x (.int .i64 n), .x (.int .i64 lo), .x (.int .i64 hi)] => some ([], bl (bt lo n hi))
  | _ => none

set_option maxRecDepth 100000 in
theorem within_at (n lo hi : Int) : SoundAt Try.prog 75 [i n, i lo, i hi] (bl (bt lo n hi)) := by
  refine soundAt_fin (G := []) (L := []) (SoundG.nil _) mixed Try.func75 (show Try.f75.body = some (bodyOf Try.f75) by kernel_rfl) noLoops (t := (Tree.branch (decide (lo ≤ n)) (Tree.leaf (RV.x (Value.bool (decide (n ≤ hi))))) (Tree.leaf (RV.x (Value.bool false))))) (by kernel_rfl) ?_
  simp only [Tree.sat, allP, fitP, fitL, valEq, true_and, and_true]
  all_goals (simp +contextual [bt, insB, Bool.and_assoc])
  all_goals omega
theorem within_ok : SoundSpec Try.prog 75 S_within := by
  refine ⟨⟨_, Try.func75, by kernel_rfl, by kernel_rfl⟩, ?_⟩
  intro avs ns res h hn
  unfold S_within at h
  split at h
  · cases h
    exact within_at _ _ _
  · cases h

def S_inside : Sx.Spec := fun l => match l with
  | [.agg [.x (.int .i64 a), .x (.int .i64 b)], .x (.int .i64 lo), .x (.int .i64 hi)] => some ([], bl (insB lo a b hi))
  | _ => none

set_option maxRecDepth 100000 in
theorem inside_at (a b lo hi : Int) : SoundAt Try.prog 65 [.agg [i a, i b], i lo, i hi] (bl (insB lo a b hi)) := by
  refine soundAt_fin (G := []) (L := []) (SoundG.nil _) mixed Try.func65 (show Try.f65.body = some (bodyOf Try.f65) by kernel_rfl) noLoops (t := (Tree.branch (decide (lo ≤ a)) (Tree.branch (decide (a ≤ b)) (Tree.leaf (RV.x (Value.bool (decide (b ≤ hi))))) (Tree.leaf (RV.x (Value.bool false)))) (Tree.leaf (RV.x (Value.bool false))))) (by kernel_rfl) ?_
  simp only [Tree.sat, allP, fitP, fitL, valEq, true_and, and_true]
  all_goals (simp +contextual [bt, insB, Bool.and_assoc])
  all_goals omega
theorem inside_ok : SoundSpec Try.prog 65 S_inside := by
  refine ⟨⟨_, Try.func65, by kernel_rfl, by kernel_rfl⟩, ?_⟩
  intro avs ns res h hn
  unfold S_inside at h
  split at h
  · cases h
    exact inside_at _ _ _ _
  · cases h

theorem mul_bd {x y X Y : Int} (hx : -X ≤ x ∧ x ≤ X) (hy : -Y ≤ y ∧ y ≤ Y) : -(X * Y) ≤ x * y ∧ x * y ≤ X * Y := by
  have h1 := Int.mul_nonneg (show 0 ≤ X - x by omega) (show 0 ≤ Y - y by omega)
  have h2 := Int.mul_nonneg (show 0 ≤ X + x by omega) (show 0 ≤ Y + y by omega)
  have h3 := Int.mul_nonneg (show 0 ≤ X - x by omega) (show 0 ≤ Y + y by omega)
  have h4 := Int.mul_nonneg (show 0 ≤ X + x by omega) (show 0 ≤ Y - y by omega)
  rw [Int.sub_mul, Int.mul_sub, Int.mul_sub] at h1
  rw [Int.add_mul, Int.mul_add, Int.mul_add] at h2
  rw [Int.sub_mul, Int.mul_add, Int.mul_add] at h3
  rw [Int.add_mul, Int.mul_sub, Int.mul_sub] at h4
  omega

def S_CheckTube : Sx.Spec := fun l => match l with
  | [.agg [.x (.int .i64 c), .x (.int .i64 T), .x (.int .i64 lo), .x (.int .i64 hi)]] => some ([], i (if tubeB c T lo hi then 0 else 1))
  | _ => none

set_option maxRecDepth 100000 in
theorem CheckTube_at (c T lo hi : Int) : SoundAt Try.prog 44 [.agg [i c, i T, i lo, i hi]] (i (if tubeB c T lo hi then 0 else 1)) := by
  refine soundAt_fin (G := [(75, S_within), (65, S_inside)]) (L := []) (SoundG.cons within_ok (SoundG.cons inside_ok (SoundG.nil _))) mixed Try.func44 (show Try.f44.body = some (bodyOf Try.f44) by kernel_rfl) noLoops (t := (Tree.branch (!bt (1 : Int) c (10 : Int)) (Tree.leaf (RV.x (Value.int IntKind.i64 (1 : Int)))) (Tree.branch (!insB (1 : Int) lo hi (200 : Int)) (Tree.leaf (RV.x (Value.int IntKind.i64 (1 : Int)))) (Tree.branch (!bt (1 : Int) T (2000 : Int)) (Tree.leaf (RV.x (Value.int IntKind.i64 (1 : Int)))) (Tree.need [inI64 (c * lo)] (Tree.need [inI64 (c * hi)] (Tree.branch (!bt (c * lo) T (c * hi)) (Tree.leaf (RV.x (Value.int IntKind.i64 (1 : Int)))) (Tree.leaf (RV.x (Value.int IntKind.i64 (0 : Int))))))))))) (by kernel_rfl) ?_
  simp only [Tree.sat, allP, fitP, valEq, true_and, and_true, inI64, tubeB]
  rcases Bool.eq_false_or_eq_true (bt 1 c 10) with h1 | h1
  rotate_left
  · simp [h1]
  rcases Bool.eq_false_or_eq_true (insB 1 lo hi 200) with h2 | h2
  rotate_left
  · simp [h1, h2]
  rcases Bool.eq_false_or_eq_true (bt 1 T 2000) with h3 | h3
  rotate_left
  · simp [h1, h2, h3]
  have e1 := (bt_iff _ _ _).1 h1
  have e2 := (insB_iff _ _ _ _).1 h2
  have m1 := mul_bd (x := c) (y := lo) (X := 10) (Y := 200) (by omega) (by omega)
  have m2 := mul_bd (x := c) (y := hi) (X := 10) (Y := 200) (by omega) (by omega)
  rcases Bool.eq_false_or_eq_true (bt (c * lo) T (c * hi)) with h4 | h4 <;> simp [h1, h2, h3, h4] <;> omega
theorem CheckTube_ok : SoundSpec Try.prog 44 S_CheckTube := by
  refine ⟨⟨_, Try.func44, by kernel_rfl, by kernel_rfl⟩, ?_⟩
  intro avs ns res h hn
  unfold S_CheckTube at h
  split at h
  · cases h
    exact CheckTube_at _ _ _ _
  · cases h

def S_reading : Sx.Spec := fun l => match l with
  | [.agg [.x (.int .i64 c), .x (.int .i64 T), .x (.int .i64 lo), .x (.int .i64 hi)], .agg [.x (.int .i64 a), .x (.int .i64 b), .x (.int .i64 u), .x (.int .i64 v)]] => some ([1 ≤ c ∧ c ≤ 10], bl (rdB c a b u v))
  | _ => none

set_option maxRecDepth 100000 in
theorem reading_at (c T lo hi a b u v : Int) (pre0 : 1 ≤ c ∧ c ≤ 10) : SoundAt Try.prog 99 [.agg [i c, i T, i lo, i hi], .agg [i a, i b, i u, i v]] (bl (rdB c a b u v)) := by
  refine soundAt_fin (G := [(75, S_within), (65, S_inside)]) (L := []) (SoundG.cons within_ok (SoundG.cons inside_ok (SoundG.nil _))) mixed Try.func99 (show Try.f99.body = some (bodyOf Try.f99) by kernel_rfl) noLoops (t := (Tree.need [inI64 (c - (1 : Int))] (Tree.branch (bt (0 : Int) a (c - (1 : Int))) (Tree.branch (bt a b c) (Tree.leaf (RV.x (Value.bool (insB (0 : Int) u v (2000 : Int))))) (Tree.leaf (RV.x (Value.bool false)))) (Tree.leaf (RV.x (Value.bool false)))))) (by kernel_rfl) ?_
  simp only [Tree.sat, allP, fitP, valEq, true_and, and_true, inI64, rdB]
  refine ⟨by omega, ?_⟩
  cases h1 : bt 0 a (c - 1) <;> cases h2 : bt a b c <;> cases h3 : insB 0 u v 2000 <;> simp
theorem reading_ok : SoundSpec Try.prog 99 S_reading := by
  refine ⟨⟨_, Try.func99, by kernel_rfl, by kernel_rfl⟩, ?_⟩
  intro avs ns res h hn
  unfold S_reading at h
  split at h
  · cases h
    exact reading_at _ _ _ _ _ _ _ _ (hn _ (by simp))
  · cases h

def S_between : Sx.Spec := fun l => match l with
  | [.x (.int .i64 a), .x (.int .i64 b)] => some ([], .agg [i a, i b])
  | _ => none

set_option maxRecDepth 100000 in
theorem between_at (a b : Int) : SoundAt Try.prog 32 [i a, i b] (.agg [i a, i b]) := by
  refine soundAt_fin (G := []) (L := []) (SoundG.nil _) mixed Try.func32 (show Try.f32.body = some (bodyOf Try.f32) by kernel_rfl) noLoops (t := (Tree.leaf (RV.agg [RV.x (Value.int IntKind.i64 a), RV.x (Value.int IntKind.i64 b)]))) (by kernel_rfl) ?_
  simp only [Tree.sat, allP, fitP, fitL, valEq, inI64, true_and, and_true]
  all_goals first | omega | grind
theorem between_ok : SoundSpec Try.prog 32 S_between := by
  refine ⟨⟨_, Try.func32, by kernel_rfl, by kernel_rfl⟩, ?_⟩
  intro avs ns res h hn
  unfold S_between at h
  split at h
  · cases h
    exact between_at _ _
  · cases h

end Go.Proofs.Ytmdeoobmeokmeaa
/- Contracts of functions of the program, by the engine Sx: what each call comes to. Printed by a program of this repo (sxgen.py). -/
set_option linter.unusedSimpArgs false
set_option linter.unusedVariables false
namespace Go.Proofs.Ytmdeoobmeokmeaa
open Go Go.Sx Go.RowKit
set_option maxRecDepth 100000 in
theorem sMin_at (a b : Int) : SoundAt Try.prog 96 [.lst 1 2 (fun k => [i (if k = 0 then a else b)])] (i (min a b)) := by
  refine soundAt_fin (G := []) (L := [fun s => some (unrollT Try.prog [] [] (loopBody (loopAt (bodyOf Try.f96) 0)) 3 s)]) (SoundG.nil _) mixed Try.func96 (show Try.f96.body = some (bodyOf Try.f96) by kernel_rfl) (one_loop (fun cj hcj => by
    have e : loopAt (bodyOf Try.f96) 0 = some (.loop (loopBody (loopAt (bodyOf Try.f96) 0))) := by kernel_rfl
    rw [e] at hcj; cases hcj
    exact unroll_sound (SoundG.nil _) mixed noLoops _)) (t := (Tree.branch (decide ((↑(2 : Nat) : Int) < (1 : Int))) Tree.fail (Tree.need [(0 : Int) ≤ (0 : Int) ∧ (0 : Int) < (↑(2 : Nat) : Int)] (Tree.branch (decide ((1 : Int) < (↑(2 : Nat) : Int))) (Tree.need [(0 : Int) ≤ (1 : Int) ∧ (1 : Int) < (↑(2 : Nat) : Int)] (Tree.need [inI64 ((1 : Int) + (1 : Int))] (Tree.branch (decide ((1 : Int) + (1 : Int) < (↑(2 : Nat) : Int))) (Tree.need [(0 : Int) ≤ (1 : Int) + (1 : Int) ∧ (1 : Int) + (1 : Int) < (↑(2 : Nat) : Int)] (Tree.need [inI64 ((1 : Int) + (1 : Int) + (1 : Int))] (Tree.branch (decide ((1 : Int) + (1 : Int) + (1 : Int) < (↑(2 : Nat) : Int))) (Tree.need [(0 : Int) ≤ (1 : Int) + (1 : Int) + (1 : Int) ∧ (1 : Int) + (1 : Int) + (1 : Int) < (↑(2 : Nat) : Int)] (Tree.need [inI64 ((1 : Int) + (1 : Int) + (1 : Int) + (1 : Int))] Tree.fail)) (Tree.leaf (RV.x (Value.int IntKind.i64 (min (min (if Int.toNat (0 : Int) = 0 then a else b) (if Int.toNat (1 : Int) = 0 then a else b)) (if Int.toNat ((1 : Int) + (1 : Int)) = 0 then a else b)))))))) (Tree.leaf (RV.x (Value.int IntKind.i64 (min (if Int.toNat (0 : Int) = 0 then a else b) (if Int.toNat (1 : Int) = 0 then a else b)))))))) (Tree.leaf (RV.x (Value.int IntKind.i64 (if Int.toNat (0 : Int) = 0 then a else b)))))))) (by kernel_rfl) ?_
  simp [Tree.sat, allP, fitP, fitL, valEq, inI64]

set_option maxRecDepth 100000 in
theorem sMax_at (a b : Int) : SoundAt Try.prog 95 [.lst 1 2 (fun k => [i (if k = 0 then a else b)])] (i (max a b)) := by
  refine soundAt_fin (G := []) (L := [fun s => some (unrollT Try.prog [] [] (loopBody (loopAt (bodyOf Try.f95) 0)) 3 s)]) (SoundG.nil _) mixed Try.func95 (show Try.f95.body = some (bodyOf Try.f95) by kernel_rfl) (one_loop (fun cj hcj => by
    have e : loopAt (bodyOf Try.f95) 0 = some (.loop (loopBody (loopAt (bodyOf Try.f95) 0))) := by kernel_rfl
    rw [e] at hcj; cases hcj
    exact unroll_sound (SoundG.nil _) mixed noLoops _)) (t := (Tree.branch (decide ((↑(2 : Nat) : Int) < (1 : Int))) Tree.fail (Tree.need [(0 : Int) ≤ (0 : Int) ∧ (0 : Int) < (↑(2 : Nat) : Int)] (Tree.branch (decide ((1 : Int) < (↑(2 : Nat) : Int))) (Tree.need [(0 : Int) ≤ (1 : Int) ∧ (1 : Int) < (↑(2 : Nat) : Int)] (Tree.need [inI64 ((1 : Int) + (1 : Int))] (Tree.branch (decide ((1 : Int) + (1 : Int) < (↑(2 : Nat) : Int))) (Tree.need [(0 : Int) ≤ (1 : Int) + (1 : Int) ∧ (1 : Int) + (1 : Int) < (↑(2 : Nat) : Int)] (Tree.need [inI64 ((1 : Int) + (1 : Int) + (1 : Int))] (Tree.branch (decide ((1 : Int) + (1 : Int) + (1 : Int) < (↑(2 : Nat) : Int))) (Tree.need [(0 : Int) ≤ (1 : Int) + (1 : Int) + (1 : Int) ∧ (1 : Int) + (1 : Int) + (1 : Int) < (↑(2 : Nat) : Int)] (Tree.need [inI64 ((1 : Int) + (1 : Int) + (1 : Int) + (1 : Int))] Tree.fail)) (Tree.leaf (RV.x (Value.int IntKind.i64 (max (max (if Int.toNat (0 : Int) = 0 then a else b) (if Int.toNat (1 : Int) = 0 then a else b)) (if Int.toNat ((1 : Int) + (1 : Int)) = 0 then a else b)))))))) (Tree.leaf (RV.x (Value.int IntKind.i64 (max (if Int.toNat (0 : Int) = 0 then a else b) (if Int.toNat (1 : Int) = 0 then a else b)))))))) (Tree.leaf (RV.x (Value.int IntKind.i64 (if Int.toNat (0 : Int) = 0 then a else b)))))))) (by kernel_rfl) ?_
  simp [Tree.sat, allP, fitP, fitL, valEq, inI64]


def S_sMin : Sx.Spec := fun l => match l with
  | [.lst 1 2 f] => (match f 0, f 1 with
    | [.x (.int .i64 a)], [.x (.int .i64 b)] => some ([], i (min a b))
    | _, _ => none)
  | _ => none


theorem sMin_ok : SoundSpec Try.prog 96 S_sMin := by
  refine ⟨⟨_, Try.func96, by kernel_rfl, by kernel_rfl⟩, ?_⟩
  intro avs ns res h hn
  unfold S_sMin at h
  split at h
  · rename_i f
    split at h
    · rename_i a b h0 h1
      cases h
      refine (sMin_at a b).same (.cons (.lst 1 2 _ _ ?_) .nil)
      intro k hk
      rcases (show k = 0 ∨ k = 1 by omega) with rfl | rfl
      · exact h0
      · exact h1
    · cases h
  · cases h


def S_sMax : Sx.Spec := fun l => match l with
  | [.lst 1 2 f] => (match f 0, f 1 with
    | [.x (.int .i64 a)], [.x (.int .i64 b)] => some ([], i (max a b))
    | _, _ => none)
  | _ => none


theorem sMax_ok : SoundSpec Try.prog 95 S_sMax := by
  refine ⟨⟨_, Try.func95, by kernel_rfl, by kernel_rfl⟩, ?_⟩
  intro avs ns res h hn
  unfold S_sMax at h
  split at h
  · rename_i f
    split at h
    · rename_i a b h0 h1
      cases h
      refine (sMax_at a b).same (.cons (.lst 1 2 _ _ ?_) .nil)
      intro k hk
      rcases (show k = 0 ∨ k = 1 by omega) with rfl | rfl
      · exact h0
      · exact h1
    · cases h
  · cases h

set_option maxRecDepth 100000 in
theorem least_at (a b : Int) : SoundAt Try.prog 71 [.lst 1 2 (fun k => [i (if k = 0 then a else b)])] (i (min a b)) := by
  refine soundAt_fin (G := [(96, S_sMin)]) (L := []) (SoundG.cons sMin_ok (SoundG.nil _)) mixed Try.func71 (show Try.f71.body = some (bodyOf Try.f71) by kernel_rfl) noLoops (t := (Tree.leaf (RV.x (Value.int IntKind.i64 (min (if 0 = 0 then a else b) (if 1 = 0 then a else b)))))) (by kernel_rfl) ?_
  simp [Tree.sat, fitP, valEq]


def S_least : Sx.Spec := S_sMin


theorem least_ok : SoundSpec Try.prog 71 S_least := by
  refine ⟨⟨_, Try.func71, by kernel_rfl, by kernel_rfl⟩, ?_⟩
  intro avs ns res h hn
  unfold S_least S_sMin at h
  split at h
  · rename_i f
    split at h
    · rename_i a b h0 h1
      cases h
      refine (least_at a b).same (.cons (.lst 1 2 _ _ ?_) .nil)
      intro k hk
      rcases (show k = 0 ∨ k = 1 by omega) with rfl | rfl
      · exact h0
      · exact h1
    · cases h
  · cases h

set_option maxRecDepth 100000 in
theorem greatest_at (a b : Int) : SoundAt Try.prog 69 [.lst 1 2 (fun k => [i (if k = 0 then a else b)])] (i (max a b)) := by
  refine soundAt_fin (G := [(95, S_sMax)]) (L := []) (SoundG.cons sMax_ok (SoundG.nil _)) mixed Try.func69 (show Try.f69.body = some (bodyOf Try.f69) by kernel_rfl) noLoops (t := (Tree.leaf (RV.x (Value.int IntKind.i64 (max (if 0 = 0 then a else b) (if 1 = 0 then a else b)))))) (by kernel_rfl) ?_
  simp [Tree.sat, fitP, valEq]


def S_greatest : Sx.Spec := S_sMax


theorem greatest_ok : SoundSpec Try.prog 69 S_greatest := by
  refine ⟨⟨_, Try.func69, by kernel_rfl, by kernel_rfl⟩, ?_⟩
  intro avs ns res h hn
  unfold S_greatest S_sMax at h
  split at h
  · rename_i f
    split at h
    · rename_i a b h0 h1
      cases h
      refine (greatest_at a b).same (.cons (.lst 1 2 _ _ ?_) .nil)
      intro k hk
      rcases (show k = 0 ∨ k = 1 by omega) with rfl | rfl
      · exact h0
      · exact h1
    · cases h
  · cases h

end Go.Proofs.Ytmdeoobmeokmeaa
/- Contracts of functions of the program, by the engine Sx: what each call comes to. Printed by a program of this repo (sxgen.py). -/
set_option linter.unusedSimpArgs false
set_option linter.unusedVariables false
namespace Go.Proofs.Ytmdeoobmeokmeaa
open Go Go.Sx Go.RowKit
noncomputable def H_bound : HSpec := inlH Try.prog [(71, S_least)] { R := [], H := [] } [] Try.f94 (bodyOf Try.f94)
theorem bound_okH : SoundHSpec Try.prog 94 H_bound :=
  inl_sound (G := [(71, S_least)]) (X := { R := [], H := [] }) (L := []) (SoundG.cons least_ok (SoundG.nil _)) (SoundX.of (SoundRL.nil _) (SoundHL.nil _)) mixed ⟨_, Try.func94, by kernel_rfl, by kernel_rfl⟩ Try.func94 (show Try.f94.body = some (bodyOf Try.f94) by kernel_rfl) noLoops


/-- The cells of a site: the tube, and the matrix. -/
def siteF (c T lo hi : Int) (M : Nat → Nat → Int) (k : Nat) : Int := if k = 0 then c else if k = 1 then T else if k = 2 then lo else if k = 3 then hi else M ((k - 4) / 11) ((k - 4) % 11)
def set2 (M : Nat → Nat → Int) (a b : Nat) (v : Int) : Nat → Nat → Int := fun x y => if x = a ∧ y = b then v else M x y
def bnd (M : Nat → Nat → Int) (a b : Nat) (v : Int) : Nat → Nat → Int := set2 M a b (min (M a b) v)
/-- Nothing is known. -/
def ini (c : Nat) (k j : Nat) : Nat → Nat → Int := fun x y => if ((x < k ∧ y ≤ c) ∨ (x = k ∧ y < j)) ∧ x ≠ y then 2000 else 0


theorem site_ini (c T lo hi : Int) (cc : Nat) : ∀ k, nthJ (c :: T :: lo :: hi :: List.replicate 121 0) k = siteF c T lo hi (ini cc 0 0) k := by
  intro k
  rcases k with _ | _ | _ | _ | k
  · rfl
  · rfl
  · rfl
  · rfl
  · have h : nthJ (c :: T :: lo :: hi :: List.replicate 121 0) (k + 4) = nthJ (List.replicate 121 0) k := rfl
    rw [h, allZ_nth (by decide)]
    simp [siteF, ini]
theorem updL_one (q : Nat) (v : Int) (f : Nat → Int) : updL q [v] f = updI q v f := rfl
theorem site_get (c T lo hi : Int) (M : Nat → Nat → Int) {a b q : Nat} (hq : q = 4 + a * 11 + b) (hb : b < 11) : siteF c T lo hi M q = M a b := by
  unfold siteF
  rw [if_neg (by omega), if_neg (by omega), if_neg (by omega), if_neg (by omega), show (q - 4) / 11 = a by omega, show (q - 4) % 11 = b by omega]
theorem site_congr (c T lo hi : Int) {M M' : Nat → Nat → Int} (h : ∀ x y, x < 11 → y < 11 → M x y = M' x y) {k : Nat} (hk : k < 125) : siteF c T lo hi M k = siteF c T lo hi M' k := by
  unfold siteF
  split
  · rfl
  split
  · rfl
  split
  · rfl
  split
  · rfl
  exact h _ _ (by omega) (by omega)
theorem site_set (c T lo hi : Int) (M : Nat → Nat → Int) {a b q : Nat} (hq : q = 4 + a * 11 + b) (hb : b < 11) (v : Int) (k : Nat) : updI q v (siteF c T lo hi M) k = siteF c T lo hi (set2 M a b v) k := by
  unfold updI
  by_cases hk : k = q
  · rw [if_pos hk, site_get _ _ _ _ _ (hk.trans hq) hb]
    simp [set2]
  · rw [if_neg hk]
    unfold siteF
    by_cases h0 : k = 0
    · rw [if_pos h0, if_pos h0]
    by_cases h1 : k = 1
    · rw [if_neg h0, if_neg h0, if_pos h1, if_pos h1]
    by_cases h2 : k = 2
    · rw [if_neg h0, if_neg h0, if_neg h1, if_neg h1, if_pos h2, if_pos h2]
    by_cases h3 : k = 3
    · rw [if_neg h0, if_neg h0, if_neg h1, if_neg h1, if_neg h2, if_neg h2, if_pos h3, if_pos h3]
    rw [if_neg h0, if_neg h0, if_neg h1, if_neg h1, if_neg h2, if_neg h2, if_neg h3, if_neg h3]
    unfold set2
    rw [if_neg (by omega)]
theorem ini_step (c k j : Nat) (hj : j ≤ c) (h : k ≠ j) (x y : Nat) : set2 (ini c k j) k j 2000 x y = ini c k (j + 1) x y := by
  unfold set2 ini
  split
  · rename_i hxy
    rw [if_pos ⟨.inr (by omega), by omega⟩]
  · rename_i hxy
    by_cases h1 : ((x < k ∧ y ≤ c) ∨ (x = k ∧ y < j)) ∧ x ≠ y
    · rw [if_pos h1, if_pos (by omega)]
    · rw [if_neg h1, if_neg (by omega)]
theorem ini_same (c k : Nat) (x y : Nat) : ini c k k x y = ini c k (k + 1) x y := by
  unfold ini
  by_cases h1 : ((x < k ∧ y ≤ c) ∨ (x = k ∧ y < k)) ∧ x ≠ y
  · rw [if_pos h1, if_pos (by omega)]
  · rw [if_neg h1, if_neg (by omega)]
theorem ini_row (c k : Nat) (x y : Nat) : ini c k (c + 1) x y = ini c (k + 1) 0 x y := by
  unfold ini
  by_cases h1 : ((x < k ∧ y ≤ c) ∨ (x = k ∧ y < c + 1)) ∧ x ≠ y
  · rw [if_pos h1, if_pos (by omega)]
  · rw [if_neg h1, if_neg (by omega)]

abbrev rds (n : Nat) (a b u v : Nat → Int) : AV := .lst 4 n (fun k => [i (a k), i (b k), i (u k), i (v k)])
noncomputable def E_ra (c : Nat) (T lo hi : Int) (n : Nat) (a b u v : Nat → Int) : St := (some
  {
    σ :=
      [AV.agg
          [AV.x (Value.int IntKind.i64 (↑c : Int)), AV.x (Value.int IntKind.i64 T), AV.x (Value.int IntKind.i64 lo),
            AV.x (Value.int IntKind.i64 hi)],
        AV.lst (4 : Nat) n fun k =>
          [AV.x (Value.int IntKind.i64 (a k)), AV.x (Value.int IntKind.i64 (b k)), AV.x (Value.int IntKind.i64 (u k)),
            AV.x (Value.int IntKind.i64 (v k))],
        AV.ptr (0 : Nat) (0 : Nat), AV.top, AV.x (Value.pointer none), AV.lit false, AV.ptr (5 : Nat) (0 : Nat), AV.top,
        AV.top, AV.top, AV.top, AV.top, AV.top, AV.top, AV.top, AV.top, AV.top, AV.top, AV.top, AV.top, AV.top, AV.top,
        AV.x (Value.int IntKind.i64 ((↑c : Int) + (1 : Int))), AV.top, AV.top, AV.top, AV.top, AV.top, AV.top, AV.top,
        AV.top, AV.top, AV.top, AV.top, AV.top, AV.top, AV.top, AV.top, AV.top, AV.top, AV.top, AV.top, AV.top, AV.top,
        AV.top, AV.top, AV.top, AV.top, AV.top, AV.top, AV.top, AV.top, AV.top, AV.top, AV.top, AV.top, AV.top, AV.top,
        AV.top, AV.top, AV.top, AV.top, AV.top, AV.top, AV.top, AV.top, AV.top, AV.top, AV.top, AV.top, AV.top, AV.top,
        AV.top, AV.top, AV.top, AV.top, AV.top, AV.top, AV.top, AV.top, AV.top, AV.top, AV.top, AV.top, AV.top, AV.top,
        AV.top, AV.top, AV.top, AV.top, AV.top, AV.top, AV.top, AV.top, AV.top, AV.top, AV.top, AV.top, AV.top, AV.top,
        AV.top, AV.top, AV.top, AV.top, AV.top, AV.top, AV.top, AV.top, AV.top, AV.top, AV.top, AV.top, AV.top, AV.top,
        AV.top, AV.top, AV.top, AV.top, AV.top, AV.top, AV.top, AV.top, AV.top, AV.top, AV.top, AV.top, AV.top, AV.top,
        AV.top, AV.top, AV.top, AV.top, AV.top, AV.top, AV.top, AV.top, AV.top, AV.top, AV.top, AV.top, AV.top, AV.top,
        AV.top, AV.top, AV.top, AV.top, AV.top, AV.top, AV.top, AV.top, AV.top, AV.top, AV.top, AV.top, AV.top, AV.top,
        AV.top, AV.top, AV.top, AV.top, AV.top, AV.top, AV.top, AV.top, AV.top, AV.top, AV.top, AV.top, AV.top, AV.top,
        AV.top, AV.top, AV.top, AV.top, AV.top, AV.top, AV.top, AV.top],
    m :=
      [((5 : Nat),
          Res.ints (133 : Nat) [] (125 : Nat) fun a =>
            nthJ
              [(↑c : Int), T, lo, hi, (0 : Int), (0 : Int), (0 : Int), (0 : Int), (0 : Int), (0 : Int), (0 : Int),
                (0 : Int), (0 : Int), (0 : Int), (0 : Int), (0 : Int), (0 : Int), (0 : Int), (0 : Int), (0 : Int),
                (0 : Int), (0 : Int), (0 : Int), (0 : Int), (0 : Int), (0 : Int), (0 : Int), (0 : Int), (0 : Int),
                (0 : Int), (0 : Int), (0 : Int), (0 : Int), (0 : Int), (0 : Int), (0 : Int), (0 : Int), (0 : Int),
                (0 : Int), (0 : Int), (0 : Int), (0 : Int), (0 : Int), (0 : Int), (0 : Int), (0 : Int), (0 : Int),
                (0 : Int), (0 : Int), (0 : Int), (0 : Int), (0 : Int), (0 : Int), (0 : Int), (0 : Int), (0 : Int),
                (0 : Int), (0 : Int), (0 : Int), (0 : Int), (0 : Int), (0 : Int), (0 : Int), (0 : Int), (0 : Int),
                (0 : Int), (0 : Int), (0 : Int), (0 : Int), (0 : Int), (0 : Int), (0 : Int), (0 : Int), (0 : Int),
                (0 : Int), (0 : Int), (0 : Int), (0 : Int), (0 : Int), (0 : Int), (0 : Int), (0 : Int), (0 : Int),
                (0 : Int), (0 : Int), (0 : Int), (0 : Int), (0 : Int), (0 : Int), (0 : Int), (0 : Int), (0 : Int),
                (0 : Int), (0 : Int), (0 : Int), (0 : Int), (0 : Int), (0 : Int), (0 : Int), (0 : Int), (0 : Int),
                (0 : Int), (0 : Int), (0 : Int), (0 : Int), (0 : Int), (0 : Int), (0 : Int), (0 : Int), (0 : Int),
                (0 : Int), (0 : Int), (0 : Int), (0 : Int), (0 : Int), (0 : Int), (0 : Int), (0 : Int), (0 : Int),
                (0 : Int), (0 : Int), (0 : Int), (0 : Int), (0 : Int), (0 : Int)]
              a),
        ((0 : Nat),
          Res.cells (34 : Nat)
            [AV.x (Value.int IntKind.i64 (↑c : Int)), AV.x (Value.int IntKind.i64 T), AV.x (Value.int IntKind.i64 lo),
              AV.x (Value.int IntKind.i64 hi)])],
    nx := (11 : Nat) } : Option St).getD { σ := [], m := [], nx := 0 }
noncomputable def B_ra : Code := loopBody (loopAt (bodyOf Try.f67) 0)
noncomputable def inv_ra (c : Nat) (T lo hi : Int) (n : Nat) (a b u v : Nat → Int) (k : Nat) : St := { σ := ovrS [(23, i k)] (E_ra c T lo hi n a b u v).σ, m := [(5, .ints 133 [] 125 (siteF c T lo hi (ini c k 0))), (0, .cells 34 [i c, i T, i lo, i hi])], nx := (E_ra c T lo hi n a b u v).nx }
noncomputable def out_ra (c : Nat) (T lo hi : Int) (n : Nat) (a b u v : Nat → Int) (k : Nat) : AEx → Option St := fun ex => match ex with
  | .exit 0 => some { σ := ovrS [(23, i ((c : Int) + 1))] (E_ra c T lo hi n a b u v).σ, m := [(5, .ints 133 [] 125 (siteF c T lo hi (ini c (c + 1) 0))), (0, .cells 34 [i c, i T, i lo, i hi])], nx := (E_ra c T lo hi n a b u v).nx }
  | _ => none
noncomputable def T_ra (c : Nat) (T lo hi : Int) (n : Nat) (a b u v : Nat → Int) : CT := .leaf (.exit 0, ( out_ra c T lo hi n a b u v 0 (.exit 0)).getD (E_ra c T lo hi n a b u v))
noncomputable def LS_ra (c : Nat) (T lo hi : Int) (n : Nat) (a b u v : Nat → Int) : LSpec := normSp [] (sumL (inv_ra c T lo hi n a b u v (0)) (T_ra c T lo hi n a b u v))
noncomputable def E_rb (c : Nat) (T lo hi : Int) (n : Nat) (a b u v : Nat → Int) (k : Nat) : St := (some
  {
    σ :=
      [AV.agg
          [AV.x (Value.int IntKind.i64 (↑c : Int)), AV.x (Value.int IntKind.i64 T), AV.x (Value.int IntKind.i64 lo),
            AV.x (Value.int IntKind.i64 hi)],
        AV.lst (4 : Nat) n fun k =>
          [AV.x (Value.int IntKind.i64 (a k)), AV.x (Value.int IntKind.i64 (b k)), AV.x (Value.int IntKind.i64 (u k)),
            AV.x (Value.int IntKind.i64 (v k))],
        AV.ptr (0 : Nat) (0 : Nat), AV.top, AV.x (Value.pointer none), AV.lit false, AV.ptr (5 : Nat) (0 : Nat),
        AV.x (Value.int IntKind.i64 (↑k : Int)), AV.top, AV.top, AV.top, AV.top, AV.top, AV.top, AV.top, AV.top, AV.top,
        AV.top, AV.top, AV.top, AV.top, AV.top, AV.x (Value.int IntKind.i64 ((↑c : Int) + (1 : Int))),
        AV.x (Value.int IntKind.i64 (↑k : Int)), AV.top, AV.top, AV.top, AV.top,
        AV.x (Value.int IntKind.i64 ((↑c : Int) + (1 : Int))), AV.top, AV.top, AV.top, AV.top, AV.top, AV.top, AV.top,
        AV.top, AV.top, AV.top, AV.top, AV.top, AV.top, AV.top, AV.top, AV.top, AV.top, AV.top, AV.top, AV.top, AV.top,
        AV.top, AV.top, AV.top, AV.top, AV.top, AV.top, AV.top, AV.top, AV.top, AV.top, AV.top, AV.top, AV.top, AV.top,
        AV.top, AV.top, AV.top, AV.top, AV.top, AV.top, AV.top, AV.top, AV.top, AV.top, AV.top, AV.top, AV.top, AV.top,
        AV.top, AV.top, AV.top, AV.top, AV.top, AV.top, AV.top, AV.top, AV.top, AV.top, AV.top, AV.top, AV.top, AV.top,
        AV.top, AV.top, AV.top, AV.top, AV.top, AV.top, AV.top, AV.top, AV.top, AV.top, AV.top, AV.top, AV.top, AV.top,
        AV.top, AV.top, AV.top, AV.top, AV.top, AV.top, AV.top, AV.top, AV.top, AV.top, AV.top, AV.top, AV.top, AV.top,
        AV.top, AV.top, AV.top, AV.top, AV.top, AV.top, AV.top, AV.top, AV.top, AV.top, AV.top, AV.top, AV.top, AV.top,
        AV.top, AV.top, AV.top, AV.top, AV.top, AV.top, AV.top, AV.top, AV.top, AV.top, AV.top, AV.top, AV.top, AV.top,
        AV.top, AV.top, AV.top, AV.top, AV.top, AV.top, AV.top, AV.top, AV.top, AV.top, AV.top, AV.top, AV.top, AV.top,
        AV.top, AV.top, AV.top, AV.top, AV.top, AV.top, AV.top, AV.top, AV.top, AV.top, AV.top, AV.top, AV.top, AV.top,
        AV.top, AV.top],
    m :=
      [((5 : Nat), Res.ints (133 : Nat) [] (125 : Nat) fun k_1 => siteF (↑c : Int) T lo hi (ini c k (0 : Nat)) k_1),
        ((0 : Nat),
          Res.cells (34 : Nat)
            [AV.x (Value.int IntKind.i64 (↑c : Int)), AV.x (Value.int IntKind.i64 T), AV.x (Value.int IntKind.i64 lo),
              AV.x (Value.int IntKind.i64 hi)])],
    nx := (18 : Nat) } : Option St).getD { σ := [], m := [], nx := 0 }
noncomputable def B_rb : Code := (loopBody (loopAt (loopBody (loopAt (bodyOf Try.f67) 0)) 0))
noncomputable def inv_rb (c : Nat) (T lo hi : Int) (n : Nat) (a b u v : Nat → Int) (k : Nat) (j : Nat) : St := { σ := ovrS [(29, i j)] (E_rb c T lo hi n a b u v k).σ, m := [(5, .ints 133 [] 125 (siteF c T lo hi (ini c k j))), (0, .cells 34 [i c, i T, i lo, i hi])], nx := (E_rb c T lo hi n a b u v k).nx }
noncomputable def out_rb (c : Nat) (T lo hi : Int) (n : Nat) (a b u v : Nat → Int) (k : Nat) (j : Nat) : AEx → Option St := fun ex => match ex with
  | .exit 2 => some { σ := ovrS [(29, i ((c : Int) + 1))] (E_rb c T lo hi n a b u v k).σ, m := [(5, .ints 133 [] 125 (siteF c T lo hi (ini c k (c + 1)))), (0, .cells 34 [i c, i T, i lo, i hi])], nx := (E_rb c T lo hi n a b u v k).nx }
  | _ => none
noncomputable def T_rb (c : Nat) (T lo hi : Int) (n : Nat) (a b u v : Nat → Int) (k : Nat) : CT := .leaf (.exit 2, ( out_rb c T lo hi n a b u v k 0 (.exit 2)).getD (E_rb c T lo hi n a b u v k))
noncomputable def LS_rb (c : Nat) (T lo hi : Int) (n : Nat) (a b u v : Nat → Int) (k : Nat) : LSpec := normSp [] (sumL (inv_rb c T lo hi n a b u v k (0)) (T_rb c T lo hi n a b u v k))
set_option maxRecDepth 100000 in
theorem rb_ls (c : Nat) (T lo hi : Int) (n : Nat) (a b u v : Nat → Int) (k : Nat) (pre0 : 1 ≤ c ∧ c ≤ 10) (pre1 : 1 ≤ lo ∧ lo ≤ hi ∧ hi ≤ 200 ∧ 1 ≤ T ∧ T ≤ 2000) (pre2 : k ≤ c) : LSound Try.prog (.loop B_rb) (LS_rb c T lo hi n a b u v k) := by
  refine loop_roundsX [] (E := { R := [], H := [(94, H_bound)] }) (G := [(71, S_least)]) (L := []) (SoundG.cons least_ok (SoundG.nil _)) (SoundX.of (SoundRL.nil _) (SoundHL.cons bound_okH (SoundHL.nil _))) mixed noLoops (X := Nat) (inv_rb c T lo hi n a b u v k) (fun j => j ≤ c + 1) (fun j => c + 1 - j) (out_rb c T lo hi n a b u v k) (x0 := 0) (by simp) ?_ ?_ ?_
  · rintro j
    kernel_rfl
  · rintro j y E h
    unfold out_rb at h
    split at h
    · cases h; kernel_rfl
    · cases h
  · rintro Q hQ j hx
    refine ⟨(j + 1), ?_⟩
    have e : roundX Try.prog [(71, S_least)] { R := [], H := [(94, H_bound)] } [] [] B_rb (inv_rb c T lo hi n a b u v k j) (inv_rb c T lo hi n a b u v k ((j + 1))) (out_rb c T lo hi n a b u v k j) = (Tree.branch (decide ((↑j : Int) < (↑c : Int) + (1 : Int))) (Tree.branch ((↑k : Int) != (↑j : Int)) (Tree.need [(0 : Int) ≤ (↑k : Int) ∧ (↑k : Int) < (↑(11 : Nat) : Int)] (Tree.need [(0 : Int) ≤ (↑j : Int) ∧ (↑j : Int) < (↑(11 : Nat) : Int)] (Tree.need [j * 1 + (k * 11 + 4) + 1 ≤ 125] (Tree.need [inI64 ((↑j : Int) + (1 : Int))] (Tree.need [AV.agg [iI (↑c : Int), iI T, iI lo, iI hi] = AV.agg [iI (↑c : Int), iI T, iI lo, iI hi], (AV.lst 4 n fun k => [iI (a k), iI (b k), iI (u k), iI (v k)]) = AV.lst 4 n fun k => [iI (a k), iI (b k), iI (u k), iI (v k)], AV.ptr 0 0 = AV.ptr 0 0, AV.x (Value.pointer none) = AV.x (Value.pointer none), AV.lit false = AV.lit false, AV.ptr 5 0 = AV.ptr 5 0, (↑k : Int) = (↑k : Int), (↑c : Int) + (1 : Int) = (↑c : Int) + (1 : Int), (↑k : Int) = (↑k : Int), (↑c : Int) + (1 : Int) = (↑c : Int) + (1 : Int), (↑j : Int) + (1 : Int) = (↑(j + 1) : Int), 125 = 125, ∀ (k_1 : Nat), k_1 < 125 → updI (j * 1 + (k * 11 + 4)) (2000 : Int) (siteF (↑c : Int) T lo hi (ini c k j)) k_1 = siteF (↑c : Int) T lo hi (ini c k (j + 1)) k_1, (↑c : Int) = (↑c : Int), T = T, lo = lo, hi = hi] (Tree.leaf AEx.normal)))))) (Tree.need [inI64 ((↑j : Int) + (1 : Int))] (Tree.need [AV.agg [iI (↑c : Int), iI T, iI lo, iI hi] = AV.agg [iI (↑c : Int), iI T, iI lo, iI hi], (AV.lst 4 n fun k => [iI (a k), iI (b k), iI (u k), iI (v k)]) = AV.lst 4 n fun k => [iI (a k), iI (b k), iI (u k), iI (v k)], AV.ptr 0 0 = AV.ptr 0 0, AV.x (Value.pointer none) = AV.x (Value.pointer none), AV.lit false = AV.lit false, AV.ptr 5 0 = AV.ptr 5 0, (↑k : Int) = (↑k : Int), (↑c : Int) + (1 : Int) = (↑c : Int) + (1 : Int), (↑k : Int) = (↑k : Int), (↑c : Int) + (1 : Int) = (↑c : Int) + (1 : Int), (↑j : Int) + (1 : Int) = (↑(j + 1) : Int), 125 = 125, ∀ (k_1 : Nat), k_1 < 125 → siteF (↑c : Int) T lo hi (ini c k j) k_1 = siteF (↑c : Int) T lo hi (ini c k (j + 1)) k_1, (↑c : Int) = (↑c : Int), T = T, lo = lo, hi = hi] (Tree.leaf AEx.normal)))) (Tree.need [AV.agg [iI (↑c : Int), iI T, iI lo, iI hi] = AV.agg [iI (↑c : Int), iI T, iI lo, iI hi], (AV.lst 4 n fun k => [iI (a k), iI (b k), iI (u k), iI (v k)]) = AV.lst 4 n fun k => [iI (a k), iI (b k), iI (u k), iI (v k)], AV.ptr 0 0 = AV.ptr 0 0, AV.x (Value.pointer none) = AV.x (Value.pointer none), AV.lit false = AV.lit false, AV.ptr 5 0 = AV.ptr 5 0, (↑k : Int) = (↑k : Int), (↑c : Int) + (1 : Int) = (↑c : Int) + (1 : Int), (↑k : Int) = (↑k : Int), (↑c : Int) + (1 : Int) = (↑c : Int) + (1 : Int), (↑j : Int) = (↑c : Int) + (1 : Int), 125 = 125, ∀ (k_1 : Nat), k_1 < 125 → siteF (↑c : Int) T lo hi (ini c k j) k_1 = siteF (↑c : Int) T lo hi (ini c k (c + 1)) k_1, (↑c : Int) = (↑c : Int), T = T, lo = lo, hi = hi] (Tree.leaf (AEx.exit 2)))) := by kernel_rfl
    rw [e]
    simp only [T_rb, out_rb, Tree.sat, Option.getD_some] at hQ
    simp only [Tree.sat, allP, fitP, fitL, valEq, inI64, true_and, and_true, decide_eq_true_eq, decide_eq_false_iff_not, Int.natCast_zero, Int.toNat_natCast, bne_iff_ne, ne_eq, bne_eq_false_iff_eq, List.length_cons, List.length_nil, updL_one, out_rb]
    clear e
    
    refine ⟨fun h => ⟨fun hne => ?_, fun heq => ?_⟩, fun h => ?_⟩
    · (repeat' first | with_reducible apply And.intro | with_reducible intro _)
      all_goals first | exact True.intro | omega | with_reducible rfl | (rename_i E hE; cases hE; exact hQ) | rfl | (exact (site_set c T lo hi _ (by omega) (by omega) _ _).trans (site_congr c T lo hi (fun x y _ _ => ini_step c k j (by omega) (by omega) x y) (by assumption)))
    · obtain rfl : k = j := by omega
      (repeat' first | with_reducible apply And.intro | with_reducible intro _)
      all_goals first | exact True.intro | omega | with_reducible rfl | (rename_i E hE; cases hE; exact hQ) | rfl | (exact site_congr c T lo hi (fun x y _ _ => ini_same c k x y) (by assumption))
    · obtain rfl : j = c + 1 := by omega
      (repeat' first | with_reducible apply And.intro | with_reducible intro _)
      all_goals first | exact True.intro | omega | with_reducible rfl | (rename_i E hE; cases hE; exact hQ) | rfl

set_option maxRecDepth 100000 in
theorem ra_ls (c : Nat) (T lo hi : Int) (n : Nat) (a b u v : Nat → Int) (pre0 : 1 ≤ c ∧ c ≤ 10) (pre1 : 1 ≤ lo ∧ lo ≤ hi ∧ hi ≤ 200 ∧ 1 ≤ T ∧ T ≤ 2000) : LSound Try.prog (.loop B_ra) (LS_ra c T lo hi n a b u v) := by
  refine loop_roundsX [] (E := { R := [], H := [(94, H_bound)] }) (G := [(71, S_least)]) (L := [depSp 7 (fun k => needSp [k ≤ c] (LS_rb c T lo hi n a b u v k))]) (SoundG.cons least_ok (SoundG.nil _)) (SoundX.of (SoundRL.nil _) (SoundHL.cons bound_okH (SoundHL.nil _))) mixed (one_loop (fun cj hcj => by
    have e : loopAt B_ra 0 = some (.loop B_rb) := by kernel_rfl
    rw [e] at hcj; cases hcj
    exact depSp_sound (fun k => needSp_sound (fun h => rb_ls c T lo hi n a b u v k pre0 pre1 h)))) (X := Nat) (inv_ra c T lo hi n a b u v) (fun k => k ≤ c + 1) (fun k => c + 1 - k) (out_ra c T lo hi n a b u v) (x0 := 0) (by simp) ?_ ?_ ?_
  · rintro k
    kernel_rfl
  · rintro k y E h
    unfold out_ra at h
    split at h
    · cases h; kernel_rfl
    · cases h
  · rintro Q hQ k hx
    refine ⟨(k + 1), ?_⟩
    have e : roundX Try.prog [(71, S_least)] { R := [], H := [(94, H_bound)] } [depSp 7 (fun k => needSp [k ≤ c] (LS_rb c T lo hi n a b u v k))] [] B_ra (inv_ra c T lo hi n a b u v k) (inv_ra c T lo hi n a b u v ((k + 1))) (out_ra c T lo hi n a b u v k) = (Tree.branch (decide ((↑k : Int) < (↑c : Int) + (1 : Int))) (Tree.need [inI64 ((↑c : Int) + (1 : Int))] (Tree.need [k ≤ c] (Tree.need [AV.agg [iI (↑c : Int), iI T, iI lo, iI hi] = AV.agg [iI (↑c : Int), iI T, iI lo, iI hi], (AV.lst 4 n fun k => [iI (a k), iI (b k), iI (u k), iI (v k)]) = AV.lst 4 n fun k => [iI (a k), iI (b k), iI (u k), iI (v k)], AV.ptr 0 0 = AV.ptr 0 0, AV.x (Value.pointer none) = AV.x (Value.pointer none), AV.lit false = AV.lit false, AV.ptr 5 0 = AV.ptr 5 0, (↑k : Int) = (↑k : Int), (↑c : Int) + (1 : Int) = (↑c : Int) + (1 : Int), (↑k : Int) = (↑k : Int), (↑c : Int) + (1 : Int) = (↑c : Int) + (1 : Int), (0 : Int) = (↑(0 : Nat) : Int), 125 = 125, ∀ (k_1 : Nat), k_1 < 125 → siteF (↑c : Int) T lo hi (ini c k 0) k_1 = siteF (↑c : Int) T lo hi (ini c k 0) k_1, (↑c : Int) = (↑c : Int), T = T, lo = lo, hi = hi] (Tree.need [inI64 ((↑k : Int) + (1 : Int))] (Tree.need [AV.agg [iI (↑c : Int), iI T, iI lo, iI hi] = AV.agg [iI (↑c : Int), iI T, iI lo, iI hi], (AV.lst 4 n fun k => [iI (a k), iI (b k), iI (u k), iI (v k)]) = AV.lst 4 n fun k => [iI (a k), iI (b k), iI (u k), iI (v k)], AV.ptr 0 0 = AV.ptr 0 0, AV.x (Value.pointer none) = AV.x (Value.pointer none), AV.lit false = AV.lit false, AV.ptr 5 0 = AV.ptr 5 0, (↑c : Int) + (1 : Int) = (↑c : Int) + (1 : Int), (↑k : Int) + (1 : Int) = (↑(k + 1) : Int), 125 = 125, ∀ (k_1 : Nat), k_1 < 125 → siteF (↑c : Int) T lo hi (ini c k (c + 1)) k_1 = siteF (↑c : Int) T lo hi (ini c (k + 1) 0) k_1, (↑c : Int) = (↑c : Int), T = T, lo = lo, hi = hi] (Tree.leaf AEx.normal)))))) (Tree.need [AV.agg [iI (↑c : Int), iI T, iI lo, iI hi] = AV.agg [iI (↑c : Int), iI T, iI lo, iI hi], (AV.lst 4 n fun k => [iI (a k), iI (b k), iI (u k), iI (v k)]) = AV.lst 4 n fun k => [iI (a k), iI (b k), iI (u k), iI (v k)], AV.ptr 0 0 = AV.ptr 0 0, AV.x (Value.pointer none) = AV.x (Value.pointer none), AV.lit false = AV.lit false, AV.ptr 5 0 = AV.ptr 5 0, (↑c : Int) + (1 : Int) = (↑c : Int) + (1 : Int), (↑k : Int) = (↑c : Int) + (1 : Int), 125 = 125, ∀ (k_1 : Nat), k_1 < 125 → siteF (↑c : Int) T lo hi (ini c k 0) k_1 = siteF (↑c : Int) T lo hi (ini c (c + 1) 0) k_1, (↑c : Int) = (↑c : Int), T = T, lo = lo, hi = hi] (Tree.leaf (AEx.exit 0)))) := by kernel_rfl
    rw [e]
    simp only [T_ra, out_ra, Tree.sat, Option.getD_some] at hQ
    simp only [Tree.sat, allP, fitP, fitL, valEq, inI64, true_and, and_true, decide_eq_true_eq, decide_eq_false_iff_not, Int.natCast_zero, Int.toNat_natCast, bne_iff_ne, ne_eq, bne_eq_false_iff_eq, List.length_cons, List.length_nil, updL_one, out_ra]
    clear e
    
    refine ⟨fun h => ?_, fun h => ?_⟩
    · (repeat' first | with_reducible apply And.intro | with_reducible intro _)
      all_goals first | exact True.intro | omega | with_reducible rfl | (rename_i E hE; cases hE; exact hQ) | rfl | (exact site_congr c T lo hi (fun x y _ _ => ini_row c k x y) (by assumption))
    · obtain rfl : k = c + 1 := by omega
      (repeat' first | with_reducible apply And.intro | with_reducible intro _)
      all_goals first | exact True.intro | omega | with_reducible rfl | (rename_i E hE; cases hE; exact hQ) | rfl

end Go.Proofs.Ytmdeoobmeokmeaa
/- Contracts of functions of the program, by the engine Sx: what each call comes to. Printed by a program of this repo (sxgen.py). -/
set_option linter.unusedSimpArgs false
set_option linter.unusedVariables false
namespace Go.Proofs.Ytmdeoobmeokmeaa
open Go Go.Sx Go.RowKit

/-- Each cell has its bounds. -/
def cel (c : Nat) (lo hi : Int) : Nat → Nat → Nat → Int
  | 0 => ini c (c + 1) 0
  | k + 1 => bnd (bnd (cel c lo hi k) k (k + 1) hi) (k + 1) k (-lo)


theorem bnd_set {c T lo hi : Int} {M : Nat → Nat → Int} {a b q : Nat} {v : Int} (hq : q = 4 + a * 11 + b) (hb : b < 11) : updI q (min (siteF c T lo hi M q) v) (siteF c T lo hi M) = siteF c T lo hi (bnd M a b v) := by
  funext k
  rw [site_set c T lo hi M hq hb, site_get c T lo hi M hq hb]
  rfl

noncomputable def E_rc (c : Nat) (T lo hi : Int) (n : Nat) (a b u v : Nat → Int) : St := (some
  {
    σ :=
      [AV.agg
          [AV.x (Value.int IntKind.i64 (↑c : Int)), AV.x (Value.int IntKind.i64 T), AV.x (Value.int IntKind.i64 lo),
            AV.x (Value.int IntKind.i64 hi)],
        AV.lst (4 : Nat) n fun k =>
          [AV.x (Value.int IntKind.i64 (a k)), AV.x (Value.int IntKind.i64 (b k)), AV.x (Value.int IntKind.i64 (u k)),
            AV.x (Value.int IntKind.i64 (v k))],
        AV.ptr (0 : Nat) (0 : Nat), AV.top, AV.x (Value.pointer none), AV.lit false, AV.ptr (5 : Nat) (0 : Nat), AV.top,
        AV.top, AV.top, AV.top, AV.top, AV.top, AV.top, AV.top, AV.top, AV.top, AV.top, AV.top, AV.top, AV.top, AV.top,
        AV.x (Value.int IntKind.i64 ((↑c : Int) + (1 : Int))), AV.x (Value.int IntKind.i64 ((↑c : Int) + (1 : Int))),
        AV.top, AV.top, AV.top, AV.top, AV.top, AV.top, AV.top, AV.top, AV.top, AV.top, AV.top, AV.top, AV.top, AV.top,
        AV.top, AV.top, AV.top, AV.top, AV.top, AV.top, AV.top, AV.x (Value.int IntKind.i64 (↑c : Int)), AV.top, AV.top,
        AV.top, AV.top, AV.top, AV.top, AV.top, AV.top, AV.top, AV.top, AV.top, AV.top, AV.top, AV.top, AV.top, AV.top,
        AV.top, AV.top, AV.top, AV.top, AV.top, AV.top, AV.top, AV.top, AV.top, AV.top, AV.top, AV.top, AV.top, AV.top,
        AV.top, AV.top, AV.top, AV.top, AV.top, AV.top, AV.top, AV.top, AV.top, AV.top, AV.top, AV.top, AV.top, AV.top,
        AV.top, AV.top, AV.top, AV.top, AV.top, AV.top, AV.top, AV.top, AV.top, AV.top, AV.top, AV.top, AV.top, AV.top,
        AV.top, AV.top, AV.top, AV.top, AV.top, AV.top, AV.top, AV.top, AV.top, AV.top, AV.top, AV.top, AV.top, AV.top,
        AV.top, AV.top, AV.top, AV.top, AV.top, AV.top, AV.top, AV.top, AV.top, AV.top, AV.top, AV.top, AV.top, AV.top,
        AV.top, AV.top, AV.top, AV.top, AV.top, AV.top, AV.top, AV.top, AV.top, AV.top, AV.top, AV.top, AV.top, AV.top,
        AV.top, AV.top, AV.top, AV.top, AV.top, AV.top, AV.top, AV.top, AV.top, AV.top, AV.top, AV.top, AV.top, AV.top,
        AV.top, AV.top, AV.top, AV.top, AV.top, AV.top, AV.top, AV.top, AV.top, AV.top, AV.top, AV.top, AV.top, AV.top,
        AV.top, AV.top, AV.top, AV.top],
    m :=
      [((5 : Nat),
          Res.ints (133 : Nat) [] (125 : Nat) fun k => siteF (↑c : Int) T lo hi (ini c (c + (1 : Nat)) (0 : Nat)) k),
        ((0 : Nat),
          Res.cells (34 : Nat)
            [AV.x (Value.int IntKind.i64 (↑c : Int)), AV.x (Value.int IntKind.i64 T), AV.x (Value.int IntKind.i64 lo),
              AV.x (Value.int IntKind.i64 hi)])],
    nx := (14 : Nat) } : Option St).getD { σ := [], m := [], nx := 0 }
noncomputable def B_rc : Code := loopBody (loopAt (bodyOf Try.f67) 1)
noncomputable def inv_rc (c : Nat) (T lo hi : Int) (n : Nat) (a b u v : Nat → Int) (k : Nat) : St := { σ := ovrS [(46, i k)] (E_rc c T lo hi n a b u v).σ, m := [(5, .ints 133 [] 125 (siteF c T lo hi (cel c lo hi k))), (0, .cells 34 [i c, i T, i lo, i hi])], nx := (E_rc c T lo hi n a b u v).nx }
noncomputable def out_rc (c : Nat) (T lo hi : Int) (n : Nat) (a b u v : Nat → Int) (k : Nat) : AEx → Option St := fun ex => match ex with
  | .exit 4 => some { σ := ovrS [(46, i c)] (E_rc c T lo hi n a b u v).σ, m := [(5, .ints 133 [] 125 (siteF c T lo hi (cel c lo hi c))), (0, .cells 34 [i c, i T, i lo, i hi])], nx := (E_rc c T lo hi n a b u v).nx }
  | _ => none
noncomputable def T_rc (c : Nat) (T lo hi : Int) (n : Nat) (a b u v : Nat → Int) : CT := .leaf (.exit 4, ( out_rc c T lo hi n a b u v 0 (.exit 4)).getD (E_rc c T lo hi n a b u v))
noncomputable def LS_rc (c : Nat) (T lo hi : Int) (n : Nat) (a b u v : Nat → Int) : LSpec := normSp [] (sumL (inv_rc c T lo hi n a b u v (0)) (T_rc c T lo hi n a b u v))
set_option maxRecDepth 100000 in
theorem rc_ls (c : Nat) (T lo hi : Int) (n : Nat) (a b u v : Nat → Int) (pre0 : 1 ≤ c ∧ c ≤ 10) (pre1 : 1 ≤ lo ∧ lo ≤ hi ∧ hi ≤ 200 ∧ 1 ≤ T ∧ T ≤ 2000) : LSound Try.prog (.loop B_rc) (LS_rc c T lo hi n a b u v) := by
  refine loop_roundsX [] (E := { R := [], H := [(94, H_bound)] }) (G := [(71, S_least)]) (L := []) (SoundG.cons least_ok (SoundG.nil _)) (SoundX.of (SoundRL.nil _) (SoundHL.cons bound_okH (SoundHL.nil _))) mixed noLoops (X := Nat) (inv_rc c T lo hi n a b u v) (fun k => k ≤ c) (fun k => c - k) (out_rc c T lo hi n a b u v) (x0 := 0) (by simp) ?_ ?_ ?_
  · rintro k
    kernel_rfl
  · rintro k y E h
    unfold out_rc at h
    split at h
    · cases h; kernel_rfl
    · cases h
  · rintro Q hQ k hx
    refine ⟨(k + 1), ?_⟩
    have e : roundX Try.prog [(71, S_least)] { R := [], H := [(94, H_bound)] } [] [] B_rc (inv_rc c T lo hi n a b u v k) (inv_rc c T lo hi n a b u v ((k + 1))) (out_rc c T lo hi n a b u v k) = (Tree.branch (decide ((↑k : Int) < (↑c : Int))) (Tree.need [inI64 ((↑k : Int) + (1 : Int))] (Tree.need [(0 : Int) ≤ (↑k : Int) ∧ (↑k : Int) < (↑(11 : Nat) : Int)] (Tree.need [(0 : Int) ≤ (↑k : Int) + (1 : Int) ∧ (↑k : Int) + (1 : Int) < (↑(11 : Nat) : Int)] (Tree.need [Int.toNat ((↑k : Int) + (1 : Int)) * 1 + (k * 11 + 4) < 125] (Tree.need [(0 : Int) ≤ (↑k : Int) ∧ (↑k : Int) < (↑(11 : Nat) : Int)] (Tree.need [(0 : Int) ≤ (↑k : Int) + (1 : Int) ∧ (↑k : Int) + (1 : Int) < (↑(11 : Nat) : Int)] (Tree.need [Int.toNat ((↑k : Int) + (1 : Int)) * 1 + (k * 11 + 4) + List.length [min (siteF (↑c : Int) T lo hi (cel c lo hi k) (Int.toNat ((↑k : Int) + (1 : Int)) * 1 + (k * 11 + 4))) hi] ≤ 125] (Tree.need [inI64 ((↑k : Int) + (1 : Int))] (Tree.need [inI64 (-lo)] (Tree.need [(0 : Int) ≤ (↑k : Int) + (1 : Int) ∧ (↑k : Int) + (1 : Int) < (↑(11 : Nat) : Int)] (Tree.need [(0 : Int) ≤ (↑k : Int) ∧ (↑k : Int) < (↑(11 : Nat) : Int)] (Tree.need [k * 1 + (Int.toNat ((↑k : Int) + (1 : Int)) * 11 + 4) < 125] (Tree.need [(0 : Int) ≤ (↑k : Int) + (1 : Int) ∧ (↑k : Int) + (1 : Int) < (↑(11 : Nat) : Int)] (Tree.need [(0 : Int) ≤ (↑k : Int) ∧ (↑k : Int) < (↑(11 : Nat) : Int)] (Tree.need [k * 1 + (Int.toNat ((↑k : Int) + (1 : Int)) * 11 + 4) + List.length [min (updI (Int.toNat ((↑k : Int) + (1 : Int)) * 1 + (k * 11 + 4)) (min (siteF (↑c : Int) T lo hi (cel c lo hi k) (Int.toNat ((↑k : Int) + (1 : Int)) * 1 + (k * 11 + 4))) hi) (siteF (↑c : Int) T lo hi (cel c lo hi k)) (k * 1 + (Int.toNat ((↑k : Int) + (1 : Int)) * 11 + 4))) (-lo)] ≤ 125] (Tree.need [inI64 ((↑k : Int) + (1 : Int))] (Tree.need [AV.agg [iI (↑c : Int), iI T, iI lo, iI hi] = AV.agg [iI (↑c : Int), iI T, iI lo, iI hi], (AV.lst 4 n fun k => [iI (a k), iI (b k), iI (u k), iI (v k)]) = AV.lst 4 n fun k => [iI (a k), iI (b k), iI (u k), iI (v k)], AV.ptr 0 0 = AV.ptr 0 0, AV.x (Value.pointer none) = AV.x (Value.pointer none), AV.lit false = AV.lit false, AV.ptr 5 0 = AV.ptr 5 0, (↑c : Int) + (1 : Int) = (↑c : Int) + (1 : Int), (↑c : Int) + (1 : Int) = (↑c : Int) + (1 : Int), (↑c : Int) = (↑c : Int), (↑k : Int) + (1 : Int) = (↑(k + 1) : Int), 125 = 125, ∀ (k_1 : Nat), k_1 < 125 → updI (k * 1 + (Int.toNat ((↑k : Int) + (1 : Int)) * 11 + 4)) (min (updI (Int.toNat ((↑k : Int) + (1 : Int)) * 1 + (k * 11 + 4)) (min (siteF (↑c : Int) T lo hi (cel c lo hi k) (Int.toNat ((↑k : Int) + (1 : Int)) * 1 + (k * 11 + 4))) hi) (siteF (↑c : Int) T lo hi (cel c lo hi k)) (k * 1 + (Int.toNat ((↑k : Int) + (1 : Int)) * 11 + 4))) (-lo)) (updL (Int.toNat ((↑k : Int) + (1 : Int)) * 1 + (k * 11 + 4)) [min (siteF (↑c : Int) T lo hi (cel c lo hi k) (Int.toNat ((↑k : Int) + (1 : Int)) * 1 + (k * 11 + 4))) hi] (siteF (↑c : Int) T lo hi (cel c lo hi k))) k_1 = siteF (↑c : Int) T lo hi (cel c lo hi (k + 1)) k_1, (↑c : Int) = (↑c : Int), T = T, lo = lo, hi = hi] (Tree.leaf AEx.normal)))))))))))))))))) (Tree.need [AV.agg [iI (↑c : Int), iI T, iI lo, iI hi] = AV.agg [iI (↑c : Int), iI T, iI lo, iI hi], (AV.lst 4 n fun k => [iI (a k), iI (b k), iI (u k), iI (v k)]) = AV.lst 4 n fun k => [iI (a k), iI (b k), iI (u k), iI (v k)], AV.ptr 0 0 = AV.ptr 0 0, AV.x (Value.pointer none) = AV.x (Value.pointer none), AV.lit false = AV.lit false, AV.ptr 5 0 = AV.ptr 5 0, (↑c : Int) + (1 : Int) = (↑c : Int) + (1 : Int), (↑c : Int) + (1 : Int) = (↑c : Int) + (1 : Int), (↑c : Int) = (↑c : Int), (↑k : Int) = (↑c : Int), 125 = 125, ∀ (k_1 : Nat), k_1 < 125 → siteF (↑c : Int) T lo hi (cel c lo hi k) k_1 = siteF (↑c : Int) T lo hi (cel c lo hi c) k_1, (↑c : Int) = (↑c : Int), T = T, lo = lo, hi = hi] (Tree.leaf (AEx.exit 4)))) := by kernel_rfl
    rw [e]
    simp only [T_rc, out_rc, Tree.sat, Option.getD_some] at hQ
    simp only [Tree.sat, allP, fitP, fitL, valEq, inI64, true_and, and_true, decide_eq_true_eq, decide_eq_false_iff_not, Int.natCast_zero, Int.toNat_natCast, bne_iff_ne, ne_eq, bne_eq_false_iff_eq, List.length_cons, List.length_nil, updL_one, out_rc]
    clear e
    
    refine ⟨fun h => ?_, fun h => ?_⟩
    · have h1 : ∀ M v, updI (Int.toNat ((k : Int) + 1) * 1 + (k * 11 + 4)) (min (siteF c T lo hi M (Int.toNat ((k : Int) + 1) * 1 + (k * 11 + 4))) v) (siteF c T lo hi M) = siteF c T lo hi (bnd M k (k + 1) v) := fun M v => bnd_set (by omega) (by omega)
      have h2 : ∀ M v, updI (k * 1 + (Int.toNat ((k : Int) + 1) * 11 + 4)) (min (siteF c T lo hi M (k * 1 + (Int.toNat ((k : Int) + 1) * 11 + 4))) v) (siteF c T lo hi M) = siteF c T lo hi (bnd M (k + 1) k v) := fun M v => bnd_set (by omega) (by omega)
      simp only [h1, h2]
      (repeat' first | with_reducible apply And.intro | with_reducible intro _)
      all_goals first | exact True.intro | omega | with_reducible rfl | (rename_i E hE; cases hE; exact hQ) | rfl
    · obtain rfl : k = c := by omega
      (repeat' first | with_reducible apply And.intro | with_reducible intro _)
      all_goals first | exact True.intro | omega | with_reducible rfl | (rename_i E hE; cases hE; exact hQ) | rfl


/-- What a reading says. -/
def rdS (c : Nat) (M : Nat → Nat → Int) (a b u v : Int) : Nat → Nat → Int := if b < (c : Int) then bnd (bnd M a.toNat b.toNat v) (b + 1).toNat a.toNat (-u - 1) else bnd M a.toNat b.toNat v
def rdM (c : Nat) (T lo hi : Int) (a b u v : Nat → Int) : Nat → Nat → Nat → Int
  | 0 => bnd (bnd (cel c lo hi c) 0 c T) c 0 (-T)
  | j + 1 => rdS c (rdM c T lo hi a b u v j) (a j) (b j) (u j) (v j)
def rdV (a b u v : Int) : Value := .agg #[.int .i64 a, .int .i64 b, .int .i64 u, .int .i64 v]
/-- Which readings were seen. -/
def sn (a b u v : Nat → Int) (k : Nat) (x : Value) : Prop := ∃ j, j < k ∧ x = rdV (a j) (b j) (u j) (v j)


def isRd (x : Value) : Prop := ∃ a b u v, x = rdV a b u v
theorem rep_rd (a b u v : Int) (e : Env) (w : World) : Rep e w (.agg [i a, i b, i u, i v]) (rdV a b u v) :=
  Rep.aggL (RepL.cons (.x _) (RepL.cons (.x _) (RepL.cons (.x _) (RepL.one (.x _)))))
theorem mapKey_rd (a b u v : Int) : MapKey Try.prog 135 isRd (rdV a b u v) (.bool false) := by
  refine ⟨⟨93, 4, (match Try.prog.underlying 93 with | some (.struct fs) => fs | _ => #[]), by kernel_rfl, by kernel_rfl, ?_, ?_, ?_⟩, by simp [Instr.sameBits, rdV]⟩
  · intro b' w
    kernel_rfl
  · rintro k' ⟨a', b', u', v', rfl⟩ w
    refine ⟨a == a' && (b == b' && (u == u' && (v == v' && true) && true)), eqA_sound (P := Try.prog) (e := freshE w w) Op.maxDepth 93 (.agg [i a, i b, i u, i v]) (.agg [i a', i b', i u', i v']) _ _ _ (by kernel_rfl) (rep_rd ..) (rep_rd ..), fun h => ?_⟩
    simp only [Bool.and_true, Bool.and_eq_true, beq_iff_eq] at h
    obtain ⟨rfl, rfl, rfl, rfl⟩ := h
    rfl
  · intro w
    kernel_rfl
theorem sn_rd {a b u v : Nat → Int} {k : Nat} {x : Value} (h : sn a b u v k x) : isRd x := by
  obtain ⟨j, _, h⟩ := h
  exact ⟨_, _, _, _, h⟩
theorem bnd_le (M : Nat → Nat → Int) (a b : Nat) (v : Int) (x y : Nat) : bnd M a b v x y ≤ M x y := by
  unfold bnd set2
  split
  · rename_i h; rw [h.1, h.2]; omega
  · omega
theorem bnd_at (M : Nat → Nat → Int) (a b : Nat) (v : Int) : bnd M a b v a b ≤ v := by
  unfold bnd set2
  rw [if_pos ⟨rfl, rfl⟩]
  omega
theorem bnd_id {M : Nat → Nat → Int} {a b : Nat} {v : Int} (h : M a b ≤ v) : bnd M a b v = M := by
  funext x y
  unfold bnd set2
  split
  · rename_i h'; rw [h'.1, h'.2]; omega
  · rfl
theorem rdS_le (c : Nat) (M : Nat → Nat → Int) (a b u v : Int) (x y : Nat) : rdS c M a b u v x y ≤ M x y := by
  unfold rdS
  split
  · exact Int.le_trans (bnd_le _ _ _ _ _ _) (bnd_le _ _ _ _ _ _)
  · exact bnd_le _ _ _ _ _ _
theorem rdS_at (c : Nat) (M : Nat → Nat → Int) (a b u v : Int) : rdS c M a b u v a.toNat b.toNat ≤ v ∧ (b < c → rdS c M a b u v (b + 1).toNat a.toNat ≤ -u - 1) := by
  unfold rdS
  split
  · exact ⟨Int.le_trans (bnd_le _ _ _ _ _ _) (bnd_at _ _ _ _), fun _ => bnd_at _ _ _ _⟩
  · exact ⟨bnd_at _ _ _ _, fun h => by omega⟩
theorem rdS_id {c : Nat} {M : Nat → Nat → Int} {a b u v : Int} (h : M a.toNat b.toNat ≤ v) (h2 : b < c → M (b + 1).toNat a.toNat ≤ -u - 1) : rdS c M a b u v = M := by
  unfold rdS
  rw [bnd_id h]
  split
  · rename_i hb; exact bnd_id (h2 hb)
  · rfl
theorem rdM_mono (c : Nat) (T lo hi : Int) (a b u v : Nat → Int) (j : Nat) : ∀ (k : Nat), j ≤ k → ∀ x y, rdM c T lo hi a b u v k x y ≤ rdM c T lo hi a b u v j x y
  | 0, h, x, y => by obtain rfl : j = 0 := by omega
                     exact Int.le_refl _
  | k + 1, h, x, y => by
    rcases (show j = k + 1 ∨ j ≤ k by omega) with rfl | h
    · exact Int.le_refl _
    · exact Int.le_trans (rdS_le _ _ _ _ _ _ _ _) (rdM_mono c T lo hi a b u v j k h x y)
theorem rdM_seen {c : Nat} {T lo hi : Int} {a b u v : Nat → Int} {k : Nat} (h : sn a b u v k (rdV (a k) (b k) (u k) (v k))) : rdM c T lo hi a b u v (k + 1) = rdM c T lo hi a b u v k := by
  obtain ⟨j, hj, he⟩ := h
  unfold rdV at he
  injection he with he
  injection he with he
  have e : a k = a j ∧ b k = b j ∧ u k = u j ∧ v k = v j := by simpa using he
  have h1 := rdS_at c (rdM c T lo hi a b u v j) (a j) (b j) (u j) (v j)
  have m := rdM_mono c T lo hi a b u v (j + 1) k (by omega)
  refine rdS_id ?_ (fun hb => ?_)
  · rw [e.1, e.2.1, e.2.2.2]
    exact Int.le_trans (m _ _) h1.1
  · rw [e.1, e.2.1, e.2.2.1]
    exact Int.le_trans (m _ _) (h1.2 (by rw [← e.2.1]; exact hb))

noncomputable def E_rd (c : Nat) (T lo hi : Int) (n : Nat) (a b u v : Nat → Int) : St := (some
  {
    σ :=
      [AV.agg
          [AV.x (Value.int IntKind.i64 (↑c : Int)), AV.x (Value.int IntKind.i64 T), AV.x (Value.int IntKind.i64 lo),
            AV.x (Value.int IntKind.i64 hi)],
        AV.lst (4 : Nat) n fun k =>
          [AV.x (Value.int IntKind.i64 (a k)), AV.x (Value.int IntKind.i64 (b k)), AV.x (Value.int IntKind.i64 (u k)),
            AV.x (Value.int IntKind.i64 (v k))],
        AV.ptr (0 : Nat) (0 : Nat), AV.top, AV.x (Value.pointer none), AV.lit false, AV.ptr (5 : Nat) (0 : Nat), AV.top,
        AV.top, AV.top, AV.mp (63 : Nat), AV.top, AV.top, AV.top, AV.top, AV.top, AV.top, AV.top, AV.top, AV.top,
        AV.top, AV.top, AV.x (Value.int IntKind.i64 ((↑c : Int) + (1 : Int))),
        AV.x (Value.int IntKind.i64 ((↑c : Int) + (1 : Int))), AV.top, AV.top, AV.top, AV.top, AV.top, AV.top, AV.top,
        AV.top, AV.top, AV.top, AV.top, AV.top, AV.top, AV.top, AV.top, AV.top, AV.top, AV.top, AV.top, AV.top, AV.top,
        AV.x (Value.int IntKind.i64 (↑c : Int)), AV.x (Value.int IntKind.i64 (↑c : Int)), AV.top, AV.top, AV.top,
        AV.top, AV.top, AV.top, AV.top, AV.top, AV.top, AV.top, AV.top, AV.top, AV.top, AV.top, AV.top, AV.top, AV.top,
        AV.top, AV.top, AV.top, AV.top, AV.top, AV.top, AV.top, AV.top, AV.top, AV.top, AV.top, AV.top, AV.top, AV.top,
        AV.top, AV.top, AV.top,
        AV.lst (4 : Nat) n fun k =>
          [AV.x (Value.int IntKind.i64 (a k)), AV.x (Value.int IntKind.i64 (b k)), AV.x (Value.int IntKind.i64 (u k)),
            AV.x (Value.int IntKind.i64 (v k))],
        AV.x (Value.int IntKind.i64 (↑n : Int)), AV.top, AV.top, AV.top, AV.top, AV.top, AV.top, AV.top, AV.top, AV.top,
        AV.top, AV.top, AV.top, AV.top, AV.top, AV.top, AV.top, AV.top, AV.top, AV.top, AV.top, AV.top, AV.top, AV.top,
        AV.top, AV.top, AV.top, AV.top, AV.top, AV.top, AV.top, AV.top, AV.top, AV.top, AV.top, AV.top, AV.top, AV.top,
        AV.top, AV.top, AV.top, AV.top, AV.top, AV.top, AV.top, AV.top, AV.top, AV.top, AV.top, AV.top, AV.top, AV.top,
        AV.top, AV.top, AV.top, AV.top, AV.top, AV.top, AV.top, AV.top, AV.top, AV.top, AV.top, AV.top, AV.top, AV.top,
        AV.top, AV.top, AV.top, AV.top, AV.top, AV.top, AV.top, AV.top, AV.top, AV.top, AV.top, AV.top, AV.top, AV.top,
        AV.top, AV.top, AV.top, AV.top, AV.top, AV.top, AV.top, AV.top, AV.top, AV.top, AV.top, AV.top, AV.top, AV.top,
        AV.top, AV.top],
    m :=
      [((63 : Nat), Res.memo (fun x => False) fun v => v),
        ((56 : Nat),
          Res.row (3 : Nat) (1 : Nat) (2 : Nat)
            (chunk (1 : Nat)
              [AV.x
                  (Value.int IntKind.i64
                    (updI (c * (1 : Nat) + (4 : Nat))
                      (min (siteF (↑c : Int) T lo hi (cel c lo hi c) (c * (1 : Nat) + (4 : Nat))) T)
                      (siteF (↑c : Int) T lo hi (cel c lo hi c)) ((0 : Nat) + (c * (11 : Nat) + (4 : Nat))))),
                AV.x (Value.int IntKind.i64 (-T))])),
        ((31 : Nat),
          Res.row (3 : Nat) (1 : Nat) (2 : Nat)
            (chunk (1 : Nat)
              [AV.x (Value.int IntKind.i64 (siteF (↑c : Int) T lo hi (cel c lo hi c) (c * (1 : Nat) + (4 : Nat)))),
                AV.x (Value.int IntKind.i64 T)])),
        ((5 : Nat),
          Res.ints (133 : Nat) [] (125 : Nat) fun a =>
            updI ((0 : Nat) + (c * (11 : Nat) + (4 : Nat)))
              (min
                (updI (c * (1 : Nat) + (4 : Nat))
                  (min (siteF (↑c : Int) T lo hi (cel c lo hi c) (c * (1 : Nat) + (4 : Nat))) T)
                  (siteF (↑c : Int) T lo hi (cel c lo hi c)) ((0 : Nat) + (c * (11 : Nat) + (4 : Nat))))
                (-T))
              (updL (c * (1 : Nat) + (4 : Nat))
                [min (siteF (↑c : Int) T lo hi (cel c lo hi c) (c * (1 : Nat) + (4 : Nat))) T]
                (siteF (↑c : Int) T lo hi (cel c lo hi c)))
              a),
        ((0 : Nat),
          Res.cells (34 : Nat)
            [AV.x (Value.int IntKind.i64 (↑c : Int)), AV.x (Value.int IntKind.i64 T), AV.x (Value.int IntKind.i64 lo),
              AV.x (Value.int IntKind.i64 hi)])],
    nx := (68 : Nat) } : Option St).getD { σ := [], m := [], nx := 0 }
noncomputable def B_rd : Code := loopBody (loopAt (bodyOf Try.f67) 2)
noncomputable def inv_rd (c : Nat) (T lo hi : Int) (n : Nat) (a b u v : Nat → Int) (k : Nat) : St := { σ := ovrS [(83, i k)] (E_rd c T lo hi n a b u v).σ, m := [(5, .ints 133 [] 125 (siteF c T lo hi (rdM c T lo hi a b u v k))), (0, .cells 34 [i c, i T, i lo, i hi]), (63, .memo (sn a b u v k) (fun _ => .bool true))], nx := (E_rd c T lo hi n a b u v).nx }
noncomputable def out_rd (c : Nat) (T lo hi : Int) (n : Nat) (a b u v : Nat → Int) (k : Nat) : AEx → Option St := fun ex => match ex with
  | .exit 6 => some { σ := ovrS [(83, i n)] (E_rd c T lo hi n a b u v).σ, m := [(5, .ints 133 [] 125 (siteF c T lo hi (rdM c T lo hi a b u v n))), (0, .cells 34 [i c, i T, i lo, i hi]), (63, .memo (sn a b u v n) (fun _ => .bool true))], nx := (E_rd c T lo hi n a b u v).nx }
  | _ => none
noncomputable def T_rd (c : Nat) (T lo hi : Int) (n : Nat) (a b u v : Nat → Int) : CT := .leaf (.exit 6, ( out_rd c T lo hi n a b u v 0 (.exit 6)).getD (E_rd c T lo hi n a b u v))
noncomputable def LS_rd (c : Nat) (T lo hi : Int) (n : Nat) (a b u v : Nat → Int) : LSpec := normSp [] (sumL (inv_rd c T lo hi n a b u v (0)) (T_rd c T lo hi n a b u v))
set_option maxRecDepth 100000 in
theorem rd_ls (c : Nat) (T lo hi : Int) (n : Nat) (a b u v : Nat → Int) (pre0 : 1 ≤ c ∧ c ≤ 10) (pre1 : 1 ≤ lo ∧ lo ≤ hi ∧ hi ≤ 200 ∧ 1 ≤ T ∧ T ≤ 2000) (pre2 : n ≤ 1000) (pre3 : allI (fun k => rdB c (a k) (b k) (u k) (v k)) n = true) : LSound Try.prog (.loop B_rd) (LS_rd c T lo hi n a b u v) := by
  refine loop_roundsX [] (E := { R := [], H := [(94, H_bound)] }) (G := [(71, S_least)]) (L := []) (SoundG.cons least_ok (SoundG.nil _)) (SoundX.of (SoundRL.nil _) (SoundHL.cons bound_okH (SoundHL.nil _))) mixed noLoops (X := Nat) (inv_rd c T lo hi n a b u v) (fun k => k ≤ n) (fun k => n - k) (out_rd c T lo hi n a b u v) (x0 := 0) (by simp) ?_ ?_ ?_
  · rintro k
    kernel_rfl
  · rintro k y E h
    unfold out_rd at h
    split at h
    · cases h; kernel_rfl
    · cases h
  · rintro Q hQ k hx
    refine ⟨(k + 1), ?_⟩
    have e : roundX Try.prog [(71, S_least)] { R := [], H := [(94, H_bound)] } [] [] B_rd (inv_rd c T lo hi n a b u v k) (inv_rd c T lo hi n a b u v ((k + 1))) (out_rd c T lo hi n a b u v k) = (Tree.branch (decide ((↑k : Int) < (↑n : Int))) (Tree.need [(0 : Int) ≤ (↑k : Int) ∧ (↑k : Int) < (↑n : Int)] (Tree.need [MapKey Try.prog 135 (sn a b u v k) (Value.agg #[Value.int IntKind.i64 (a k), Value.int IntKind.i64 (b k), Value.int IntKind.i64 (u k), Value.int IntKind.i64 (v k)]) (Value.bool false)] (Tree.may (sn a b u v k (Value.agg #[Value.int IntKind.i64 (a k), Value.int IntKind.i64 (b k), Value.int IntKind.i64 (u k), Value.int IntKind.i64 (v k)])) (Tree.branch true (Tree.need [inI64 ((↑k : Int) + (1 : Int))] (Tree.need [AV.agg [iI (↑c : Int), iI T, iI lo, iI hi] = AV.agg [iI (↑c : Int), iI T, iI lo, iI hi], (AV.lst 4 n fun k => [iI (a k), iI (b k), iI (u k), iI (v k)]) = AV.lst 4 n fun k => [iI (a k), iI (b k), iI (u k), iI (v k)], AV.ptr 0 0 = AV.ptr 0 0, AV.x (Value.pointer none) = AV.x (Value.pointer none), AV.lit false = AV.lit false, AV.ptr 5 0 = AV.ptr 5 0, AV.mp 63 = AV.mp 63, (↑c : Int) + (1 : Int) = (↑c : Int) + (1 : Int), (↑c : Int) + (1 : Int) = (↑c : Int) + (1 : Int), (↑c : Int) = (↑c : Int), (↑c : Int) = (↑c : Int), (AV.lst 4 n fun k => [iI (a k), iI (b k), iI (u k), iI (v k)]) = AV.lst 4 n fun k => [iI (a k), iI (b k), iI (u k), iI (v k)], (↑n : Int) = (↑n : Int), (↑k : Int) + (1 : Int) = (↑(k + 1) : Int), 125 = 125, ∀ (k_1 : Nat), k_1 < 125 → siteF (↑c : Int) T lo hi (rdM c T lo hi a b u v k) k_1 = siteF (↑c : Int) T lo hi (rdM c T lo hi a b u v (k + 1)) k_1, (↑c : Int) = (↑c : Int), T = T, lo = lo, hi = hi, ∀ (k_1 : Value), sn a b u v k k_1 → sn a b u v (k + 1) k_1 ∧ Value.bool true = Value.bool true] (Tree.leaf AEx.normal))) (Tree.need [∀ (u_1 : Value), sn a b u v k u_1 → Value.bool true = Value.bool true, MapKey Try.prog 135 (fun u_1 => sn a b u v k u_1 ∨ u_1 = Value.agg #[Value.int IntKind.i64 (a k), Value.int IntKind.i64 (b k), Value.int IntKind.i64 (u k), Value.int IntKind.i64 (v k)]) (Value.agg #[Value.int IntKind.i64 (a k), Value.int IntKind.i64 (b k), Value.int IntKind.i64 (u k), Value.int IntKind.i64 (v k)]) (Value.bool false)] (Tree.need [(0 : Int) ≤ a k ∧ a k < (↑(11 : Nat) : Int)] (Tree.need [(0 : Int) ≤ b k ∧ b k < (↑(11 : Nat) : Int)] (Tree.need [Int.toNat (b k) * 1 + (Int.toNat (a k) * 11 + 4) < 125] (Tree.need [(0 : Int) ≤ a k ∧ a k < (↑(11 : Nat) : Int)] (Tree.need [(0 : Int) ≤ b k ∧ b k < (↑(11 : Nat) : Int)] (Tree.need [Int.toNat (b k) * 1 + (Int.toNat (a k) * 11 + 4) + List.length [min (siteF (↑c : Int) T lo hi (rdM c T lo hi a b u v k) (Int.toNat (b k) * 1 + (Int.toNat (a k) * 11 + 4))) (v k)] ≤ 125] (Tree.branch (decide (b k < (↑c : Int))) (Tree.need [inI64 (b k + (1 : Int))] (Tree.need [inI64 (-u k)] (Tree.need [inI64 (-u k - (1 : Int))] (Tree.need [(0 : Int) ≤ b k + (1 : Int) ∧ b k + (1 : Int) < (↑(11 : Nat) : Int)] (Tree.need [(0 : Int) ≤ a k ∧ a k < (↑(11 : Nat) : Int)] (Tree.need [Int.toNat (a k) * 1 + (Int.toNat (b k + (1 : Int)) * 11 + 4) < 125] (Tree.need [(0 : Int) ≤ b k + (1 : Int) ∧ b k + (1 : Int) < (↑(11 : Nat) : Int)] (Tree.need [(0 : Int) ≤ a k ∧ a k < (↑(11 : Nat) : Int)] (Tree.need [Int.toNat (a k) * 1 + (Int.toNat (b k + (1 : Int)) * 11 + 4) + List.length [min (updI (Int.toNat (b k) * 1 + (Int.toNat (a k) * 11 + 4)) (min (siteF (↑c : Int) T lo hi (rdM c T lo hi a b u v k) (Int.toNat (b k) * 1 + (Int.toNat (a k) * 11 + 4))) (v k)) (siteF (↑c : Int) T lo hi (rdM c T lo hi a b u v k)) (Int.toNat (a k) * 1 + (Int.toNat (b k + (1 : Int)) * 11 + 4))) (-u k - (1 : Int))] ≤ 125] (Tree.need [inI64 ((↑k : Int) + (1 : Int))] (Tree.need [AV.agg [iI (↑c : Int), iI T, iI lo, iI hi] = AV.agg [iI (↑c : Int), iI T, iI lo, iI hi], (AV.lst 4 n fun k => [iI (a k), iI (b k), iI (u k), iI (v k)]) = AV.lst 4 n fun k => [iI (a k), iI (b k), iI (u k), iI (v k)], AV.ptr 0 0 = AV.ptr 0 0, AV.x (Value.pointer none) = AV.x (Value.pointer none), AV.lit false = AV.lit false, AV.ptr 5 0 = AV.ptr 5 0, AV.mp 63 = AV.mp 63, (↑c : Int) + (1 : Int) = (↑c : Int) + (1 : Int), (↑c : Int) + (1 : Int) = (↑c : Int) + (1 : Int), (↑c : Int) = (↑c : Int), (↑c : Int) = (↑c : Int), (AV.lst 4 n fun k => [iI (a k), iI (b k), iI (u k), iI (v k)]) = AV.lst 4 n fun k => [iI (a k), iI (b k), iI (u k), iI (v k)], (↑n : Int) = (↑n : Int), (↑k : Int) + (1 : Int) = (↑(k + 1) : Int), 125 = 125, ∀ (k_1 : Nat), k_1 < 125 → updI (Int.toNat (a k) * 1 + (Int.toNat (b k + (1 : Int)) * 11 + 4)) (min (updI (Int.toNat (b k) * 1 + (Int.toNat (a k) * 11 + 4)) (min (siteF (↑c : Int) T lo hi (rdM c T lo hi a b u v k) (Int.toNat (b k) * 1 + (Int.toNat (a k) * 11 + 4))) (v k)) (siteF (↑c : Int) T lo hi (rdM c T lo hi a b u v k)) (Int.toNat (a k) * 1 + (Int.toNat (b k + (1 : Int)) * 11 + 4))) (-u k - (1 : Int))) (updL (Int.toNat (b k) * 1 + (Int.toNat (a k) * 11 + 4)) [min (siteF (↑c : Int) T lo hi (rdM c T lo hi a b u v k) (Int.toNat (b k) * 1 + (Int.toNat (a k) * 11 + 4))) (v k)] (siteF (↑c : Int) T lo hi (rdM c T lo hi a b u v k))) k_1 = siteF (↑c : Int) T lo hi (rdM c T lo hi a b u v (k + 1)) k_1, (↑c : Int) = (↑c : Int), T = T, lo = lo, hi = hi, ∀ (k_1 : Value), sn a b u v k k_1 ∨ k_1 = Value.agg #[Value.int IntKind.i64 (a k), Value.int IntKind.i64 (b k), Value.int IntKind.i64 (u k), Value.int IntKind.i64 (v k)] → sn a b u v (k + 1) k_1 ∧ Value.bool true = Value.bool true] (Tree.leaf AEx.normal)))))))))))) (Tree.need [inI64 ((↑k : Int) + (1 : Int))] (Tree.need [AV.agg [iI (↑c : Int), iI T, iI lo, iI hi] = AV.agg [iI (↑c : Int), iI T, iI lo, iI hi], (AV.lst 4 n fun k => [iI (a k), iI (b k), iI (u k), iI (v k)]) = AV.lst 4 n fun k => [iI (a k), iI (b k), iI (u k), iI (v k)], AV.ptr 0 0 = AV.ptr 0 0, AV.x (Value.pointer none) = AV.x (Value.pointer none), AV.lit false = AV.lit false, AV.ptr 5 0 = AV.ptr 5 0, AV.mp 63 = AV.mp 63, (↑c : Int) + (1 : Int) = (↑c : Int) + (1 : Int), (↑c : Int) + (1 : Int) = (↑c : Int) + (1 : Int), (↑c : Int) = (↑c : Int), (↑c : Int) = (↑c : Int), (AV.lst 4 n fun k => [iI (a k), iI (b k), iI (u k), iI (v k)]) = AV.lst 4 n fun k => [iI (a k), iI (b k), iI (u k), iI (v k)], (↑n : Int) = (↑n : Int), (↑k : Int) + (1 : Int) = (↑(k + 1) : Int), 125 = 125, ∀ (k_1 : Nat), k_1 < 125 → updI (Int.toNat (b k) * 1 + (Int.toNat (a k) * 11 + 4)) (min (siteF (↑c : Int) T lo hi (rdM c T lo hi a b u v k) (Int.toNat (b k) * 1 + (Int.toNat (a k) * 11 + 4))) (v k)) (siteF (↑c : Int) T lo hi (rdM c T lo hi a b u v k)) k_1 = siteF (↑c : Int) T lo hi (rdM c T lo hi a b u v (k + 1)) k_1, (↑c : Int) = (↑c : Int), T = T, lo = lo, hi = hi, ∀ (k_1 : Value), sn a b u v k k_1 ∨ k_1 = Value.agg #[Value.int IntKind.i64 (a k), Value.int IntKind.i64 (b k), Value.int IntKind.i64 (u k), Value.int IntKind.i64 (v k)] → sn a b u v (k + 1) k_1 ∧ Value.bool true = Value.bool true] (Tree.leaf AEx.normal)))))))))))) (Tree.branch false (Tree.need [inI64 ((↑k : Int) + (1 : Int))] (Tree.need [AV.agg [iI (↑c : Int), iI T, iI lo, iI hi] = AV.agg [iI (↑c : Int), iI T, iI lo, iI hi], (AV.lst 4 n fun k => [iI (a k), iI (b k), iI (u k), iI (v k)]) = AV.lst 4 n fun k => [iI (a k), iI (b k), iI (u k), iI (v k)], AV.ptr 0 0 = AV.ptr 0 0, AV.x (Value.pointer none) = AV.x (Value.pointer none), AV.lit false = AV.lit false, AV.ptr 5 0 = AV.ptr 5 0, AV.mp 63 = AV.mp 63, (↑c : Int) + (1 : Int) = (↑c : Int) + (1 : Int), (↑c : Int) + (1 : Int) = (↑c : Int) + (1 : Int), (↑c : Int) = (↑c : Int), (↑c : Int) = (↑c : Int), (AV.lst 4 n fun k => [iI (a k), iI (b k), iI (u k), iI (v k)]) = AV.lst 4 n fun k => [iI (a k), iI (b k), iI (u k), iI (v k)], (↑n : Int) = (↑n : Int), (↑k : Int) + (1 : Int) = (↑(k + 1) : Int), 125 = 125, ∀ (k_1 : Nat), k_1 < 125 → siteF (↑c : Int) T lo hi (rdM c T lo hi a b u v k) k_1 = siteF (↑c : Int) T lo hi (rdM c T lo hi a b u v (k + 1)) k_1, (↑c : Int) = (↑c : Int), T = T, lo = lo, hi = hi, ∀ (k_1 : Value), sn a b u v k k_1 → sn a b u v (k + 1) k_1 ∧ Value.bool true = Value.bool true] (Tree.leaf AEx.normal))) (Tree.need [∀ (u_1 : Value), sn a b u v k u_1 → Value.bool true = Value.bool true, MapKey Try.prog 135 (fun u_1 => sn a b u v k u_1 ∨ u_1 = Value.agg #[Value.int IntKind.i64 (a k), Value.int IntKind.i64 (b k), Value.int IntKind.i64 (u k), Value.int IntKind.i64 (v k)]) (Value.agg #[Value.int IntKind.i64 (a k), Value.int IntKind.i64 (b k), Value.int IntKind.i64 (u k), Value.int IntKind.i64 (v k)]) (Value.bool false)] (Tree.need [(0 : Int) ≤ a k ∧ a k < (↑(11 : Nat) : Int)] (Tree.need [(0 : Int) ≤ b k ∧ b k < (↑(11 : Nat) : Int)] (Tree.need [Int.toNat (b k) * 1 + (Int.toNat (a k) * 11 + 4) < 125] (Tree.need [(0 : Int) ≤ a k ∧ a k < (↑(11 : Nat) : Int)] (Tree.need [(0 : Int) ≤ b k ∧ b k < (↑(11 : Nat) : Int)] (Tree.need [Int.toNat (b k) * 1 + (Int.toNat (a k) * 11 + 4) + List.length [min (siteF (↑c : Int) T lo hi (rdM c T lo hi a b u v k) (Int.toNat (b k) * 1 + (Int.toNat (a k) * 11 + 4))) (v k)] ≤ 125] (Tree.branch (decide (b k < (↑c : Int))) (Tree.need [inI64 (b k + (1 : Int))] (Tree.need [inI64 (-u k)] (Tree.need [inI64 (-u k - (1 : Int))] (Tree.need [(0 : Int) ≤ b k + (1 : Int) ∧ b k + (1 : Int) < (↑(11 : Nat) : Int)] (Tree.need [(0 : Int) ≤ a k ∧ a k < (↑(11 : Nat) : Int)] (Tree.need [Int.toNat (a k) * 1 + (Int.toNat (b k + (1 : Int)) * 11 + 4) < 125] (Tree.need [(0 : Int) ≤ b k + (1 : Int) ∧ b k + (1 : Int) < (↑(11 : Nat) : Int)] (Tree.need [(0 : Int) ≤ a k ∧ a k < (↑(11 : Nat) : Int)] (Tree.need [Int.toNat (a k) * 1 + (Int.toNat (b k + (1 : Int)) * 11 + 4) + List.length [min (updI (Int.toNat (b k) * 1 + (Int.toNat (a k) * 11 + 4)) (min (siteF (↑c : Int) T lo hi (rdM c T lo hi a b u v k) (Int.toNat (b k) * 1 + (Int.toNat (a k) * 11 + 4))) (v k)) (siteF (↑c : Int) T lo hi (rdM c T lo hi a b u v k)) (Int.toNat (a k) * 1 + (Int.toNat (b k + (1 : Int)) * 11 + 4))) (-u k - (1 : Int))] ≤ 125] (Tree.need [inI64 ((↑k : Int) + (1 : Int))] (Tree.need [AV.agg [iI (↑c : Int), iI T, iI lo, iI hi] = AV.agg [iI (↑c : Int), iI T, iI lo, iI hi], (AV.lst 4 n fun k => [iI (a k), iI (b k), iI (u k), iI (v k)]) = AV.lst 4 n fun k => [iI (a k), iI (b k), iI (u k), iI (v k)], AV.ptr 0 0 = AV.ptr 0 0, AV.x (Value.pointer none) = AV.x (Value.pointer none), AV.lit false = AV.lit false, AV.ptr 5 0 = AV.ptr 5 0, AV.mp 63 = AV.mp 63, (↑c : Int) + (1 : Int) = (↑c : Int) + (1 : Int), (↑c : Int) + (1 : Int) = (↑c : Int) + (1 : Int), (↑c : Int) = (↑c : Int), (↑c : Int) = (↑c : Int), (AV.lst 4 n fun k => [iI (a k), iI (b k), iI (u k), iI (v k)]) = AV.lst 4 n fun k => [iI (a k), iI (b k), iI (u k), iI (v k)], (↑n : Int) = (↑n : Int), (↑k : Int) + (1 : Int) = (↑(k + 1) : Int), 125 = 125, ∀ (k_1 : Nat), k_1 < 125 → updI (Int.toNat (a k) * 1 + (Int.toNat (b k + (1 : Int)) * 11 + 4)) (min (updI (Int.toNat (b k) * 1 + (Int.toNat (a k) * 11 + 4)) (min (siteF (↑c : Int) T lo hi (rdM c T lo hi a b u v k) (Int.toNat (b k) * 1 + (Int.toNat (a k) * 11 + 4))) (v k)) (siteF (↑c : Int) T lo hi (rdM c T lo hi a b u v k)) (Int.toNat (a k) * 1 + (Int.toNat (b k + (1 : Int)) * 11 + 4))) (-u k - (1 : Int))) (updL (Int.toNat (b k) * 1 + (Int.toNat (a k) * 11 + 4)) [min (siteF (↑c : Int) T lo hi (rdM c T lo hi a b u v k) (Int.toNat (b k) * 1 + (Int.toNat (a k) * 11 + 4))) (v k)] (siteF (↑c : Int) T lo hi (rdM c T lo hi a b u v k))) k_1 = siteF (↑c : Int) T lo hi (rdM c T lo hi a b u v (k + 1)) k_1, (↑c : Int) = (↑c : Int), T = T, lo = lo, hi = hi, ∀ (k_1 : Value), sn a b u v k k_1 ∨ k_1 = Value.agg #[Value.int IntKind.i64 (a k), Value.int IntKind.i64 (b k), Value.int IntKind.i64 (u k), Value.int IntKind.i64 (v k)] → sn a b u v (k + 1) k_1 ∧ Value.bool true = Value.bool true] (Tree.leaf AEx.normal)))))))))))) (Tree.need [inI64 ((↑k : Int) + (1 : Int))] (Tree.need [AV.agg [iI (↑c : Int), iI T, iI lo, iI hi] = AV.agg [iI (↑c : Int), iI T, iI lo, iI hi], (AV.lst 4 n fun k => [iI (a k), iI (b k), iI (u k), iI (v k)]) = AV.lst 4 n fun k => [iI (a k), iI (b k), iI (u k), iI (v k)], AV.ptr 0 0 = AV.ptr 0 0, AV.x (Value.pointer none) = AV.x (Value.pointer none), AV.lit false = AV.lit false, AV.ptr 5 0 = AV.ptr 5 0, AV.mp 63 = AV.mp 63, (↑c : Int) + (1 : Int) = (↑c : Int) + (1 : Int), (↑c : Int) + (1 : Int) = (↑c : Int) + (1 : Int), (↑c : Int) = (↑c : Int), (↑c : Int) = (↑c : Int), (AV.lst 4 n fun k => [iI (a k), iI (b k), iI (u k), iI (v k)]) = AV.lst 4 n fun k => [iI (a k), iI (b k), iI (u k), iI (v k)], (↑n : Int) = (↑n : Int), (↑k : Int) + (1 : Int) = (↑(k + 1) : Int), 125 = 125, ∀ (k_1 : Nat), k_1 < 125 → updI (Int.toNat (b k) * 1 + (Int.toNat (a k) * 11 + 4)) (min (siteF (↑c : Int) T lo hi (rdM c T lo hi a b u v k) (Int.toNat (b k) * 1 + (Int.toNat (a k) * 11 + 4))) (v k)) (siteF (↑c : Int) T lo hi (rdM c T lo hi a b u v k)) k_1 = siteF (↑c : Int) T lo hi (rdM c T lo hi a b u v (k + 1)) k_1, (↑c : Int) = (↑c : Int), T = T, lo = lo, hi = hi, ∀ (k_1 : Value), sn a b u v k k_1 ∨ k_1 = Value.agg #[Value.int IntKind.i64 (a k), Value.int IntKind.i64 (b k), Value.int IntKind.i64 (u k), Value.int IntKind.i64 (v k)] → sn a b u v (k + 1) k_1 ∧ Value.bool true = Value.bool true] (Tree.leaf AEx.normal))))))))))))))) (Tree.need [AV.agg [iI (↑c : Int), iI T, iI lo, iI hi] = AV.agg [iI (↑c : Int), iI T, iI lo, iI hi], (AV.lst 4 n fun k => [iI (a k), iI (b k), iI (u k), iI (v k)]) = AV.lst 4 n fun k => [iI (a k), iI (b k), iI (u k), iI (v k)], AV.ptr 0 0 = AV.ptr 0 0, AV.x (Value.pointer none) = AV.x (Value.pointer none), AV.lit false = AV.lit false, AV.ptr 5 0 = AV.ptr 5 0, AV.mp 63 = AV.mp 63, (↑c : Int) + (1 : Int) = (↑c : Int) + (1 : Int), (↑c : Int) + (1 : Int) = (↑c : Int) + (1 : Int), (↑c : Int) = (↑c : Int), (↑c : Int) = (↑c : Int), (AV.lst 4 n fun k => [iI (a k), iI (b k), iI (u k), iI (v k)]) = AV.lst 4 n fun k => [iI (a k), iI (b k), iI (u k), iI (v k)], (↑n : Int) = (↑n : Int), (↑k : Int) = (↑n : Int), 125 = 125, ∀ (k_1 : Nat), k_1 < 125 → siteF (↑c : Int) T lo hi (rdM c T lo hi a b u v k) k_1 = siteF (↑c : Int) T lo hi (rdM c T lo hi a b u v n) k_1, (↑c : Int) = (↑c : Int), T = T, lo = lo, hi = hi, ∀ (k_1 : Value), sn a b u v k k_1 → sn a b u v n k_1 ∧ Value.bool true = Value.bool true] (Tree.leaf (AEx.exit 6)))) := by kernel_rfl
    rw [e]
    simp only [T_rd, out_rd, Tree.sat, Option.getD_some] at hQ
    simp only [Tree.sat, allP, fitP, fitL, valEq, inI64, true_and, and_true, decide_eq_true_eq, decide_eq_false_iff_not, Int.natCast_zero, Int.toNat_natCast, bne_iff_ne, ne_eq, bne_eq_false_iff_eq, List.length_cons, List.length_nil, updL_one, out_rd]
    clear e
    
    have hv : ∀ j, j < n → (0 ≤ a j ∧ a j ≤ c - 1) ∧ (a j ≤ b j ∧ b j ≤ c) ∧ 0 ≤ u j ∧ u j ≤ v j ∧ v j ≤ 2000 := by
      intro j hj
      have := allI_iff.1 pre3 j hj
      simp only [rdB, Bool.and_eq_true, bt_iff, insB_iff] at this
      omega
    refine ⟨fun h => ?_, fun h => ?_⟩
    · have hk := hv k (by omega)
      have mk := mapKey_rd (a k) (b k) (u k) (v k)
      have q1 : MapKey Try.prog 135 (sn a b u v k) (rdV (a k) (b k) (u k) (v k)) (.bool false) := mk.mono (fun x hx => sn_rd hx)
      have q2 : MapKey Try.prog 135 (fun x => sn a b u v k x ∨ x = rdV (a k) (b k) (u k) (v k)) (rdV (a k) (b k) (u k) (v k)) (.bool false) := mk.mono (fun x hx => hx.elim sn_rd (fun he => ⟨_, _, _, _, he⟩))
      have sn1 : ∀ x, sn a b u v k x → sn a b u v (k + 1) x := fun x ⟨j, hj, he⟩ => ⟨j, by omega, he⟩
      have sn2 : sn a b u v (k + 1) (rdV (a k) (b k) (u k) (v k)) := ⟨k, by omega, rfl⟩
      refine ⟨by omega, q1, fun hs => ⟨fun _ => ?_, fun hc => absurd hc (by decide)⟩, fun hc => absurd hc (by decide), fun _ => ?_⟩
      · rw [rdM_seen hs]
        (repeat' first | with_reducible apply And.intro | with_reducible intro _)
        all_goals first | exact True.intro | omega | with_reducible rfl | (rename_i E hE; cases hE; exact hQ) | rfl | (exact sn1 _ (by assumption))
      · have h1 : ∀ M w, updI (Int.toNat (b k) * 1 + (Int.toNat (a k) * 11 + 4)) (min (siteF c T lo hi M (Int.toNat (b k) * 1 + (Int.toNat (a k) * 11 + 4))) w) (siteF c T lo hi M) = siteF c T lo hi (bnd M (a k).toNat (b k).toNat w) := fun M w => bnd_set (by omega) (by omega)
        refine ⟨⟨fun _ _ => trivial, q2⟩, ?_⟩
        simp only [h1]
        refine ⟨by omega, by omega, by omega, by omega, by omega, by omega, fun hb => ?_, fun hb => ?_⟩
        · have h2 : ∀ M w, updI (Int.toNat (a k) * 1 + (Int.toNat (b k + 1) * 11 + 4)) (min (siteF c T lo hi M (Int.toNat (a k) * 1 + (Int.toNat (b k + 1) * 11 + 4))) w) (siteF c T lo hi M) = siteF c T lo hi (bnd M (b k + 1).toNat (a k).toNat w) := fun M w => bnd_set (by omega) (by omega)
          have e3 : rdM c T lo hi a b u v (k + 1) = bnd (bnd (rdM c T lo hi a b u v k) (a k).toNat (b k).toNat (v k)) (b k + 1).toNat (a k).toNat (-u k - 1) := by
            show rdS _ _ _ _ _ _ = _
            unfold rdS
            rw [if_pos hb]
          simp only [h2, e3]
          (repeat' first | with_reducible apply And.intro | with_reducible intro _)
          all_goals first | exact True.intro | omega | with_reducible rfl | (rename_i E hE; cases hE; exact hQ) | rfl | (rename_i hs; exact hs.elim (fun h => sn1 _ h) (fun h => h ▸ sn2))
        · have e3 : rdM c T lo hi a b u v (k + 1) = bnd (rdM c T lo hi a b u v k) (a k).toNat (b k).toNat (v k) := by
            show rdS _ _ _ _ _ _ = _
            unfold rdS
            rw [if_neg hb]
          simp only [e3]
          (repeat' first | with_reducible apply And.intro | with_reducible intro _)
          all_goals first | exact True.intro | omega | with_reducible rfl | (rename_i E hE; cases hE; exact hQ) | rfl | (rename_i hs; exact hs.elim (fun h => sn1 _ h) (fun h => h ▸ sn2))
    · obtain rfl : k = n := by omega
      (repeat' first | with_reducible apply And.intro | with_reducible intro _)
      all_goals first | exact True.intro | omega | with_reducible rfl | (rename_i E hE; cases hE; exact hQ) | rfl | (assumption)

end Go.Proofs.Ytmdeoobmeokmeaa
/- Contracts of functions of the program, by the engine Sx: what each call comes to. Printed by a program of this repo (sxgen.py). -/
set_option linter.unusedSimpArgs false
set_option linter.unusedVariables false
namespace Go.Proofs.Ytmdeoobmeokmeaa
open Go Go.Sx Go.RowKit

/-- One step, one row, and one round of the shortest ways. -/
def fwS (M : Nat → Nat → Int) (o f t : Nat) : Nat → Nat → Int := bnd M f t (M f o + M o t)
def fwT (M : Nat → Nat → Int) (o f : Nat) : Nat → Nat → Nat → Int
  | 0 => M
  | t + 1 => fwS (fwT M o f t) o f t
def fwF (c : Nat) (M : Nat → Nat → Int) (o : Nat) : Nat → Nat → Nat → Int
  | 0 => M
  | f + 1 => fwT (fwF c M o f) o f (c + 1)
def fwO (c : Nat) (M : Nat → Nat → Int) : Nat → Nat → Nat → Int
  | 0 => M
  | o + 1 => fwF c (fwO c M o) o (c + 1)


def LB (B : Int) (M : Nat → Nat → Int) : Prop := ∀ x y, -B ≤ M x y ∧ M x y ≤ 2000
/-- How low the numbers can be, in a round. -/
def JB (B : Int) (o f t : Nat) (M : Nat → Nat → Int) : Prop := ∀ x y, M x y ≤ 2000 ∧ -(6 * B) ≤ M x y ∧ (x = o → -(3 * B) ≤ M x y) ∧ (y = o → -(3 * B) ≤ M x y) ∧ (x = o → y = o → -(2 * B) ≤ M x y) ∧ (¬ (x < f ∨ (x = f ∧ y < t)) → -B ≤ M x y)
theorem JB_start {B : Int} {o : Nat} {M : Nat → Nat → Int} (hB : 0 ≤ B) (h : LB B M) : JB B o 0 0 M := by
  intro x y
  have := h x y
  refine ⟨by omega, by omega, fun _ => by omega, fun _ => by omega, fun _ _ => by omega, fun _ => by omega⟩
theorem JB_step {B : Int} {o f t : Nat} {M : Nat → Nat → Int} (hB : 0 ≤ B) (h : JB B o f t M) : JB B o f (t + 1) (fwS M o f t) := by
  have hft := h f t
  have hfo := h f o
  have hot := h o t
  have hoo := h o o
  have hn := hft.2.2.2.2.2 (by omega)
  intro x y
  have hxy := h x y
  unfold fwS bnd set2
  by_cases hc : x = f ∧ y = t
  · rw [if_pos hc]
    obtain ⟨rfl, rfl⟩ := hc
    by_cases h1 : x = o
    · subst h1
      by_cases h2 : y = x
      · subst h2
        refine ⟨by omega, by omega, fun _ => by omega, fun _ => by omega, fun _ _ => by omega, fun _ => by omega⟩
      · refine ⟨by omega, by omega, fun _ => by have := hoo.2.2.2.2.1 rfl rfl; omega, fun h => absurd h h2, fun _ h => absurd h h2, fun _ => by omega⟩
    · by_cases h2 : y = o
      · subst h2
        refine ⟨by omega, by omega, fun h => absurd h h1, fun _ => by have := hoo.2.2.2.2.1 rfl rfl; omega, fun h => absurd h h1, fun _ => by omega⟩
      · have q1 := hfo.2.2.2.1 rfl
        have q2 := hot.2.2.1 rfl
        refine ⟨by omega, by omega, fun h => absurd h h1, fun h => absurd h h2, fun h => absurd h h1, fun _ => by omega⟩
  · rw [if_neg hc]
    exact ⟨hxy.1, hxy.2.1, hxy.2.2.1, hxy.2.2.2.1, hxy.2.2.2.2.1, fun hv => hxy.2.2.2.2.2 (by omega)⟩
theorem JB_T {B : Int} {o f : Nat} {M : Nat → Nat → Int} (hB : 0 ≤ B) (h : JB B o f 0 M) : ∀ t, JB B o f t (fwT M o f t)
  | 0 => h
  | t + 1 => JB_step hB (JB_T hB h t)
theorem JB_row {B : Int} {o f t : Nat} {M : Nat → Nat → Int} (h : JB B o f t M) : JB B o (f + 1) 0 M := by
  intro x y
  have hxy := h x y
  exact ⟨hxy.1, hxy.2.1, hxy.2.2.1, hxy.2.2.2.1, hxy.2.2.2.2.1, fun hv => hxy.2.2.2.2.2 (by omega)⟩
theorem JB_F {B : Int} {c o : Nat} {M : Nat → Nat → Int} (hB : 0 ≤ B) (h : LB B M) : ∀ f, JB B o f 0 (fwF c M o f)
  | 0 => JB_start hB h
  | f + 1 => JB_row (JB_T hB (JB_F hB h f) (c + 1))
theorem LB_O {c : Nat} {M : Nat → Nat → Int} (h : LB 2001 M) : ∀ o, LB (2001 * 6 ^ o) (fwO c M o)
  | 0 => by
    rw [show (2001 : Int) * 6 ^ 0 = 2001 by decide]
    exact h
  | o + 1 => by
    have ih := LB_O (c := c) h o
    have hp : (0 : Int) ≤ 2001 * 6 ^ o := Int.mul_nonneg (by omega) (Int.pow_nonneg (by omega))
    have hj := JB_F (c := c) (o := o) hp ih (c + 1)
    intro x y
    have := hj x y
    have e : (2001 : Int) * 6 ^ (o + 1) = 6 * (2001 * 6 ^ o) := by rw [Int.pow_succ]; omega
    rw [e]
    exact ⟨this.2.1, this.1⟩
theorem pow6 : ∀ o : Nat, o ≤ 10 → (6 : Int) ^ o ≤ 60466176 := by
  intro o ho
  rcases (show o = 0 ∨ o = 1 ∨ o = 2 ∨ o = 3 ∨ o = 4 ∨ o = 5 ∨ o = 6 ∨ o = 7 ∨ o = 8 ∨ o = 9 ∨ o = 10 by omega) with rfl | rfl | rfl | rfl | rfl | rfl | rfl | rfl | rfl | rfl | rfl <;> decide
theorem fw_in {c : Nat} {M : Nat → Nat → Int} (h : LB 2001 M) {o f t : Nat} (ho : o ≤ 10) (x y : Nat) : -800000000000 ≤ fwT (fwF c (fwO c M o) o f) o f t x y ∧ fwT (fwF c (fwO c M o) o f) o f t x y ≤ 2000 := by
  have ih := LB_O (c := c) h o
  have hp : (0 : Int) ≤ 2001 * 6 ^ o := Int.mul_nonneg (by omega) (Int.pow_nonneg (by omega))
  have hj := JB_T hp (JB_F (c := c) (o := o) hp ih f) t x y
  have := pow6 o ho
  omega
theorem bnd_lb {B : Int} {M : Nat → Nat → Int} (h : LB B M) {a b : Nat} {v : Int} (hv : -B ≤ v) : LB B (bnd M a b v) := by
  intro x y
  have h1 := h a b
  have h2 := h x y
  unfold bnd set2
  split <;> omega
theorem cel_lb {c : Nat} {lo hi : Int} (h : 1 ≤ lo ∧ lo ≤ hi ∧ hi ≤ 200) : ∀ k, LB 2001 (cel c lo hi k)
  | 0 => by
    intro x y
    unfold cel ini
    split <;> omega
  | k + 1 => bnd_lb (bnd_lb (cel_lb h k) (by omega)) (by omega)
theorem rdM_lb {c : Nat} {T lo hi : Int} {a b u v : Nat → Int} {n : Nat} (h : 1 ≤ lo ∧ lo ≤ hi ∧ hi ≤ 200 ∧ 1 ≤ T ∧ T ≤ 2000) (hv : ∀ j, j < n → 0 ≤ u j ∧ u j ≤ v j ∧ v j ≤ 2000) : ∀ k, k ≤ n → LB 2001 (rdM c T lo hi a b u v k)
  | 0, _ => bnd_lb (bnd_lb (cel_lb (by omega) c) (by omega)) (by omega)
  | k + 1, hk => by
    have ih := rdM_lb (c := c) (a := a) (b := b) h hv k (by omega)
    have := hv k (by omega)
    show LB 2001 (rdS _ _ _ _ _ _)
    unfold rdS
    split
    · exact bnd_lb (bnd_lb ih (by omega)) (by omega)
    · exact bnd_lb ih (by omega)

noncomputable def E_re (c : Nat) (T lo hi : Int) (n : Nat) (a b u v : Nat → Int) : St := (some
  {
    σ :=
      [AV.agg
          [AV.x (Value.int IntKind.i64 (↑c : Int)), AV.x (Value.int IntKind.i64 T), AV.x (Value.int IntKind.i64 lo),
            AV.x (Value.int IntKind.i64 hi)],
        AV.lst (4 : Nat) n fun k =>
          [AV.x (Value.int IntKind.i64 (a k)), AV.x (Value.int IntKind.i64 (b k)), AV.x (Value.int IntKind.i64 (u k)),
            AV.x (Value.int IntKind.i64 (v k))],
        AV.ptr (0 : Nat) (0 : Nat), AV.top, AV.x (Value.pointer none), AV.lit false, AV.ptr (5 : Nat) (0 : Nat), AV.top,
        AV.top, AV.top, AV.mp (63 : Nat), AV.top, AV.top, AV.top, AV.top, AV.top, AV.top, AV.top, AV.top, AV.top,
        AV.top, AV.top, AV.x (Value.int IntKind.i64 ((↑c : Int) + (1 : Int))),
        AV.x (Value.int IntKind.i64 ((↑c : Int) + (1 : Int))), AV.top, AV.top, AV.top, AV.top, AV.top, AV.top, AV.top,
        AV.top, AV.top, AV.top, AV.top, AV.top, AV.top, AV.top, AV.top, AV.top, AV.top, AV.top, AV.top, AV.top, AV.top,
        AV.x (Value.int IntKind.i64 (↑c : Int)), AV.x (Value.int IntKind.i64 (↑c : Int)), AV.top, AV.top, AV.top,
        AV.top, AV.top, AV.top, AV.top, AV.top, AV.top, AV.top, AV.top, AV.top, AV.top, AV.top, AV.top, AV.top, AV.top,
        AV.top, AV.top, AV.top, AV.top, AV.top, AV.top, AV.top, AV.top, AV.top, AV.top, AV.top, AV.top, AV.top, AV.top,
        AV.top, AV.top, AV.top,
        AV.lst (4 : Nat) n fun k =>
          [AV.x (Value.int IntKind.i64 (a k)), AV.x (Value.int IntKind.i64 (b k)), AV.x (Value.int IntKind.i64 (u k)),
            AV.x (Value.int IntKind.i64 (v k))],
        AV.x (Value.int IntKind.i64 (↑n : Int)), AV.x (Value.int IntKind.i64 (↑n : Int)), AV.top, AV.top, AV.top,
        AV.top, AV.top, AV.top, AV.top, AV.top, AV.top, AV.top, AV.top, AV.top, AV.top, AV.top, AV.top, AV.top, AV.top,
        AV.top, AV.top, AV.top, AV.top, AV.top, AV.top, AV.top, AV.top, AV.top, AV.top, AV.top, AV.top, AV.top, AV.top,
        AV.top, AV.top, AV.top, AV.top, AV.top, AV.top, AV.x (Value.int IntKind.i64 ((↑c : Int) + (1 : Int))), AV.top,
        AV.top, AV.top, AV.top, AV.top, AV.top, AV.top, AV.top, AV.top, AV.top, AV.top, AV.top, AV.top, AV.top, AV.top,
        AV.top, AV.top, AV.top, AV.top, AV.top, AV.top, AV.top, AV.top, AV.top, AV.top, AV.top, AV.top, AV.top, AV.top,
        AV.top, AV.top, AV.top, AV.top, AV.top, AV.top, AV.top, AV.top, AV.top, AV.top, AV.top, AV.top, AV.top, AV.top,
        AV.top, AV.top, AV.top, AV.top, AV.top, AV.top, AV.top, AV.top, AV.top, AV.top, AV.top, AV.top, AV.top],
    m :=
      [((5 : Nat), Res.ints (133 : Nat) [] (125 : Nat) fun k => siteF (↑c : Int) T lo hi (rdM c T lo hi a b u v n) k),
        ((0 : Nat),
          Res.cells (34 : Nat)
            [AV.x (Value.int IntKind.i64 (↑c : Int)), AV.x (Value.int IntKind.i64 T), AV.x (Value.int IntKind.i64 lo),
              AV.x (Value.int IntKind.i64 hi)]),
        ((63 : Nat), Res.memo (fun x => sn a b u v n x) fun x => Value.bool true)],
    nx := (72 : Nat) } : Option St).getD { σ := [], m := [], nx := 0 }
noncomputable def B_re : Code := loopBody (loopAt (bodyOf Try.f67) 3)
noncomputable def inv_re (c : Nat) (T lo hi : Int) (n : Nat) (a b u v : Nat → Int) (o : Nat) : St := { σ := ovrS [(122, i o)] (E_re c T lo hi n a b u v).σ, m := [(5, .ints 133 [] 125 (siteF c T lo hi (fwO c (rdM c T lo hi a b u v n) o))), (0, .cells 34 [i c, i T, i lo, i hi])], nx := (E_re c T lo hi n a b u v).nx }
noncomputable def out_re (c : Nat) (T lo hi : Int) (n : Nat) (a b u v : Nat → Int) (o : Nat) : AEx → Option St := fun ex => match ex with
  | .exit 8 => some { σ := ovrS [(122, i ((c : Int) + 1))] (E_re c T lo hi n a b u v).σ, m := [(5, .ints 133 [] 125 (siteF c T lo hi (fwO c (rdM c T lo hi a b u v n) (c + 1)))), (0, .cells 34 [i c, i T, i lo, i hi])], nx := (E_re c T lo hi n a b u v).nx }
  | _ => none
noncomputable def T_re (c : Nat) (T lo hi : Int) (n : Nat) (a b u v : Nat → Int) : CT := .leaf (.exit 8, ( out_re c T lo hi n a b u v 0 (.exit 8)).getD (E_re c T lo hi n a b u v))
noncomputable def LS_re (c : Nat) (T lo hi : Int) (n : Nat) (a b u v : Nat → Int) : LSpec := normSp [] (sumL (inv_re c T lo hi n a b u v (0)) (T_re c T lo hi n a b u v))
noncomputable def E_rf (c : Nat) (T lo hi : Int) (n : Nat) (a b u v : Nat → Int) (o : Nat) : St := (some
  {
    σ :=
      [AV.agg
          [AV.x (Value.int IntKind.i64 (↑c : Int)), AV.x (Value.int IntKind.i64 T), AV.x (Value.int IntKind.i64 lo),
            AV.x (Value.int IntKind.i64 hi)],
        AV.lst (4 : Nat) n fun k =>
          [AV.x (Value.int IntKind.i64 (a k)), AV.x (Value.int IntKind.i64 (b k)), AV.x (Value.int IntKind.i64 (u k)),
            AV.x (Value.int IntKind.i64 (v k))],
        AV.ptr (0 : Nat) (0 : Nat), AV.top, AV.x (Value.pointer none), AV.lit false, AV.ptr (5 : Nat) (0 : Nat), AV.top,
        AV.top, AV.top, AV.mp (63 : Nat), AV.top, AV.top, AV.x (Value.int IntKind.i64 (↑o : Int)), AV.top, AV.top,
        AV.top, AV.top, AV.top, AV.top, AV.top, AV.top, AV.x (Value.int IntKind.i64 ((↑c : Int) + (1 : Int))),
        AV.x (Value.int IntKind.i64 ((↑c : Int) + (1 : Int))), AV.top, AV.top, AV.top, AV.top, AV.top, AV.top, AV.top,
        AV.top, AV.top, AV.top, AV.top, AV.top, AV.top, AV.top, AV.top, AV.top, AV.top, AV.top, AV.top, AV.top, AV.top,
        AV.x (Value.int IntKind.i64 (↑c : Int)), AV.x (Value.int IntKind.i64 (↑c : Int)), AV.top, AV.top, AV.top,
        AV.top, AV.top, AV.top, AV.top, AV.top, AV.top, AV.top, AV.top, AV.top, AV.top, AV.top, AV.top, AV.top, AV.top,
        AV.top, AV.top, AV.top, AV.top, AV.top, AV.top, AV.top, AV.top, AV.top, AV.top, AV.top, AV.top, AV.top, AV.top,
        AV.top, AV.top, AV.top,
        AV.lst (4 : Nat) n fun k =>
          [AV.x (Value.int IntKind.i64 (a k)), AV.x (Value.int IntKind.i64 (b k)), AV.x (Value.int IntKind.i64 (u k)),
            AV.x (Value.int IntKind.i64 (v k))],
        AV.x (Value.int IntKind.i64 (↑n : Int)), AV.x (Value.int IntKind.i64 (↑n : Int)), AV.top, AV.top, AV.top,
        AV.top, AV.top, AV.top, AV.top, AV.top, AV.top, AV.top, AV.top, AV.top, AV.top, AV.top, AV.top, AV.top, AV.top,
        AV.top, AV.top, AV.top, AV.top, AV.top, AV.top, AV.top, AV.top, AV.top, AV.top, AV.top, AV.top, AV.top, AV.top,
        AV.top, AV.top, AV.top, AV.top, AV.top, AV.top, AV.x (Value.int IntKind.i64 ((↑c : Int) + (1 : Int))),
        AV.x (Value.int IntKind.i64 (↑o : Int)), AV.top, AV.top, AV.top, AV.top,
        AV.x (Value.int IntKind.i64 ((↑c : Int) + (1 : Int))), AV.top, AV.top, AV.top, AV.top, AV.top, AV.top, AV.top,
        AV.top, AV.top, AV.top, AV.top, AV.top, AV.top, AV.top, AV.top, AV.top, AV.top, AV.top, AV.top, AV.top, AV.top,
        AV.top, AV.top, AV.top, AV.top, AV.top, AV.top, AV.top, AV.top, AV.top, AV.top, AV.top, AV.top, AV.top, AV.top,
        AV.top, AV.top, AV.top, AV.top, AV.top, AV.top, AV.top, AV.top, AV.top, AV.top, AV.top, AV.top, AV.top, AV.top,
        AV.top],
    m :=
      [((5 : Nat),
          Res.ints (133 : Nat) [] (125 : Nat) fun k => siteF (↑c : Int) T lo hi (fwO c (rdM c T lo hi a b u v n) o) k),
        ((0 : Nat),
          Res.cells (34 : Nat)
            [AV.x (Value.int IntKind.i64 (↑c : Int)), AV.x (Value.int IntKind.i64 T), AV.x (Value.int IntKind.i64 lo),
              AV.x (Value.int IntKind.i64 hi)])],
    nx := (79 : Nat) } : Option St).getD { σ := [], m := [], nx := 0 }
noncomputable def B_rf : Code := (loopBody (loopAt (loopBody (loopAt (bodyOf Try.f67) 3)) 0))
noncomputable def inv_rf (c : Nat) (T lo hi : Int) (n : Nat) (a b u v : Nat → Int) (o : Nat) (f : Nat) : St := { σ := ovrS [(128, i f)] (E_rf c T lo hi n a b u v o).σ, m := [(5, .ints 133 [] 125 (siteF c T lo hi (fwF c (fwO c (rdM c T lo hi a b u v n) o) o f))), (0, .cells 34 [i c, i T, i lo, i hi])], nx := (E_rf c T lo hi n a b u v o).nx }
noncomputable def out_rf (c : Nat) (T lo hi : Int) (n : Nat) (a b u v : Nat → Int) (o : Nat) (f : Nat) : AEx → Option St := fun ex => match ex with
  | .exit 10 => some { σ := ovrS [(128, i ((c : Int) + 1))] (E_rf c T lo hi n a b u v o).σ, m := [(5, .ints 133 [] 125 (siteF c T lo hi (fwF c (fwO c (rdM c T lo hi a b u v n) o) o (c + 1)))), (0, .cells 34 [i c, i T, i lo, i hi])], nx := (E_rf c T lo hi n a b u v o).nx }
  | _ => none
noncomputable def T_rf (c : Nat) (T lo hi : Int) (n : Nat) (a b u v : Nat → Int) (o : Nat) : CT := .leaf (.exit 10, ( out_rf c T lo hi n a b u v o 0 (.exit 10)).getD (E_rf c T lo hi n a b u v o))
noncomputable def LS_rf (c : Nat) (T lo hi : Int) (n : Nat) (a b u v : Nat → Int) (o : Nat) : LSpec := normSp [] (sumL (inv_rf c T lo hi n a b u v o (0)) (T_rf c T lo hi n a b u v o))
noncomputable def E_rg (c : Nat) (T lo hi : Int) (n : Nat) (a b u v : Nat → Int) (o : Nat) (f : Nat) : St := (some
  {
    σ :=
      [AV.agg
          [AV.x (Value.int IntKind.i64 (↑c : Int)), AV.x (Value.int IntKind.i64 T), AV.x (Value.int IntKind.i64 lo),
            AV.x (Value.int IntKind.i64 hi)],
        AV.lst (4 : Nat) n fun k =>
          [AV.x (Value.int IntKind.i64 (a k)), AV.x (Value.int IntKind.i64 (b k)), AV.x (Value.int IntKind.i64 (u k)),
            AV.x (Value.int IntKind.i64 (v k))],
        AV.ptr (0 : Nat) (0 : Nat), AV.top, AV.x (Value.pointer none), AV.lit false, AV.ptr (5 : Nat) (0 : Nat), AV.top,
        AV.top, AV.top, AV.mp (63 : Nat), AV.top, AV.top, AV.x (Value.int IntKind.i64 (↑o : Int)),
        AV.x (Value.int IntKind.i64 (↑f : Int)), AV.top, AV.top, AV.top, AV.top, AV.top, AV.top, AV.top,
        AV.x (Value.int IntKind.i64 ((↑c : Int) + (1 : Int))), AV.x (Value.int IntKind.i64 ((↑c : Int) + (1 : Int))),
        AV.top, AV.top, AV.top, AV.top, AV.top, AV.top, AV.top, AV.top, AV.top, AV.top, AV.top, AV.top, AV.top, AV.top,
        AV.top, AV.top, AV.top, AV.top, AV.top, AV.top, AV.top, AV.x (Value.int IntKind.i64 (↑c : Int)),
        AV.x (Value.int IntKind.i64 (↑c : Int)), AV.top, AV.top, AV.top, AV.top, AV.top, AV.top, AV.top, AV.top, AV.top,
        AV.top, AV.top, AV.top, AV.top, AV.top, AV.top, AV.top, AV.top, AV.top, AV.top, AV.top, AV.top, AV.top, AV.top,
        AV.top, AV.top, AV.top, AV.top, AV.top, AV.top, AV.top, AV.top, AV.top, AV.top, AV.top,
        AV.lst (4 : Nat) n fun k =>
          [AV.x (Value.int IntKind.i64 (a k)), AV.x (Value.int IntKind.i64 (b k)), AV.x (Value.int IntKind.i64 (u k)),
            AV.x (Value.int IntKind.i64 (v k))],
        AV.x (Value.int IntKind.i64 (↑n : Int)), AV.x (Value.int IntKind.i64 (↑n : Int)), AV.top, AV.top, AV.top,
        AV.top, AV.top, AV.top, AV.top, AV.top, AV.top, AV.top, AV.top, AV.top, AV.top, AV.top, AV.top, AV.top, AV.top,
        AV.top, AV.top, AV.top, AV.top, AV.top, AV.top, AV.top, AV.top, AV.top, AV.top, AV.top, AV.top, AV.top, AV.top,
        AV.top, AV.top, AV.top, AV.top, AV.top, AV.top, AV.x (Value.int IntKind.i64 ((↑c : Int) + (1 : Int))),
        AV.x (Value.int IntKind.i64 (↑o : Int)), AV.top, AV.top, AV.top, AV.top,
        AV.x (Value.int IntKind.i64 ((↑c : Int) + (1 : Int))), AV.x (Value.int IntKind.i64 (↑f : Int)), AV.top, AV.top,
        AV.top, AV.top, AV.x (Value.int IntKind.i64 ((↑c : Int) + (1 : Int))), AV.top, AV.top, AV.top, AV.top, AV.top,
        AV.top, AV.top, AV.top, AV.top, AV.top, AV.top, AV.top, AV.top, AV.top, AV.top, AV.top, AV.top, AV.top, AV.top,
        AV.top, AV.top, AV.top, AV.top, AV.top, AV.top, AV.top, AV.top, AV.top, AV.top, AV.top, AV.top, AV.top, AV.top,
        AV.top, AV.top, AV.top, AV.top, AV.top, AV.top, AV.top, AV.top, AV.top, AV.top, AV.top],
    m :=
      [((5 : Nat),
          Res.ints (133 : Nat) [] (125 : Nat) fun k =>
            siteF (↑c : Int) T lo hi (fwF c (fwO c (rdM c T lo hi a b u v n) o) o f) k),
        ((0 : Nat),
          Res.cells (34 : Nat)
            [AV.x (Value.int IntKind.i64 (↑c : Int)), AV.x (Value.int IntKind.i64 T), AV.x (Value.int IntKind.i64 lo),
              AV.x (Value.int IntKind.i64 hi)])],
    nx := (86 : Nat) } : Option St).getD { σ := [], m := [], nx := 0 }
noncomputable def B_rg : Code := (loopBody (loopAt (loopBody (loopAt (loopBody (loopAt (bodyOf Try.f67) 3)) 0)) 0))
noncomputable def inv_rg (c : Nat) (T lo hi : Int) (n : Nat) (a b u v : Nat → Int) (o : Nat) (f : Nat) (t : Nat) : St := { σ := ovrS [(134, i t)] (E_rg c T lo hi n a b u v o f).σ, m := [(5, .ints 133 [] 125 (siteF c T lo hi (fwT (fwF c (fwO c (rdM c T lo hi a b u v n) o) o f) o f t))), (0, .cells 34 [i c, i T, i lo, i hi])], nx := (E_rg c T lo hi n a b u v o f).nx }
noncomputable def out_rg (c : Nat) (T lo hi : Int) (n : Nat) (a b u v : Nat → Int) (o : Nat) (f : Nat) (t : Nat) : AEx → Option St := fun ex => match ex with
  | .exit 12 => some { σ := ovrS [(134, i ((c : Int) + 1))] (E_rg c T lo hi n a b u v o f).σ, m := [(5, .ints 133 [] 125 (siteF c T lo hi (fwT (fwF c (fwO c (rdM c T lo hi a b u v n) o) o f) o f (c + 1)))), (0, .cells 34 [i c, i T, i lo, i hi])], nx := (E_rg c T lo hi n a b u v o f).nx }
  | _ => none
noncomputable def T_rg (c : Nat) (T lo hi : Int) (n : Nat) (a b u v : Nat → Int) (o : Nat) (f : Nat) : CT := .leaf (.exit 12, ( out_rg c T lo hi n a b u v o f 0 (.exit 12)).getD (E_rg c T lo hi n a b u v o f))
noncomputable def LS_rg (c : Nat) (T lo hi : Int) (n : Nat) (a b u v : Nat → Int) (o : Nat) (f : Nat) : LSpec := normSp [] (sumL (inv_rg c T lo hi n a b u v o f (0)) (T_rg c T lo hi n a b u v o f))
set_option maxRecDepth 100000 in
theorem rg_ls (c : Nat) (T lo hi : Int) (n : Nat) (a b u v : Nat → Int) (o : Nat) (f : Nat) (pre0 : 1 ≤ c ∧ c ≤ 10) (pre1 : 1 ≤ lo ∧ lo ≤ hi ∧ hi ≤ 200 ∧ 1 ≤ T ∧ T ≤ 2000) (pre2 : n ≤ 1000) (pre3 : allI (fun k => rdB c (a k) (b k) (u k) (v k)) n = true) (pre4 : o ≤ c) (pre5 : f ≤ c) : LSound Try.prog (.loop B_rg) (LS_rg c T lo hi n a b u v o f) := by
  refine loop_roundsX [] (E := { R := [], H := [(94, H_bound)] }) (G := [(71, S_least)]) (L := []) (SoundG.cons least_ok (SoundG.nil _)) (SoundX.of (SoundRL.nil _) (SoundHL.cons bound_okH (SoundHL.nil _))) mixed noLoops (X := Nat) (inv_rg c T lo hi n a b u v o f) (fun t => t ≤ c + 1) (fun t => c + 1 - t) (out_rg c T lo hi n a b u v o f) (x0 := 0) (by simp) ?_ ?_ ?_
  · rintro t
    kernel_rfl
  · rintro t y E h
    unfold out_rg at h
    split at h
    · cases h; kernel_rfl
    · cases h
  · rintro Q hQ t hx
    refine ⟨(t + 1), ?_⟩
    have e : roundX Try.prog [(71, S_least)] { R := [], H := [(94, H_bound)] } [] [] B_rg (inv_rg c T lo hi n a b u v o f t) (inv_rg c T lo hi n a b u v o f ((t + 1))) (out_rg c T lo hi n a b u v o f t) = (Tree.branch (decide ((↑t : Int) < (↑c : Int) + (1 : Int))) (Tree.need [(0 : Int) ≤ (↑f : Int) ∧ (↑f : Int) < (↑(11 : Nat) : Int)] (Tree.need [(0 : Int) ≤ (↑o : Int) ∧ (↑o : Int) < (↑(11 : Nat) : Int)] (Tree.need [o * 1 + (f * 11 + 4) < 125] (Tree.need [(0 : Int) ≤ (↑o : Int) ∧ (↑o : Int) < (↑(11 : Nat) : Int)] (Tree.need [(0 : Int) ≤ (↑t : Int) ∧ (↑t : Int) < (↑(11 : Nat) : Int)] (Tree.need [t * 1 + (o * 11 + 4) < 125] (Tree.need [inI64 (siteF (↑c : Int) T lo hi (fwT (fwF c (fwO c (rdM c T lo hi a b u v n) o) o f) o f t) (o * 1 + (f * 11 + 4)) + siteF (↑c : Int) T lo hi (fwT (fwF c (fwO c (rdM c T lo hi a b u v n) o) o f) o f t) (t * 1 + (o * 11 + 4)))] (Tree.need [(0 : Int) ≤ (↑f : Int) ∧ (↑f : Int) < (↑(11 : Nat) : Int)] (Tree.need [(0 : Int) ≤ (↑t : Int) ∧ (↑t : Int) < (↑(11 : Nat) : Int)] (Tree.need [t * 1 + (f * 11 + 4) < 125] (Tree.need [(0 : Int) ≤ (↑f : Int) ∧ (↑f : Int) < (↑(11 : Nat) : Int)] (Tree.need [(0 : Int) ≤ (↑t : Int) ∧ (↑t : Int) < (↑(11 : Nat) : Int)] (Tree.need [t * 1 + (f * 11 + 4) + List.length [min (siteF (↑c : Int) T lo hi (fwT (fwF c (fwO c (rdM c T lo hi a b u v n) o) o f) o f t) (t * 1 + (f * 11 + 4))) (siteF (↑c : Int) T lo hi (fwT (fwF c (fwO c (rdM c T lo hi a b u v n) o) o f) o f t) (o * 1 + (f * 11 + 4)) + siteF (↑c : Int) T lo hi (fwT (fwF c (fwO c (rdM c T lo hi a b u v n) o) o f) o f t) (t * 1 + (o * 11 + 4)))] ≤ 125] (Tree.need [inI64 ((↑t : Int) + (1 : Int))] (Tree.need [AV.agg [iI (↑c : Int), iI T, iI lo, iI hi] = AV.agg [iI (↑c : Int), iI T, iI lo, iI hi], (AV.lst 4 n fun k => [iI (a k), iI (b k), iI (u k), iI (v k)]) = AV.lst 4 n fun k => [iI (a k), iI (b k), iI (u k), iI (v k)], AV.ptr 0 0 = AV.ptr 0 0, AV.x (Value.pointer none) = AV.x (Value.pointer none), AV.lit false = AV.lit false, AV.ptr 5 0 = AV.ptr 5 0, AV.mp 63 = AV.mp 63, (↑o : Int) = (↑o : Int), (↑f : Int) = (↑f : Int), (↑c : Int) + (1 : Int) = (↑c : Int) + (1 : Int), (↑c : Int) + (1 : Int) = (↑c : Int) + (1 : Int), (↑c : Int) = (↑c : Int), (↑c : Int) = (↑c : Int), (AV.lst 4 n fun k => [iI (a k), iI (b k), iI (u k), iI (v k)]) = AV.lst 4 n fun k => [iI (a k), iI (b k), iI (u k), iI (v k)], (↑n : Int) = (↑n : Int), (↑n : Int) = (↑n : Int), (↑c : Int) + (1 : Int) = (↑c : Int) + (1 : Int), (↑o : Int) = (↑o : Int), (↑c : Int) + (1 : Int) = (↑c : Int) + (1 : Int), (↑f : Int) = (↑f : Int), (↑c : Int) + (1 : Int) = (↑c : Int) + (1 : Int), (↑t : Int) + (1 : Int) = (↑(t + 1) : Int), 125 = 125, ∀ (k : Nat), k < 125 → updI (t * 1 + (f * 11 + 4)) (min (siteF (↑c : Int) T lo hi (fwT (fwF c (fwO c (rdM c T lo hi a b u v n) o) o f) o f t) (t * 1 + (f * 11 + 4))) (siteF (↑c : Int) T lo hi (fwT (fwF c (fwO c (rdM c T lo hi a b u v n) o) o f) o f t) (o * 1 + (f * 11 + 4)) + siteF (↑c : Int) T lo hi (fwT (fwF c (fwO c (rdM c T lo hi a b u v n) o) o f) o f t) (t * 1 + (o * 11 + 4)))) (siteF (↑c : Int) T lo hi (fwT (fwF c (fwO c (rdM c T lo hi a b u v n) o) o f) o f t)) k = siteF (↑c : Int) T lo hi (fwT (fwF c (fwO c (rdM c T lo hi a b u v n) o) o f) o f (t + 1)) k, (↑c : Int) = (↑c : Int), T = T, lo = lo, hi = hi] (Tree.leaf AEx.normal)))))))))))))))) (Tree.need [AV.agg [iI (↑c : Int), iI T, iI lo, iI hi] = AV.agg [iI (↑c : Int), iI T, iI lo, iI hi], (AV.lst 4 n fun k => [iI (a k), iI (b k), iI (u k), iI (v k)]) = AV.lst 4 n fun k => [iI (a k), iI (b k), iI (u k), iI (v k)], AV.ptr 0 0 = AV.ptr 0 0, AV.x (Value.pointer none) = AV.x (Value.pointer none), AV.lit false = AV.lit false, AV.ptr 5 0 = AV.ptr 5 0, AV.mp 63 = AV.mp 63, (↑o : Int) = (↑o : Int), (↑f : Int) = (↑f : Int), (↑c : Int) + (1 : Int) = (↑c : Int) + (1 : Int), (↑c : Int) + (1 : Int) = (↑c : Int) + (1 : Int), (↑c : Int) = (↑c : Int), (↑c : Int) = (↑c : Int), (AV.lst 4 n fun k => [iI (a k), iI (b k), iI (u k), iI (v k)]) = AV.lst 4 n fun k => [iI (a k), iI (b k), iI (u k), iI (v k)], (↑n : Int) = (↑n : Int), (↑n : Int) = (↑n : Int), (↑c : Int) + (1 : Int) = (↑c : Int) + (1 : Int), (↑o : Int) = (↑o : Int), (↑c : Int) + (1 : Int) = (↑c : Int) + (1 : Int), (↑f : Int) = (↑f : Int), (↑c : Int) + (1 : Int) = (↑c : Int) + (1 : Int), (↑t : Int) = (↑c : Int) + (1 : Int), 125 = 125, ∀ (k : Nat), k < 125 → siteF (↑c : Int) T lo hi (fwT (fwF c (fwO c (rdM c T lo hi a b u v n) o) o f) o f t) k = siteF (↑c : Int) T lo hi (fwT (fwF c (fwO c (rdM c T lo hi a b u v n) o) o f) o f (c + 1)) k, (↑c : Int) = (↑c : Int), T = T, lo = lo, hi = hi] (Tree.leaf (AEx.exit 12)))) := by kernel_rfl
    rw [e]
    simp only [T_rg, out_rg, Tree.sat, Option.getD_some] at hQ
    simp only [Tree.sat, allP, fitP, fitL, valEq, inI64, true_and, and_true, decide_eq_true_eq, decide_eq_false_iff_not, Int.natCast_zero, Int.toNat_natCast, bne_iff_ne, ne_eq, bne_eq_false_iff_eq, List.length_cons, List.length_nil, updL_one, out_rg]
    clear e
    
    have hv : ∀ j, j < n → 0 ≤ u j ∧ u j ≤ v j ∧ v j ≤ 2000 := by
      intro j hj
      have := allI_iff.1 pre3 j hj
      simp only [rdB, Bool.and_eq_true, bt_iff, insB_iff] at this
      omega
    have hl := fun x y => fw_in (c := c) (rdM_lb (c := c) (a := a) (b := b) pre1 hv n (Nat.le_refl _)) (o := o) (f := f) (t := t) (by omega) x y
    have hfo := hl f o
    have hot := hl o t
    refine ⟨fun h => ?_, fun h => ?_⟩
    · have h1 : ∀ M, siteF c T lo hi M (o * 1 + (f * 11 + 4)) = M f o := fun M => site_get _ _ _ _ _ (by omega) (by omega)
      have h2 : ∀ M, siteF c T lo hi M (t * 1 + (o * 11 + 4)) = M o t := fun M => site_get _ _ _ _ _ (by omega) (by omega)
      have h3 : ∀ M v, updI (t * 1 + (f * 11 + 4)) (min (siteF c T lo hi M (t * 1 + (f * 11 + 4))) v) (siteF c T lo hi M) = siteF c T lo hi (bnd M f t v) := fun M v => bnd_set (by omega) (by omega)
      simp only [h3]
      simp only [h1, h2]
      (repeat' first | with_reducible apply And.intro | with_reducible intro _)
      all_goals first | exact True.intro | omega | with_reducible rfl | (rename_i E hE; cases hE; exact hQ) | rfl
    · obtain rfl : t = c + 1 := by omega
      (repeat' first | with_reducible apply And.intro | with_reducible intro _)
      all_goals first | exact True.intro | omega | with_reducible rfl | (rename_i E hE; cases hE; exact hQ) | rfl

set_option maxRecDepth 100000 in
theorem rf_ls (c : Nat) (T lo hi : Int) (n : Nat) (a b u v : Nat → Int) (o : Nat) (pre0 : 1 ≤ c ∧ c ≤ 10) (pre1 : 1 ≤ lo ∧ lo ≤ hi ∧ hi ≤ 200 ∧ 1 ≤ T ∧ T ≤ 2000) (pre2 : n ≤ 1000) (pre3 : allI (fun k => rdB c (a k) (b k) (u k) (v k)) n = true) (pre4 : o ≤ c) : LSound Try.prog (.loop B_rf) (LS_rf c T lo hi n a b u v o) := by
  refine loop_roundsX [] (E := { R := [], H := [(94, H_bound)] }) (G := [(71, S_least)]) (L := [depSp 14 (fun k => needSp [k ≤ c] (LS_rg c T lo hi n a b u v o k))]) (SoundG.cons least_ok (SoundG.nil _)) (SoundX.of (SoundRL.nil _) (SoundHL.cons bound_okH (SoundHL.nil _))) mixed (one_loop (fun cj hcj => by
    have e : loopAt B_rf 0 = some (.loop B_rg) := by kernel_rfl
    rw [e] at hcj; cases hcj
    exact depSp_sound (fun k => needSp_sound (fun h => rg_ls c T lo hi n a b u v o k pre0 pre1 pre2 pre3 pre4 h)))) (X := Nat) (inv_rf c T lo hi n a b u v o) (fun f => f ≤ c + 1) (fun f => c + 1 - f) (out_rf c T lo hi n a b u v o) (x0 := 0) (by simp) ?_ ?_ ?_
  · rintro f
    kernel_rfl
  · rintro f y E h
    unfold out_rf at h
    split at h
    · cases h; kernel_rfl
    · cases h
  · rintro Q hQ f hx
    refine ⟨(f + 1), ?_⟩
    have e : roundX Try.prog [(71, S_least)] { R := [], H := [(94, H_bound)] } [depSp 14 (fun k => needSp [k ≤ c] (LS_rg c T lo hi n a b u v o k))] [] B_rf (inv_rf c T lo hi n a b u v o f) (inv_rf c T lo hi n a b u v o ((f + 1))) (out_rf c T lo hi n a b u v o f) = (Tree.branch (decide ((↑f : Int) < (↑c : Int) + (1 : Int))) (Tree.need [inI64 ((↑c : Int) + (1 : Int))] (Tree.need [f ≤ c] (Tree.need [AV.agg [iI (↑c : Int), iI T, iI lo, iI hi] = AV.agg [iI (↑c : Int), iI T, iI lo, iI hi], (AV.lst 4 n fun k => [iI (a k), iI (b k), iI (u k), iI (v k)]) = AV.lst 4 n fun k => [iI (a k), iI (b k), iI (u k), iI (v k)], AV.ptr 0 0 = AV.ptr 0 0, AV.x (Value.pointer none) = AV.x (Value.pointer none), AV.lit false = AV.lit false, AV.ptr 5 0 = AV.ptr 5 0, AV.mp 63 = AV.mp 63, (↑o : Int) = (↑o : Int), (↑f : Int) = (↑f : Int), (↑c : Int) + (1 : Int) = (↑c : Int) + (1 : Int), (↑c : Int) + (1 : Int) = (↑c : Int) + (1 : Int), (↑c : Int) = (↑c : Int), (↑c : Int) = (↑c : Int), (AV.lst 4 n fun k => [iI (a k), iI (b k), iI (u k), iI (v k)]) = AV.lst 4 n fun k => [iI (a k), iI (b k), iI (u k), iI (v k)], (↑n : Int) = (↑n : Int), (↑n : Int) = (↑n : Int), (↑c : Int) + (1 : Int) = (↑c : Int) + (1 : Int), (↑o : Int) = (↑o : Int), (↑c : Int) + (1 : Int) = (↑c : Int) + (1 : Int), (↑f : Int) = (↑f : Int), (↑c : Int) + (1 : Int) = (↑c : Int) + (1 : Int), (0 : Int) = (↑(0 : Nat) : Int), 125 = 125, ∀ (k : Nat), k < 125 → siteF (↑c : Int) T lo hi (fwF c (fwO c (rdM c T lo hi a b u v n) o) o f) k = siteF (↑c : Int) T lo hi (fwT (fwF c (fwO c (rdM c T lo hi a b u v n) o) o f) o f 0) k, (↑c : Int) = (↑c : Int), T = T, lo = lo, hi = hi] (Tree.need [inI64 ((↑f : Int) + (1 : Int))] (Tree.need [AV.agg [iI (↑c : Int), iI T, iI lo, iI hi] = AV.agg [iI (↑c : Int), iI T, iI lo, iI hi], (AV.lst 4 n fun k => [iI (a k), iI (b k), iI (u k), iI (v k)]) = AV.lst 4 n fun k => [iI (a k), iI (b k), iI (u k), iI (v k)], AV.ptr 0 0 = AV.ptr 0 0, AV.x (Value.pointer none) = AV.x (Value.pointer none), AV.lit false = AV.lit false, AV.ptr 5 0 = AV.ptr 5 0, AV.mp 63 = AV.mp 63, (↑o : Int) = (↑o : Int), (↑c : Int) + (1 : Int) = (↑c : Int) + (1 : Int), (↑c : Int) + (1 : Int) = (↑c : Int) + (1 : Int), (↑c : Int) = (↑c : Int), (↑c : Int) = (↑c : Int), (AV.lst 4 n fun k => [iI (a k), iI (b k), iI (u k), iI (v k)]) = AV.lst 4 n fun k => [iI (a k), iI (b k), iI (u k), iI (v k)], (↑n : Int) = (↑n : Int), (↑n : Int) = (↑n : Int), (↑c : Int) + (1 : Int) = (↑c : Int) + (1 : Int), (↑o : Int) = (↑o : Int), (↑c : Int) + (1 : Int) = (↑c : Int) + (1 : Int), (↑f : Int) + (1 : Int) = (↑(f + 1) : Int), 125 = 125, ∀ (k : Nat), k < 125 → siteF (↑c : Int) T lo hi (fwT (fwF c (fwO c (rdM c T lo hi a b u v n) o) o f) o f (c + 1)) k = siteF (↑c : Int) T lo hi (fwF c (fwO c (rdM c T lo hi a b u v n) o) o (f + 1)) k, (↑c : Int) = (↑c : Int), T = T, lo = lo, hi = hi] (Tree.leaf AEx.normal)))))) (Tree.need [AV.agg [iI (↑c : Int), iI T, iI lo, iI hi] = AV.agg [iI (↑c : Int), iI T, iI lo, iI hi], (AV.lst 4 n fun k => [iI (a k), iI (b k), iI (u k), iI (v k)]) = AV.lst 4 n fun k => [iI (a k), iI (b k), iI (u k), iI (v k)], AV.ptr 0 0 = AV.ptr 0 0, AV.x (Value.pointer none) = AV.x (Value.pointer none), AV.lit false = AV.lit false, AV.ptr 5 0 = AV.ptr 5 0, AV.mp 63 = AV.mp 63, (↑o : Int) = (↑o : Int), (↑c : Int) + (1 : Int) = (↑c : Int) + (1 : Int), (↑c : Int) + (1 : Int) = (↑c : Int) + (1 : Int), (↑c : Int) = (↑c : Int), (↑c : Int) = (↑c : Int), (AV.lst 4 n fun k => [iI (a k), iI (b k), iI (u k), iI (v k)]) = AV.lst 4 n fun k => [iI (a k), iI (b k), iI (u k), iI (v k)], (↑n : Int) = (↑n : Int), (↑n : Int) = (↑n : Int), (↑c : Int) + (1 : Int) = (↑c : Int) + (1 : Int), (↑o : Int) = (↑o : Int), (↑c : Int) + (1 : Int) = (↑c : Int) + (1 : Int), (↑f : Int) = (↑c : Int) + (1 : Int), 125 = 125, ∀ (k : Nat), k < 125 → siteF (↑c : Int) T lo hi (fwF c (fwO c (rdM c T lo hi a b u v n) o) o f) k = siteF (↑c : Int) T lo hi (fwF c (fwO c (rdM c T lo hi a b u v n) o) o (c + 1)) k, (↑c : Int) = (↑c : Int), T = T, lo = lo, hi = hi] (Tree.leaf (AEx.exit 10)))) := by kernel_rfl
    rw [e]
    simp only [T_rf, out_rf, Tree.sat, Option.getD_some] at hQ
    simp only [Tree.sat, allP, fitP, fitL, valEq, inI64, true_and, and_true, decide_eq_true_eq, decide_eq_false_iff_not, Int.natCast_zero, Int.toNat_natCast, bne_iff_ne, ne_eq, bne_eq_false_iff_eq, List.length_cons, List.length_nil, updL_one, out_rf]
    clear e
    
    refine ⟨fun h => ?_, fun h => ?_⟩
    · (repeat' first | with_reducible apply And.intro | with_reducible intro _)
      all_goals first | exact True.intro | omega | with_reducible rfl | (rename_i E hE; cases hE; exact hQ) | rfl
    · obtain rfl : f = c + 1 := by omega
      (repeat' first | with_reducible apply And.intro | with_reducible intro _)
      all_goals first | exact True.intro | omega | with_reducible rfl | (rename_i E hE; cases hE; exact hQ) | rfl

set_option maxRecDepth 100000 in
theorem re_ls (c : Nat) (T lo hi : Int) (n : Nat) (a b u v : Nat → Int) (pre0 : 1 ≤ c ∧ c ≤ 10) (pre1 : 1 ≤ lo ∧ lo ≤ hi ∧ hi ≤ 200 ∧ 1 ≤ T ∧ T ≤ 2000) (pre2 : n ≤ 1000) (pre3 : allI (fun k => rdB c (a k) (b k) (u k) (v k)) n = true) : LSound Try.prog (.loop B_re) (LS_re c T lo hi n a b u v) := by
  refine loop_roundsX [] (E := { R := [], H := [(94, H_bound)] }) (G := [(71, S_least)]) (L := [depSp 13 (fun k => needSp [k ≤ c] (LS_rf c T lo hi n a b u v k))]) (SoundG.cons least_ok (SoundG.nil _)) (SoundX.of (SoundRL.nil _) (SoundHL.cons bound_okH (SoundHL.nil _))) mixed (one_loop (fun cj hcj => by
    have e : loopAt B_re 0 = some (.loop B_rf) := by kernel_rfl
    rw [e] at hcj; cases hcj
    exact depSp_sound (fun k => needSp_sound (fun h => rf_ls c T lo hi n a b u v k pre0 pre1 pre2 pre3 h)))) (X := Nat) (inv_re c T lo hi n a b u v) (fun o => o ≤ c + 1) (fun o => c + 1 - o) (out_re c T lo hi n a b u v) (x0 := 0) (by simp) ?_ ?_ ?_
  · rintro o
    kernel_rfl
  · rintro o y E h
    unfold out_re at h
    split at h
    · cases h; kernel_rfl
    · cases h
  · rintro Q hQ o hx
    refine ⟨(o + 1), ?_⟩
    have e : roundX Try.prog [(71, S_least)] { R := [], H := [(94, H_bound)] } [depSp 13 (fun k => needSp [k ≤ c] (LS_rf c T lo hi n a b u v k))] [] B_re (inv_re c T lo hi n a b u v o) (inv_re c T lo hi n a b u v ((o + 1))) (out_re c T lo hi n a b u v o) = (Tree.branch (decide ((↑o : Int) < (↑c : Int) + (1 : Int))) (Tree.need [inI64 ((↑c : Int) + (1 : Int))] (Tree.need [o ≤ c] (Tree.need [AV.agg [iI (↑c : Int), iI T, iI lo, iI hi] = AV.agg [iI (↑c : Int), iI T, iI lo, iI hi], (AV.lst 4 n fun k => [iI (a k), iI (b k), iI (u k), iI (v k)]) = AV.lst 4 n fun k => [iI (a k), iI (b k), iI (u k), iI (v k)], AV.ptr 0 0 = AV.ptr 0 0, AV.x (Value.pointer none) = AV.x (Value.pointer none), AV.lit false = AV.lit false, AV.ptr 5 0 = AV.ptr 5 0, AV.mp 63 = AV.mp 63, (↑o : Int) = (↑o : Int), (↑c : Int) + (1 : Int) = (↑c : Int) + (1 : Int), (↑c : Int) + (1 : Int) = (↑c : Int) + (1 : Int), (↑c : Int) = (↑c : Int), (↑c : Int) = (↑c : Int), (AV.lst 4 n fun k => [iI (a k), iI (b k), iI (u k), iI (v k)]) = AV.lst 4 n fun k => [iI (a k), iI (b k), iI (u k), iI (v k)], (↑n : Int) = (↑n : Int), (↑n : Int) = (↑n : Int), (↑c : Int) + (1 : Int) = (↑c : Int) + (1 : Int), (↑o : Int) = (↑o : Int), (↑c : Int) + (1 : Int) = (↑c : Int) + (1 : Int), (0 : Int) = (↑(0 : Nat) : Int), 125 = 125, ∀ (k : Nat), k < 125 → siteF (↑c : Int) T lo hi (fwO c (rdM c T lo hi a b u v n) o) k = siteF (↑c : Int) T lo hi (fwF c (fwO c (rdM c T lo hi a b u v n) o) o 0) k, (↑c : Int) = (↑c : Int), T = T, lo = lo, hi = hi] (Tree.need [inI64 ((↑o : Int) + (1 : Int))] (Tree.need [AV.agg [iI (↑c : Int), iI T, iI lo, iI hi] = AV.agg [iI (↑c : Int), iI T, iI lo, iI hi], (AV.lst 4 n fun k => [iI (a k), iI (b k), iI (u k), iI (v k)]) = AV.lst 4 n fun k => [iI (a k), iI (b k), iI (u k), iI (v k)], AV.ptr 0 0 = AV.ptr 0 0, AV.x (Value.pointer none) = AV.x (Value.pointer none), AV.lit false = AV.lit false, AV.ptr 5 0 = AV.ptr 5 0, AV.mp 63 = AV.mp 63, (↑c : Int) + (1 : Int) = (↑c : Int) + (1 : Int), (↑c : Int) + (1 : Int) = (↑c : Int) + (1 : Int), (↑c : Int) = (↑c : Int), (↑c : Int) = (↑c : Int), (AV.lst 4 n fun k => [iI (a k), iI (b k), iI (u k), iI (v k)]) = AV.lst 4 n fun k => [iI (a k), iI (b k), iI (u k), iI (v k)], (↑n : Int) = (↑n : Int), (↑n : Int) = (↑n : Int), (↑c : Int) + (1 : Int) = (↑c : Int) + (1 : Int), (↑o : Int) + (1 : Int) = (↑(o + 1) : Int), 125 = 125, ∀ (k : Nat), k < 125 → siteF (↑c : Int) T lo hi (fwF c (fwO c (rdM c T lo hi a b u v n) o) o (c + 1)) k = siteF (↑c : Int) T lo hi (fwO c (rdM c T lo hi a b u v n) (o + 1)) k, (↑c : Int) = (↑c : Int), T = T, lo = lo, hi = hi] (Tree.leaf AEx.normal)))))) (Tree.need [AV.agg [iI (↑c : Int), iI T, iI lo, iI hi] = AV.agg [iI (↑c : Int), iI T, iI lo, iI hi], (AV.lst 4 n fun k => [iI (a k), iI (b k), iI (u k), iI (v k)]) = AV.lst 4 n fun k => [iI (a k), iI (b k), iI (u k), iI (v k)], AV.ptr 0 0 = AV.ptr 0 0, AV.x (Value.pointer none) = AV.x (Value.pointer none), AV.lit false = AV.lit false, AV.ptr 5 0 = AV.ptr 5 0, AV.mp 63 = AV.mp 63, (↑c : Int) + (1 : Int) = (↑c : Int) + (1 : Int), (↑c : Int) + (1 : Int) = (↑c : Int) + (1 : Int), (↑c : Int) = (↑c : Int), (↑c : Int) = (↑c : Int), (AV.lst 4 n fun k => [iI (a k), iI (b k), iI (u k), iI (v k)]) = AV.lst 4 n fun k => [iI (a k), iI (b k), iI (u k), iI (v k)], (↑n : Int) = (↑n : Int), (↑n : Int) = (↑n : Int), (↑c : Int) + (1 : Int) = (↑c : Int) + (1 : Int), (↑o : Int) = (↑c : Int) + (1 : Int), 125 = 125, ∀ (k : Nat), k < 125 → siteF (↑c : Int) T lo hi (fwO c (rdM c T lo hi a b u v n) o) k = siteF (↑c : Int) T lo hi (fwO c (rdM c T lo hi a b u v n) (c + 1)) k, (↑c : Int) = (↑c : Int), T = T, lo = lo, hi = hi] (Tree.leaf (AEx.exit 8)))) := by kernel_rfl
    rw [e]
    simp only [T_re, out_re, Tree.sat, Option.getD_some] at hQ
    simp only [Tree.sat, allP, fitP, fitL, valEq, inI64, true_and, and_true, decide_eq_true_eq, decide_eq_false_iff_not, Int.natCast_zero, Int.toNat_natCast, bne_iff_ne, ne_eq, bne_eq_false_iff_eq, List.length_cons, List.length_nil, updL_one, out_re]
    clear e
    
    refine ⟨fun h => ?_, fun h => ?_⟩
    · (repeat' first | with_reducible apply And.intro | with_reducible intro _)
      all_goals first | exact True.intro | omega | with_reducible rfl | (rename_i E hE; cases hE; exact hQ) | rfl
    · obtain rfl : o = c + 1 := by omega
      (repeat' first | with_reducible apply And.intro | with_reducible intro _)
      all_goals first | exact True.intro | omega | with_reducible rfl | (rename_i E hE; cases hE; exact hQ) | rfl

end Go.Proofs.Ytmdeoobmeokmeaa
/- Contracts of functions of the program, by the engine Sx: what each call comes to. Printed by a program of this repo (sxgen.py). -/
set_option linter.unusedSimpArgs false
set_option linter.unusedVariables false
namespace Go.Proofs.Ytmdeoobmeokmeaa
open Go Go.Sx Go.RowKit

/-- How much higher one mark can be than another one, at most; and whether no mark is below itself. -/
def fwM (c : Nat) (T lo hi : Int) (n : Nat) (a b u v : Nat → Int) : Nat → Nat → Int := fwO c (rdM c T lo hi a b u v n) (c + 1)
def okR (c : Nat) (T lo hi : Int) (n : Nat) (a b u v : Nat → Int) : Bool := allI (fun k => decide (0 ≤ fwM c T lo hi n a b u v k k)) (c + 1)

noncomputable def E_rh (c : Nat) (T lo hi : Int) (n : Nat) (a b u v : Nat → Int) : St := (some
  {
    σ :=
      [AV.agg
          [AV.x (Value.int IntKind.i64 (↑c : Int)), AV.x (Value.int IntKind.i64 T), AV.x (Value.int IntKind.i64 lo),
            AV.x (Value.int IntKind.i64 hi)],
        AV.lst (4 : Nat) n fun k =>
          [AV.x (Value.int IntKind.i64 (a k)), AV.x (Value.int IntKind.i64 (b k)), AV.x (Value.int IntKind.i64 (u k)),
            AV.x (Value.int IntKind.i64 (v k))],
        AV.ptr (0 : Nat) (0 : Nat), AV.top, AV.top, AV.top, AV.ptr (5 : Nat) (0 : Nat), AV.top, AV.top, AV.top,
        AV.mp (63 : Nat), AV.top, AV.top, AV.top, AV.top, AV.top, AV.top, AV.top, AV.top, AV.top, AV.top, AV.top,
        AV.x (Value.int IntKind.i64 ((↑c : Int) + (1 : Int))), AV.x (Value.int IntKind.i64 ((↑c : Int) + (1 : Int))),
        AV.top, AV.top, AV.top, AV.top, AV.top, AV.top, AV.top, AV.top, AV.top, AV.top, AV.top, AV.top, AV.top, AV.top,
        AV.top, AV.top, AV.top, AV.top, AV.top, AV.top, AV.top, AV.x (Value.int IntKind.i64 (↑c : Int)),
        AV.x (Value.int IntKind.i64 (↑c : Int)), AV.top, AV.top, AV.top, AV.top, AV.top, AV.top, AV.top, AV.top, AV.top,
        AV.top, AV.top, AV.top, AV.top, AV.top, AV.top, AV.top, AV.top, AV.top, AV.top, AV.top, AV.top, AV.top, AV.top,
        AV.top, AV.top, AV.top, AV.top, AV.top, AV.top, AV.top, AV.top, AV.top, AV.top, AV.top,
        AV.lst (4 : Nat) n fun k =>
          [AV.x (Value.int IntKind.i64 (a k)), AV.x (Value.int IntKind.i64 (b k)), AV.x (Value.int IntKind.i64 (u k)),
            AV.x (Value.int IntKind.i64 (v k))],
        AV.x (Value.int IntKind.i64 (↑n : Int)), AV.x (Value.int IntKind.i64 (↑n : Int)), AV.top, AV.top, AV.top,
        AV.top, AV.top, AV.top, AV.top, AV.top, AV.top, AV.top, AV.top, AV.top, AV.top, AV.top, AV.top, AV.top, AV.top,
        AV.top, AV.top, AV.top, AV.top, AV.top, AV.top, AV.top, AV.top, AV.top, AV.top, AV.top, AV.top, AV.top, AV.top,
        AV.top, AV.top, AV.top, AV.top, AV.top, AV.top, AV.x (Value.int IntKind.i64 ((↑c : Int) + (1 : Int))),
        AV.x (Value.int IntKind.i64 ((↑c : Int) + (1 : Int))), AV.top, AV.top, AV.top, AV.top, AV.top, AV.top, AV.top,
        AV.top, AV.top, AV.top, AV.top, AV.top, AV.top, AV.top, AV.top, AV.top, AV.top, AV.top, AV.top, AV.top, AV.top,
        AV.top, AV.top, AV.top, AV.top, AV.top, AV.top, AV.top, AV.top, AV.top, AV.top, AV.top, AV.top, AV.top, AV.top,
        AV.top, AV.top, AV.top, AV.top, AV.top, AV.x (Value.int IntKind.i64 ((↑c : Int) + (1 : Int))), AV.top, AV.top,
        AV.top, AV.top, AV.top, AV.top, AV.top, AV.top, AV.top, AV.top, AV.top, AV.top, AV.top, AV.top],
    m :=
      [((5 : Nat),
          Res.ints (133 : Nat) [] (125 : Nat) fun k =>
            siteF (↑c : Int) T lo hi (fwO c (rdM c T lo hi a b u v n) (c + (1 : Nat))) k),
        ((0 : Nat),
          Res.cells (34 : Nat)
            [AV.x (Value.int IntKind.i64 (↑c : Int)), AV.x (Value.int IntKind.i64 T), AV.x (Value.int IntKind.i64 lo),
              AV.x (Value.int IntKind.i64 hi)])],
    nx := (76 : Nat) } : Option St).getD { σ := [], m := [], nx := 0 }
noncomputable def B_rh : Code := loopBody (loopAt (bodyOf Try.f67) 4)
noncomputable def inv_rh (c : Nat) (T lo hi : Int) (n : Nat) (a b u v : Nat → Int) (k : Nat) : St := { σ := ovrS [(164, i k)] (E_rh c T lo hi n a b u v).σ, m := [(5, .ints 133 [] 125 (siteF c T lo hi (fwM c T lo hi n a b u v))), (0, .cells 34 [i c, i T, i lo, i hi])], nx := (E_rh c T lo hi n a b u v).nx }
noncomputable def out_rh (c : Nat) (T lo hi : Int) (n : Nat) (a b u v : Nat → Int) (k : Nat) : AEx → Option St := fun ex => match ex with
  | .ret => some { σ := ovrS [(4, .x (.pointer none)), (5, .lit false), (164, .top)] (E_rh c T lo hi n a b u v).σ, m := [(5, .ints 133 [] 125 (siteF c T lo hi (fwM c T lo hi n a b u v))), (0, .cells 34 [i c, i T, i lo, i hi])], nx := (E_rh c T lo hi n a b u v).nx }
  | .exit 14 => some { σ := ovrS [(164, .top)] (E_rh c T lo hi n a b u v).σ, m := [(5, .ints 133 [] 125 (siteF c T lo hi (fwM c T lo hi n a b u v))), (0, .cells 34 [i c, i T, i lo, i hi])], nx := (E_rh c T lo hi n a b u v).nx }
  | _ => none
noncomputable def T_rh (c : Nat) (T lo hi : Int) (n : Nat) (a b u v : Nat → Int) : CT := .branch (okR c T lo hi n a b u v) (.leaf (.exit 14, ( out_rh c T lo hi n a b u v 0 (.exit 14)).getD (E_rh c T lo hi n a b u v))) (.leaf (.ret, ( out_rh c T lo hi n a b u v 0 .ret).getD (E_rh c T lo hi n a b u v)))
noncomputable def LS_rh (c : Nat) (T lo hi : Int) (n : Nat) (a b u v : Nat → Int) : LSpec := normSp [] (sumL (inv_rh c T lo hi n a b u v (0)) (T_rh c T lo hi n a b u v))
set_option maxRecDepth 100000 in
theorem rh_ls (c : Nat) (T lo hi : Int) (n : Nat) (a b u v : Nat → Int) (pre0 : 1 ≤ c ∧ c ≤ 10) (pre1 : 1 ≤ lo ∧ lo ≤ hi ∧ hi ≤ 200 ∧ 1 ≤ T ∧ T ≤ 2000) (pre2 : n ≤ 1000) (pre3 : allI (fun k => rdB c (a k) (b k) (u k) (v k)) n = true) : LSound Try.prog (.loop B_rh) (LS_rh c T lo hi n a b u v) := by
  refine loop_roundsX [] (E := { R := [], H := [(94, H_bound)] }) (G := [(71, S_least)]) (L := []) (SoundG.cons least_ok (SoundG.nil _)) (SoundX.of (SoundRL.nil _) (SoundHL.cons bound_okH (SoundHL.nil _))) mixed noLoops (X := Nat) (inv_rh c T lo hi n a b u v) (fun k => k ≤ c + 1 ∧ ∀ j, j < k → 0 ≤ fwM c T lo hi n a b u v j j) (fun k => c + 1 - k) (out_rh c T lo hi n a b u v) (x0 := 0) (by simp) ?_ ?_ ?_
  · rintro k
    kernel_rfl
  · rintro k y E h
    unfold out_rh at h
    split at h
    · cases h; kernel_rfl
    · cases h; kernel_rfl
    · cases h
  · rintro Q hQ k hx
    refine ⟨(k + 1), ?_⟩
    have e : roundX Try.prog [(71, S_least)] { R := [], H := [(94, H_bound)] } [] [] B_rh (inv_rh c T lo hi n a b u v k) (inv_rh c T lo hi n a b u v ((k + 1))) (out_rh c T lo hi n a b u v k) = (Tree.branch (decide ((↑k : Int) < (↑c : Int) + (1 : Int))) (Tree.need [(0 : Int) ≤ (↑k : Int) ∧ (↑k : Int) < (↑(11 : Nat) : Int)] (Tree.need [(0 : Int) ≤ (↑k : Int) ∧ (↑k : Int) < (↑(11 : Nat) : Int)] (Tree.need [k * 1 + (k * 11 + 4) < 125] (Tree.branch (decide (siteF (↑c : Int) T lo hi (fwM c T lo hi n a b u v) (k * 1 + (k * 11 + 4)) < (0 : Int))) (Tree.need [AV.agg [iI (↑c : Int), iI T, iI lo, iI hi] = AV.agg [iI (↑c : Int), iI T, iI lo, iI hi], (AV.lst 4 n fun k => [iI (a k), iI (b k), iI (u k), iI (v k)]) = AV.lst 4 n fun k => [iI (a k), iI (b k), iI (u k), iI (v k)], AV.ptr 0 0 = AV.ptr 0 0, AV.x (Value.pointer none) = AV.x (Value.pointer none), AV.lit false = AV.lit false, AV.ptr 5 0 = AV.ptr 5 0, AV.mp 63 = AV.mp 63, (↑c : Int) + (1 : Int) = (↑c : Int) + (1 : Int), (↑c : Int) + (1 : Int) = (↑c : Int) + (1 : Int), (↑c : Int) = (↑c : Int), (↑c : Int) = (↑c : Int), (AV.lst 4 n fun k => [iI (a k), iI (b k), iI (u k), iI (v k)]) = AV.lst 4 n fun k => [iI (a k), iI (b k), iI (u k), iI (v k)], (↑n : Int) = (↑n : Int), (↑n : Int) = (↑n : Int), (↑c : Int) + (1 : Int) = (↑c : Int) + (1 : Int), (↑c : Int) + (1 : Int) = (↑c : Int) + (1 : Int), (↑c : Int) + (1 : Int) = (↑c : Int) + (1 : Int), 125 = 125, ∀ (k : Nat), k < 125 → siteF (↑c : Int) T lo hi (fwM c T lo hi n a b u v) k = siteF (↑c : Int) T lo hi (fwM c T lo hi n a b u v) k, (↑c : Int) = (↑c : Int), T = T, lo = lo, hi = hi] (Tree.leaf AEx.ret)) (Tree.need [inI64 ((↑k : Int) + (1 : Int))] (Tree.need [AV.agg [iI (↑c : Int), iI T, iI lo, iI hi] = AV.agg [iI (↑c : Int), iI T, iI lo, iI hi], (AV.lst 4 n fun k => [iI (a k), iI (b k), iI (u k), iI (v k)]) = AV.lst 4 n fun k => [iI (a k), iI (b k), iI (u k), iI (v k)], AV.ptr 0 0 = AV.ptr 0 0, AV.ptr 5 0 = AV.ptr 5 0, AV.mp 63 = AV.mp 63, (↑c : Int) + (1 : Int) = (↑c : Int) + (1 : Int), (↑c : Int) + (1 : Int) = (↑c : Int) + (1 : Int), (↑c : Int) = (↑c : Int), (↑c : Int) = (↑c : Int), (AV.lst 4 n fun k => [iI (a k), iI (b k), iI (u k), iI (v k)]) = AV.lst 4 n fun k => [iI (a k), iI (b k), iI (u k), iI (v k)], (↑n : Int) = (↑n : Int), (↑n : Int) = (↑n : Int), (↑c : Int) + (1 : Int) = (↑c : Int) + (1 : Int), (↑c : Int) + (1 : Int) = (↑c : Int) + (1 : Int), (↑c : Int) + (1 : Int) = (↑c : Int) + (1 : Int), (↑k : Int) + (1 : Int) = (↑(k + 1) : Int), 125 = 125, ∀ (k : Nat), k < 125 → siteF (↑c : Int) T lo hi (fwM c T lo hi n a b u v) k = siteF (↑c : Int) T lo hi (fwM c T lo hi n a b u v) k, (↑c : Int) = (↑c : Int), T = T, lo = lo, hi = hi] (Tree.leaf AEx.normal))))))) (Tree.need [AV.agg [iI (↑c : Int), iI T, iI lo, iI hi] = AV.agg [iI (↑c : Int), iI T, iI lo, iI hi], (AV.lst 4 n fun k => [iI (a k), iI (b k), iI (u k), iI (v k)]) = AV.lst 4 n fun k => [iI (a k), iI (b k), iI (u k), iI (v k)], AV.ptr 0 0 = AV.ptr 0 0, AV.ptr 5 0 = AV.ptr 5 0, AV.mp 63 = AV.mp 63, (↑c : Int) + (1 : Int) = (↑c : Int) + (1 : Int), (↑c : Int) + (1 : Int) = (↑c : Int) + (1 : Int), (↑c : Int) = (↑c : Int), (↑c : Int) = (↑c : Int), (AV.lst 4 n fun k => [iI (a k), iI (b k), iI (u k), iI (v k)]) = AV.lst 4 n fun k => [iI (a k), iI (b k), iI (u k), iI (v k)], (↑n : Int) = (↑n : Int), (↑n : Int) = (↑n : Int), (↑c : Int) + (1 : Int) = (↑c : Int) + (1 : Int), (↑c : Int) + (1 : Int) = (↑c : Int) + (1 : Int), (↑c : Int) + (1 : Int) = (↑c : Int) + (1 : Int), 125 = 125, ∀ (k : Nat), k < 125 → siteF (↑c : Int) T lo hi (fwM c T lo hi n a b u v) k = siteF (↑c : Int) T lo hi (fwM c T lo hi n a b u v) k, (↑c : Int) = (↑c : Int), T = T, lo = lo, hi = hi] (Tree.leaf (AEx.exit 14)))) := by kernel_rfl
    rw [e]
    simp only [T_rh, out_rh, Tree.sat, Option.getD_some] at hQ
    simp only [Tree.sat, allP, fitP, fitL, valEq, inI64, true_and, and_true, decide_eq_true_eq, decide_eq_false_iff_not, Int.natCast_zero, Int.toNat_natCast, bne_iff_ne, ne_eq, bne_eq_false_iff_eq, List.length_cons, List.length_nil, updL_one, out_rh]
    clear e
    
    have h1 : siteF c T lo hi (fwM c T lo hi n a b u v) (k * 1 + (k * 11 + 4)) = fwM c T lo hi n a b u v k k ∨ 11 ≤ k := by
      rcases Nat.lt_or_ge k 11 with h | h
      · exact .inl (site_get _ _ _ _ _ (by omega) h)
      · exact .inr h
    refine ⟨fun h => ?_, fun h => ?_⟩
    · have h2 := h1.resolve_right (by omega)
      rw [h2]
      refine ⟨by omega, by omega, by omega, fun hneg => ?_, fun hpos => ?_⟩
      · have hno : okR c T lo hi n a b u v = false := by
          cases ho : okR c T lo hi n a b u v
          · rfl
          · have := allI_iff.1 ho k (by omega)
            simp at this
            omega
        (repeat' first | with_reducible apply And.intro | with_reducible intro _)
        all_goals first | exact True.intro | omega | with_reducible rfl | (rename_i E hE; cases hE; exact hQ) | rfl | (rename_i E hE; cases hE; exact hQ.2 hno)
      · (repeat' first | with_reducible apply And.intro | with_reducible intro _)
        all_goals first | exact True.intro | omega | with_reducible rfl | (rename_i E hE; cases hE; exact hQ) | rfl | (rename_i j hj; rcases (show j < k ∨ j = k by omega) with h3 | h3; exact hx.2 j h3; subst h3; omega)
    · obtain ⟨hx1, hx2⟩ := hx
      obtain rfl : k = c + 1 := by omega
      have hyes : okR c T lo hi n a b u v = true := allI_iff.2 (fun j hj => by simpa using hx2 j hj)
      (repeat' first | with_reducible apply And.intro | with_reducible intro _)
      all_goals first | exact True.intro | omega | with_reducible rfl | (rename_i E hE; cases hE; exact hQ) | rfl | (rename_i E hE; cases hE; exact hQ.1 hyes)


theorem five_loops {S : Code → LSpec → Prop} {c : Code} {s0 s1 s2 s3 s4 : LSpec} (h0 : ∀ cj, loopAt c 0 = some cj → S cj s0) (h1 : ∀ cj, loopAt c 1 = some cj → S cj s1) (h2 : ∀ cj, loopAt c 2 = some cj → S cj s2) (h3 : ∀ cj, loopAt c 3 = some cj → S cj s3) (h4 : ∀ cj, loopAt c 4 = some cj → S cj s4) :
    ∀ j cj, loopAt c j = some cj → ∀ sp, [s0, s1, s2, s3, s4][j]? = some sp → S cj sp := by
  intro j cj hj sp hsp
  match j with
  | 0 => simp at hsp; subst hsp; exact h0 cj hj
  | 1 => simp at hsp; subst hsp; exact h1 cj hj
  | 2 => simp at hsp; subst hsp; exact h2 cj hj
  | 3 => simp at hsp; subst hsp; exact h3 cj hj
  | 4 => simp at hsp; subst hsp; exact h4 cj hj
  | j + 5 => simp at hsp
theorem SoundCAt.same {P : Program} {f : FuncId} {avs avs' : List AV} {t : Tree AV} (h : SoundCAt P f avs' t) (k : Sames avs avs') : SoundCAt P f avs t := fun Q hQ e w args hro hidf hr => h Q hQ e w args hro (k.idf hidf) (k.rep hr)


abbrev siteA (c : Nat) (T lo hi : Int) (n : Nat) (a b u v : Nat → Int) : AV := .roI [] 125 (siteF c T lo hi (fwM c T lo hi n a b u v)) 0
abbrev nilP : AV := .x (.pointer none)

set_option maxRecDepth 100000 in
theorem read_at (c : Nat) (T lo hi : Int) (n : Nat) (a b u v : Nat → Int) (pre0 : 1 ≤ c ∧ c ≤ 10) (pre1 : 1 ≤ lo ∧ lo ≤ hi ∧ hi ≤ 200 ∧ 1 ≤ T ∧ T ≤ 2000) (pre2 : n ≤ 1000) (pre3 : allI (fun k => rdB c (a k) (b k) (u k) (v k)) n = true) : SoundCAt Try.prog 67 [.agg [i c, i T, i lo, i hi], rds n a b u v] (.branch (okR c T lo hi n a b u v) (.leaf (.tup [siteA c T lo hi n a b u v, .lit true])) (.leaf (.tup [nilP, .lit false]))) := by
  refine soundCAt_fin (G := [(71, S_least)]) (X := { R := [], H := [(94, H_bound)] }) (L := [LS_ra c T lo hi n a b u v, LS_rc c T lo hi n a b u v, LS_rd c T lo hi n a b u v, LS_re c T lo hi n a b u v, LS_rh c T lo hi n a b u v]) (SoundG.cons least_ok (SoundG.nil _)) (SoundX.of (SoundRL.nil _) (SoundHL.cons bound_okH (SoundHL.nil _))) mixed Try.func67 (show Try.f67.body = some (bodyOf Try.f67) by kernel_rfl) (five_loops (fun cj hcj => by
    have e : loopAt (bodyOf Try.f67) 0 = some (.loop B_ra) := by kernel_rfl
    rw [e] at hcj; cases hcj
    exact (ra_ls c T lo hi n a b u v pre0 pre1).N) (fun cj hcj => by
    have e : loopAt (bodyOf Try.f67) 1 = some (.loop B_rc) := by kernel_rfl
    rw [e] at hcj; cases hcj
    exact (rc_ls c T lo hi n a b u v pre0 pre1).N) (fun cj hcj => by
    have e : loopAt (bodyOf Try.f67) 2 = some (.loop B_rd) := by kernel_rfl
    rw [e] at hcj; cases hcj
    exact (rd_ls c T lo hi n a b u v pre0 pre1 pre2 pre3).N) (fun cj hcj => by
    have e : loopAt (bodyOf Try.f67) 3 = some (.loop B_re) := by kernel_rfl
    rw [e] at hcj; cases hcj
    exact (re_ls c T lo hi n a b u v pre0 pre1 pre2 pre3).N) (fun cj hcj => by
    have e : loopAt (bodyOf Try.f67) 4 = some (.loop B_rh) := by kernel_rfl
    rw [e] at hcj; cases hcj
    exact (rh_ls c T lo hi n a b u v pre0 pre1 pre2 pre3).N)) (t := (Tree.need [inI64 ((↑c : Int) + (1 : Int))] (Tree.need [AV.agg [iI (↑c : Int), iI T, iI lo, iI hi] = AV.agg [iI (↑c : Int), iI T, iI lo, iI hi], (AV.lst 4 n fun k => [iI (a k), iI (b k), iI (u k), iI (v k)]) = AV.lst 4 n fun k => [iI (a k), iI (b k), iI (u k), iI (v k)], AV.ptr 0 0 = AV.ptr 0 0, AV.x (Value.pointer none) = AV.x (Value.pointer none), AV.lit false = AV.lit false, AV.ptr 5 0 = AV.ptr 5 0, (↑c : Int) + (1 : Int) = (↑c : Int) + (1 : Int), (0 : Int) = (↑(0 : Nat) : Int), List.length [(↑c : Int), T, lo, hi, (0 : Int), (0 : Int), (0 : Int), (0 : Int), (0 : Int), (0 : Int), (0 : Int), (0 : Int), (0 : Int), (0 : Int), (0 : Int), (0 : Int), (0 : Int), (0 : Int), (0 : Int), (0 : Int), (0 : Int), (0 : Int), (0 : Int), (0 : Int), (0 : Int), (0 : Int), (0 : Int), (0 : Int), (0 : Int), (0 : Int), (0 : Int), (0 : Int), (0 : Int), (0 : Int), (0 : Int), (0 : Int), (0 : Int), (0 : Int), (0 : Int), (0 : Int), (0 : Int), (0 : Int), (0 : Int), (0 : Int), (0 : Int), (0 : Int), (0 : Int), (0 : Int), (0 : Int), (0 : Int), (0 : Int), (0 : Int), (0 : Int), (0 : Int), (0 : Int), (0 : Int), (0 : Int), (0 : Int), (0 : Int), (0 : Int), (0 : Int), (0 : Int), (0 : Int), (0 : Int), (0 : Int), (0 : Int), (0 : Int), (0 : Int), (0 : Int), (0 : Int), (0 : Int), (0 : Int), (0 : Int), (0 : Int), (0 : Int), (0 : Int), (0 : Int), (0 : Int), (0 : Int), (0 : Int), (0 : Int), (0 : Int), (0 : Int), (0 : Int), (0 : Int), (0 : Int), (0 : Int), (0 : Int), (0 : Int), (0 : Int), (0 : Int), (0 : Int), (0 : Int), (0 : Int), (0 : Int), (0 : Int), (0 : Int), (0 : Int), (0 : Int), (0 : Int), (0 : Int), (0 : Int), (0 : Int), (0 : Int), (0 : Int), (0 : Int), (0 : Int), (0 : Int), (0 : Int), (0 : Int), (0 : Int), (0 : Int), (0 : Int), (0 : Int), (0 : Int), (0 : Int), (0 : Int), (0 : Int), (0 : Int), (0 : Int), (0 : Int), (0 : Int), (0 : Int), (0 : Int), (0 : Int)] = 125, ∀ (k : Nat), k < 125 → nthJ [(↑c : Int), T, lo, hi, (0 : Int), (0 : Int), (0 : Int), (0 : Int), (0 : Int), (0 : Int), (0 : Int), (0 : Int), (0 : Int), (0 : Int), (0 : Int), (0 : Int), (0 : Int), (0 : Int), (0 : Int), (0 : Int), (0 : Int), (0 : Int), (0 : Int), (0 : Int), (0 : Int), (0 : Int), (0 : Int), (0 : Int), (0 : Int), (0 : Int), (0 : Int), (0 : Int), (0 : Int), (0 : Int), (0 : Int), (0 : Int), (0 : Int), (0 : Int), (0 : Int), (0 : Int), (0 : Int), (0 : Int), (0 : Int), (0 : Int), (0 : Int), (0 : Int), (0 : Int), (0 : Int), (0 : Int), (0 : Int), (0 : Int), (0 : Int), (0 : Int), (0 : Int), (0 : Int), (0 : Int), (0 : Int), (0 : Int), (0 : Int), (0 : Int), (0 : Int), (0 : Int), (0 : Int), (0 : Int), (0 : Int), (0 : Int), (0 : Int), (0 : Int), (0 : Int), (0 : Int), (0 : Int), (0 : Int), (0 : Int), (0 : Int), (0 : Int), (0 : Int), (0 : Int), (0 : Int), (0 : Int), (0 : Int), (0 : Int), (0 : Int), (0 : Int), (0 : Int), (0 : Int), (0 : Int), (0 : Int), (0 : Int), (0 : Int), (0 : Int), (0 : Int), (0 : Int), (0 : Int), (0 : Int), (0 : Int), (0 : Int), (0 : Int), (0 : Int), (0 : Int), (0 : Int), (0 : Int), (0 : Int), (0 : Int), (0 : Int), (0 : Int), (0 : Int), (0 : Int), (0 : Int), (0 : Int), (0 : Int), (0 : Int), (0 : Int), (0 : Int), (0 : Int), (0 : Int), (0 : Int), (0 : Int), (0 : Int), (0 : Int), (0 : Int), (0 : Int), (0 : Int), (0 : Int), (0 : Int), (0 : Int)] k = siteF (↑c : Int) T lo hi (ini c 0 0) k, (↑c : Int) = (↑c : Int), T = T, lo = lo, hi = hi] (Tree.need [AV.agg [iI (↑c : Int), iI T, iI lo, iI hi] = AV.agg [iI (↑c : Int), iI T, iI lo, iI hi], (AV.lst 4 n fun k => [iI (a k), iI (b k), iI (u k), iI (v k)]) = AV.lst 4 n fun k => [iI (a k), iI (b k), iI (u k), iI (v k)], AV.ptr 0 0 = AV.ptr 0 0, AV.x (Value.pointer none) = AV.x (Value.pointer none), AV.lit false = AV.lit false, AV.ptr 5 0 = AV.ptr 5 0, (↑c : Int) + (1 : Int) = (↑c : Int) + (1 : Int), (↑c : Int) + (1 : Int) = (↑c : Int) + (1 : Int), (↑c : Int) = (↑c : Int), (0 : Int) = (↑(0 : Nat) : Int), 125 = 125, ∀ (k : Nat), k < 125 → siteF (↑c : Int) T lo hi (ini c (c + 1) 0) k = siteF (↑c : Int) T lo hi (cel c lo hi 0) k, (↑c : Int) = (↑c : Int), T = T, lo = lo, hi = hi] (Tree.need [(0 : Int) ≤ (0 : Int) ∧ (0 : Int) < (↑(11 : Nat) : Int)] (Tree.need [(0 : Int) ≤ (↑c : Int) ∧ (↑c : Int) < (↑(11 : Nat) : Int)] (Tree.need [c * 1 + 4 < 125] (Tree.need [(0 : Int) ≤ (0 : Int) ∧ (0 : Int) < (↑(11 : Nat) : Int)] (Tree.need [(0 : Int) ≤ (↑c : Int) ∧ (↑c : Int) < (↑(11 : Nat) : Int)] (Tree.need [c * 1 + 4 + List.length [min (siteF (↑c : Int) T lo hi (cel c lo hi c) (c * 1 + 4)) T] ≤ 125] (Tree.need [inI64 (-T)] (Tree.need [(0 : Int) ≤ (↑c : Int) ∧ (↑c : Int) < (↑(11 : Nat) : Int)] (Tree.need [(0 : Int) ≤ (0 : Int) ∧ (0 : Int) < (↑(11 : Nat) : Int)] (Tree.need [0 + (c * 11 + 4) < 125] (Tree.need [(0 : Int) ≤ (↑c : Int) ∧ (↑c : Int) < (↑(11 : Nat) : Int)] (Tree.need [(0 : Int) ≤ (0 : Int) ∧ (0 : Int) < (↑(11 : Nat) : Int)] (Tree.need [0 + (c * 11 + 4) + List.length [min (updI (c * 1 + 4) (min (siteF (↑c : Int) T lo hi (cel c lo hi c) (c * 1 + 4)) T) (siteF (↑c : Int) T lo hi (cel c lo hi c)) (0 + (c * 11 + 4))) (-T)] ≤ 125] (Tree.need [AV.agg [iI (↑c : Int), iI T, iI lo, iI hi] = AV.agg [iI (↑c : Int), iI T, iI lo, iI hi], (AV.lst 4 n fun k => [iI (a k), iI (b k), iI (u k), iI (v k)]) = AV.lst 4 n fun k => [iI (a k), iI (b k), iI (u k), iI (v k)], AV.ptr 0 0 = AV.ptr 0 0, AV.x (Value.pointer none) = AV.x (Value.pointer none), AV.lit false = AV.lit false, AV.ptr 5 0 = AV.ptr 5 0, AV.mp 63 = AV.mp 63, (↑c : Int) + (1 : Int) = (↑c : Int) + (1 : Int), (↑c : Int) + (1 : Int) = (↑c : Int) + (1 : Int), (↑c : Int) = (↑c : Int), (↑c : Int) = (↑c : Int), (AV.lst 4 n fun k => [iI (a k), iI (b k), iI (u k), iI (v k)]) = AV.lst 4 n fun k => [iI (a k), iI (b k), iI (u k), iI (v k)], (↑n : Int) = (↑n : Int), (0 : Int) = (↑(0 : Nat) : Int), 125 = 125, ∀ (k : Nat), k < 125 → updI (0 + (c * 11 + 4)) (min (updI (c * 1 + 4) (min (siteF (↑c : Int) T lo hi (cel c lo hi c) (c * 1 + 4)) T) (siteF (↑c : Int) T lo hi (cel c lo hi c)) (0 + (c * 11 + 4))) (-T)) (updL (c * 1 + 4) [min (siteF (↑c : Int) T lo hi (cel c lo hi c) (c * 1 + 4)) T] (siteF (↑c : Int) T lo hi (cel c lo hi c))) k = siteF (↑c : Int) T lo hi (rdM c T lo hi a b u v 0) k, (↑c : Int) = (↑c : Int), T = T, lo = lo, hi = hi, ∀ (k : Value), False → sn a b u v 0 k ∧ k = Value.bool true] (Tree.need [inI64 ((↑c : Int) + (1 : Int))] (Tree.need [AV.agg [iI (↑c : Int), iI T, iI lo, iI hi] = AV.agg [iI (↑c : Int), iI T, iI lo, iI hi], (AV.lst 4 n fun k => [iI (a k), iI (b k), iI (u k), iI (v k)]) = AV.lst 4 n fun k => [iI (a k), iI (b k), iI (u k), iI (v k)], AV.ptr 0 0 = AV.ptr 0 0, AV.x (Value.pointer none) = AV.x (Value.pointer none), AV.lit false = AV.lit false, AV.ptr 5 0 = AV.ptr 5 0, AV.mp 63 = AV.mp 63, (↑c : Int) + (1 : Int) = (↑c : Int) + (1 : Int), (↑c : Int) + (1 : Int) = (↑c : Int) + (1 : Int), (↑c : Int) = (↑c : Int), (↑c : Int) = (↑c : Int), (AV.lst 4 n fun k => [iI (a k), iI (b k), iI (u k), iI (v k)]) = AV.lst 4 n fun k => [iI (a k), iI (b k), iI (u k), iI (v k)], (↑n : Int) = (↑n : Int), (↑n : Int) = (↑n : Int), (↑c : Int) + (1 : Int) = (↑c : Int) + (1 : Int), (0 : Int) = (↑(0 : Nat) : Int), 125 = 125, ∀ (k : Nat), k < 125 → siteF (↑c : Int) T lo hi (rdM c T lo hi a b u v n) k = siteF (↑c : Int) T lo hi (fwO c (rdM c T lo hi a b u v n) 0) k, (↑c : Int) = (↑c : Int), T = T, lo = lo, hi = hi] (Tree.need [inI64 ((↑c : Int) + (1 : Int))] (Tree.need [AV.agg [iI (↑c : Int), iI T, iI lo, iI hi] = AV.agg [iI (↑c : Int), iI T, iI lo, iI hi], (AV.lst 4 n fun k => [iI (a k), iI (b k), iI (u k), iI (v k)]) = AV.lst 4 n fun k => [iI (a k), iI (b k), iI (u k), iI (v k)], AV.ptr 0 0 = AV.ptr 0 0, AV.ptr 5 0 = AV.ptr 5 0, AV.mp 63 = AV.mp 63, (↑c : Int) + (1 : Int) = (↑c : Int) + (1 : Int), (↑c : Int) + (1 : Int) = (↑c : Int) + (1 : Int), (↑c : Int) = (↑c : Int), (↑c : Int) = (↑c : Int), (AV.lst 4 n fun k => [iI (a k), iI (b k), iI (u k), iI (v k)]) = AV.lst 4 n fun k => [iI (a k), iI (b k), iI (u k), iI (v k)], (↑n : Int) = (↑n : Int), (↑n : Int) = (↑n : Int), (↑c : Int) + (1 : Int) = (↑c : Int) + (1 : Int), (↑c : Int) + (1 : Int) = (↑c : Int) + (1 : Int), (↑c : Int) + (1 : Int) = (↑c : Int) + (1 : Int), (0 : Int) = (↑(0 : Nat) : Int), 125 = 125, ∀ (k : Nat), k < 125 → siteF (↑c : Int) T lo hi (fwO c (rdM c T lo hi a b u v n) (c + 1)) k = siteF (↑c : Int) T lo hi (fwM c T lo hi n a b u v) k, (↑c : Int) = (↑c : Int), T = T, lo = lo, hi = hi] (Tree.branch (okR c T lo hi n a b u v) (Tree.leaf (AV.tup [AV.roI [] 125 (fun k => siteF (↑c : Int) T lo hi (fwM c T lo hi n a b u v) k) 0, AV.lit true])) (Tree.leaf (AV.tup [AV.x (Value.pointer none), AV.lit false]))))))))))))))))))))))))) (by kernel_rfl) ?_
  intro Q hQ
  have h1 : ∀ M w, updI (c * 1 + 4) (min (siteF c T lo hi M (c * 1 + 4)) w) (siteF c T lo hi M) = siteF c T lo hi (bnd M 0 c w) := fun M w => bnd_set (by omega) (by omega)
  have h2 : ∀ M w, updI (0 + (c * 11 + 4)) (min (siteF c T lo hi M (0 + (c * 11 + 4))) w) (siteF c T lo hi M) = siteF c T lo hi (bnd M c 0 w) := fun M w => bnd_set (by omega) (by omega)
  simp only [Tree.sat, allP, true_and, and_true, inI64, List.length_cons, List.length_nil, updL_one, h1, h2] at hQ ⊢
  (repeat' first | with_reducible apply And.intro | with_reducible intro _)
  all_goals first | exact True.intro | omega | with_reducible rfl | rfl | exact site_ini _ _ _ _ _ _ | (rename_i h; exact h.elim) | (rename_i h; exact ⟨.tup [siteA c T lo hi n a b u v, .lit true], ⟨⟨rfl, rfl, fun _ _ => rfl, rfl⟩, rfl, True.intro⟩, hQ.1 h⟩) | (rename_i h; exact ⟨.tup [nilP, .lit false], ⟨rfl, rfl, True.intro⟩, hQ.2 h⟩)

set_option maxRecDepth 100000 in
theorem readD_at (c : Nat) (T lo hi : Int) (n : Nat) (a b u v : Nat → Int) (pre0 : 1 ≤ c ∧ c ≤ 10) (pre1 : 1 ≤ lo ∧ lo ≤ hi ∧ hi ≤ 200 ∧ 1 ≤ T ∧ T ≤ 2000) (pre2 : n ≤ 1000) (pre3 : allI (fun k => rdB c (a k) (b k) (u k) (v k)) n = true) : SoundDAt Try.prog 67 [.agg [i c, i T, i lo, i hi], rds n a b u v] (.branch (okR c T lo hi n a b u v) (.leaf (.tup [siteA c T lo hi n a b u v, .lit true])) (.leaf (.tup [nilP, .lit false]))) := by
  refine soundDAt_fin (G := [(71, S_least)]) (X := { R := [], H := [(94, H_bound)] }) (L := [LS_ra c T lo hi n a b u v, LS_rc c T lo hi n a b u v, LS_rd c T lo hi n a b u v, LS_re c T lo hi n a b u v, LS_rh c T lo hi n a b u v]) (SoundG.cons least_ok (SoundG.nil _)) (SoundX.of (SoundRL.nil _) (SoundHL.cons bound_okH (SoundHL.nil _))) mixed Try.func67 (show Try.f67.body = some (bodyOf Try.f67) by kernel_rfl) (five_loops (fun cj hcj => by
    have e : loopAt (bodyOf Try.f67) 0 = some (.loop B_ra) := by kernel_rfl
    rw [e] at hcj; cases hcj
    exact (ra_ls c T lo hi n a b u v pre0 pre1).N) (fun cj hcj => by
    have e : loopAt (bodyOf Try.f67) 1 = some (.loop B_rc) := by kernel_rfl
    rw [e] at hcj; cases hcj
    exact (rc_ls c T lo hi n a b u v pre0 pre1).N) (fun cj hcj => by
    have e : loopAt (bodyOf Try.f67) 2 = some (.loop B_rd) := by kernel_rfl
    rw [e] at hcj; cases hcj
    exact (rd_ls c T lo hi n a b u v pre0 pre1 pre2 pre3).N) (fun cj hcj => by
    have e : loopAt (bodyOf Try.f67) 3 = some (.loop B_re) := by kernel_rfl
    rw [e] at hcj; cases hcj
    exact (re_ls c T lo hi n a b u v pre0 pre1 pre2 pre3).N) (fun cj hcj => by
    have e : loopAt (bodyOf Try.f67) 4 = some (.loop B_rh) := by kernel_rfl
    rw [e] at hcj; cases hcj
    exact (rh_ls c T lo hi n a b u v pre0 pre1 pre2 pre3).N)) (t := (Tree.need [inI64 ((↑c : Int) + (1 : Int))] (Tree.need [AV.agg [iI (↑c : Int), iI T, iI lo, iI hi] = AV.agg [iI (↑c : Int), iI T, iI lo, iI hi], (AV.lst 4 n fun k => [iI (a k), iI (b k), iI (u k), iI (v k)]) = AV.lst 4 n fun k => [iI (a k), iI (b k), iI (u k), iI (v k)], AV.ptr 0 0 = AV.ptr 0 0, AV.x (Value.pointer none) = AV.x (Value.pointer none), AV.lit false = AV.lit false, AV.ptr 5 0 = AV.ptr 5 0, (↑c : Int) + (1 : Int) = (↑c : Int) + (1 : Int), (0 : Int) = (↑(0 : Nat) : Int), List.length [(↑c : Int), T, lo, hi, (0 : Int), (0 : Int), (0 : Int), (0 : Int), (0 : Int), (0 : Int), (0 : Int), (0 : Int), (0 : Int), (0 : Int), (0 : Int), (0 : Int), (0 : Int), (0 : Int), (0 : Int), (0 : Int), (0 : Int), (0 : Int), (0 : Int), (0 : Int), (0 : Int), (0 : Int), (0 : Int), (0 : Int), (0 : Int), (0 : Int), (0 : Int), (0 : Int), (0 : Int), (0 : Int), (0 : Int), (0 : Int), (0 : Int), (0 : Int), (0 : Int), (0 : Int), (0 : Int), (0 : Int), (0 : Int), (0 : Int), (0 : Int), (0 : Int), (0 : Int), (0 : Int), (0 : Int), (0 : Int), (0 : Int), (0 : Int), (0 : Int), (0 : Int), (0 : Int), (0 : Int), (0 : Int), (0 : Int), (0 : Int), (0 : Int), (0 : Int), (0 : Int), (0 : Int), (0 : Int), (0 : Int), (0 : Int), (0 : Int), (0 : Int), (0 : Int), (0 : Int), (0 : Int), (0 : Int), (0 : Int), (0 : Int), (0 : Int), (0 : Int), (0 : Int), (0 : Int), (0 : Int), (0 : Int), (0 : Int), (0 : Int), (0 : Int), (0 : Int), (0 : Int), (0 : Int), (0 : Int), (0 : Int), (0 : Int), (0 : Int), (0 : Int), (0 : Int), (0 : Int), (0 : Int), (0 : Int), (0 : Int), (0 : Int), (0 : Int), (0 : Int), (0 : Int), (0 : Int), (0 : Int), (0 : Int), (0 : Int), (0 : Int), (0 : Int), (0 : Int), (0 : Int), (0 : Int), (0 : Int), (0 : Int), (0 : Int), (0 : Int), (0 : Int), (0 : Int), (0 : Int), (0 : Int), (0 : Int), (0 : Int), (0 : Int), (0 : Int), (0 : Int), (0 : Int), (0 : Int), (0 : Int)] = 125, ∀ (k : Nat), k < 125 → nthJ [(↑c : Int), T, lo, hi, (0 : Int), (0 : Int), (0 : Int), (0 : Int), (0 : Int), (0 : Int), (0 : Int), (0 : Int), (0 : Int), (0 : Int), (0 : Int), (0 : Int), (0 : Int), (0 : Int), (0 : Int), (0 : Int), (0 : Int), (0 : Int), (0 : Int), (0 : Int), (0 : Int), (0 : Int), (0 : Int), (0 : Int), (0 : Int), (0 : Int), (0 : Int), (0 : Int), (0 : Int), (0 : Int), (0 : Int), (0 : Int), (0 : Int), (0 : Int), (0 : Int), (0 : Int), (0 : Int), (0 : Int), (0 : Int), (0 : Int), (0 : Int), (0 : Int), (0 : Int), (0 : Int), (0 : Int), (0 : Int), (0 : Int), (0 : Int), (0 : Int), (0 : Int), (0 : Int), (0 : Int), (0 : Int), (0 : Int), (0 : Int), (0 : Int), (0 : Int), (0 : Int), (0 : Int), (0 : Int), (0 : Int), (0 : Int), (0 : Int), (0 : Int), (0 : Int), (0 : Int), (0 : Int), (0 : Int), (0 : Int), (0 : Int), (0 : Int), (0 : Int), (0 : Int), (0 : Int), (0 : Int), (0 : Int), (0 : Int), (0 : Int), (0 : Int), (0 : Int), (0 : Int), (0 : Int), (0 : Int), (0 : Int), (0 : Int), (0 : Int), (0 : Int), (0 : Int), (0 : Int), (0 : Int), (0 : Int), (0 : Int), (0 : Int), (0 : Int), (0 : Int), (0 : Int), (0 : Int), (0 : Int), (0 : Int), (0 : Int), (0 : Int), (0 : Int), (0 : Int), (0 : Int), (0 : Int), (0 : Int), (0 : Int), (0 : Int), (0 : Int), (0 : Int), (0 : Int), (0 : Int), (0 : Int), (0 : Int), (0 : Int), (0 : Int), (0 : Int), (0 : Int), (0 : Int), (0 : Int), (0 : Int)] k = siteF (↑c : Int) T lo hi (ini c 0 0) k, (↑c : Int) = (↑c : Int), T = T, lo = lo, hi = hi] (Tree.need [AV.agg [iI (↑c : Int), iI T, iI lo, iI hi] = AV.agg [iI (↑c : Int), iI T, iI lo, iI hi], (AV.lst 4 n fun k => [iI (a k), iI (b k), iI (u k), iI (v k)]) = AV.lst 4 n fun k => [iI (a k), iI (b k), iI (u k), iI (v k)], AV.ptr 0 0 = AV.ptr 0 0, AV.x (Value.pointer none) = AV.x (Value.pointer none), AV.lit false = AV.lit false, AV.ptr 5 0 = AV.ptr 5 0, (↑c : Int) + (1 : Int) = (↑c : Int) + (1 : Int), (↑c : Int) + (1 : Int) = (↑c : Int) + (1 : Int), (↑c : Int) = (↑c : Int), (0 : Int) = (↑(0 : Nat) : Int), 125 = 125, ∀ (k : Nat), k < 125 → siteF (↑c : Int) T lo hi (ini c (c + 1) 0) k = siteF (↑c : Int) T lo hi (cel c lo hi 0) k, (↑c : Int) = (↑c : Int), T = T, lo = lo, hi = hi] (Tree.need [(0 : Int) ≤ (0 : Int) ∧ (0 : Int) < (↑(11 : Nat) : Int)] (Tree.need [(0 : Int) ≤ (↑c : Int) ∧ (↑c : Int) < (↑(11 : Nat) : Int)] (Tree.need [c * 1 + 4 < 125] (Tree.need [(0 : Int) ≤ (0 : Int) ∧ (0 : Int) < (↑(11 : Nat) : Int)] (Tree.need [(0 : Int) ≤ (↑c : Int) ∧ (↑c : Int) < (↑(11 : Nat) : Int)] (Tree.need [c * 1 + 4 + List.length [min (siteF (↑c : Int) T lo hi (cel c lo hi c) (c * 1 + 4)) T] ≤ 125] (Tree.need [inI64 (-T)] (Tree.need [(0 : Int) ≤ (↑c : Int) ∧ (↑c : Int) < (↑(11 : Nat) : Int)] (Tree.need [(0 : Int) ≤ (0 : Int) ∧ (0 : Int) < (↑(11 : Nat) : Int)] (Tree.need [0 + (c * 11 + 4) < 125] (Tree.need [(0 : Int) ≤ (↑c : Int) ∧ (↑c : Int) < (↑(11 : Nat) : Int)] (Tree.need [(0 : Int) ≤ (0 : Int) ∧ (0 : Int) < (↑(11 : Nat) : Int)] (Tree.need [0 + (c * 11 + 4) + List.length [min (updI (c * 1 + 4) (min (siteF (↑c : Int) T lo hi (cel c lo hi c) (c * 1 + 4)) T) (siteF (↑c : Int) T lo hi (cel c lo hi c)) (0 + (c * 11 + 4))) (-T)] ≤ 125] (Tree.need [AV.agg [iI (↑c : Int), iI T, iI lo, iI hi] = AV.agg [iI (↑c : Int), iI T, iI lo, iI hi], (AV.lst 4 n fun k => [iI (a k), iI (b k), iI (u k), iI (v k)]) = AV.lst 4 n fun k => [iI (a k), iI (b k), iI (u k), iI (v k)], AV.ptr 0 0 = AV.ptr 0 0, AV.x (Value.pointer none) = AV.x (Value.pointer none), AV.lit false = AV.lit false, AV.ptr 5 0 = AV.ptr 5 0, AV.mp 63 = AV.mp 63, (↑c : Int) + (1 : Int) = (↑c : Int) + (1 : Int), (↑c : Int) + (1 : Int) = (↑c : Int) + (1 : Int), (↑c : Int) = (↑c : Int), (↑c : Int) = (↑c : Int), (AV.lst 4 n fun k => [iI (a k), iI (b k), iI (u k), iI (v k)]) = AV.lst 4 n fun k => [iI (a k), iI (b k), iI (u k), iI (v k)], (↑n : Int) = (↑n : Int), (0 : Int) = (↑(0 : Nat) : Int), 125 = 125, ∀ (k : Nat), k < 125 → updI (0 + (c * 11 + 4)) (min (updI (c * 1 + 4) (min (siteF (↑c : Int) T lo hi (cel c lo hi c) (c * 1 + 4)) T) (siteF (↑c : Int) T lo hi (cel c lo hi c)) (0 + (c * 11 + 4))) (-T)) (updL (c * 1 + 4) [min (siteF (↑c : Int) T lo hi (cel c lo hi c) (c * 1 + 4)) T] (siteF (↑c : Int) T lo hi (cel c lo hi c))) k = siteF (↑c : Int) T lo hi (rdM c T lo hi a b u v 0) k, (↑c : Int) = (↑c : Int), T = T, lo = lo, hi = hi, ∀ (k : Value), False → sn a b u v 0 k ∧ k = Value.bool true] (Tree.need [inI64 ((↑c : Int) + (1 : Int))] (Tree.need [AV.agg [iI (↑c : Int), iI T, iI lo, iI hi] = AV.agg [iI (↑c : Int), iI T, iI lo, iI hi], (AV.lst 4 n fun k => [iI (a k), iI (b k), iI (u k), iI (v k)]) = AV.lst 4 n fun k => [iI (a k), iI (b k), iI (u k), iI (v k)], AV.ptr 0 0 = AV.ptr 0 0, AV.x (Value.pointer none) = AV.x (Value.pointer none), AV.lit false = AV.lit false, AV.ptr 5 0 = AV.ptr 5 0, AV.mp 63 = AV.mp 63, (↑c : Int) + (1 : Int) = (↑c : Int) + (1 : Int), (↑c : Int) + (1 : Int) = (↑c : Int) + (1 : Int), (↑c : Int) = (↑c : Int), (↑c : Int) = (↑c : Int), (AV.lst 4 n fun k => [iI (a k), iI (b k), iI (u k), iI (v k)]) = AV.lst 4 n fun k => [iI (a k), iI (b k), iI (u k), iI (v k)], (↑n : Int) = (↑n : Int), (↑n : Int) = (↑n : Int), (↑c : Int) + (1 : Int) = (↑c : Int) + (1 : Int), (0 : Int) = (↑(0 : Nat) : Int), 125 = 125, ∀ (k : Nat), k < 125 → siteF (↑c : Int) T lo hi (rdM c T lo hi a b u v n) k = siteF (↑c : Int) T lo hi (fwO c (rdM c T lo hi a b u v n) 0) k, (↑c : Int) = (↑c : Int), T = T, lo = lo, hi = hi] (Tree.need [inI64 ((↑c : Int) + (1 : Int))] (Tree.need [AV.agg [iI (↑c : Int), iI T, iI lo, iI hi] = AV.agg [iI (↑c : Int), iI T, iI lo, iI hi], (AV.lst 4 n fun k => [iI (a k), iI (b k), iI (u k), iI (v k)]) = AV.lst 4 n fun k => [iI (a k), iI (b k), iI (u k), iI (v k)], AV.ptr 0 0 = AV.ptr 0 0, AV.ptr 5 0 = AV.ptr 5 0, AV.mp 63 = AV.mp 63, (↑c : Int) + (1 : Int) = (↑c : Int) + (1 : Int), (↑c : Int) + (1 : Int) = (↑c : Int) + (1 : Int), (↑c : Int) = (↑c : Int), (↑c : Int) = (↑c : Int), (AV.lst 4 n fun k => [iI (a k), iI (b k), iI (u k), iI (v k)]) = AV.lst 4 n fun k => [iI (a k), iI (b k), iI (u k), iI (v k)], (↑n : Int) = (↑n : Int), (↑n : Int) = (↑n : Int), (↑c : Int) + (1 : Int) = (↑c : Int) + (1 : Int), (↑c : Int) + (1 : Int) = (↑c : Int) + (1 : Int), (↑c : Int) + (1 : Int) = (↑c : Int) + (1 : Int), (0 : Int) = (↑(0 : Nat) : Int), 125 = 125, ∀ (k : Nat), k < 125 → siteF (↑c : Int) T lo hi (fwO c (rdM c T lo hi a b u v n) (c + 1)) k = siteF (↑c : Int) T lo hi (fwM c T lo hi n a b u v) k, (↑c : Int) = (↑c : Int), T = T, lo = lo, hi = hi] (Tree.branch (okR c T lo hi n a b u v) (Tree.leaf (AV.tup [AV.roI [] 125 (fun k => siteF (↑c : Int) T lo hi (fwM c T lo hi n a b u v) k) 0, AV.lit true])) (Tree.leaf (AV.tup [AV.x (Value.pointer none), AV.lit false]))))))))))))))))))))))))) (by kernel_rfl) ?_
  intro Q hQ
  have h1 : ∀ M w, updI (c * 1 + 4) (min (siteF c T lo hi M (c * 1 + 4)) w) (siteF c T lo hi M) = siteF c T lo hi (bnd M 0 c w) := fun M w => bnd_set (by omega) (by omega)
  have h2 : ∀ M w, updI (0 + (c * 11 + 4)) (min (siteF c T lo hi M (0 + (c * 11 + 4))) w) (siteF c T lo hi M) = siteF c T lo hi (bnd M c 0 w) := fun M w => bnd_set (by omega) (by omega)
  simp only [Tree.sat, allP, true_and, and_true, inI64, List.length_cons, List.length_nil, updL_one, h1, h2] at hQ ⊢
  (repeat' first | with_reducible apply And.intro | with_reducible intro _)
  all_goals first | exact True.intro | omega | with_reducible rfl | rfl | exact site_ini _ _ _ _ _ _ | (rename_i h; exact h.elim) | (rename_i h; exact ⟨.tup [siteA c T lo hi n a b u v, .lit true], ⟨⟨rfl, rfl, fun _ _ => rfl, rfl⟩, rfl, True.intro⟩, hQ.1 h⟩) | (rename_i h; exact ⟨.tup [nilP, .lit false], ⟨rfl, rfl, True.intro⟩, hQ.2 h⟩)


def col (j : Nat) (f : Nat → List AV) : Nat → Int := fun k => intAt (f k) j
noncomputable def C_read : CSpec := fun l => match l with
  | [.agg [.x (.int .i64 c), .x (.int .i64 T), .x (.int .i64 lo), .x (.int .i64 hi)], .lst 4 n f] => some (.need [isRec 4 n f, 1 ≤ c ∧ c ≤ 10, 1 ≤ lo ∧ lo ≤ hi ∧ hi ≤ 200 ∧ 1 ≤ T ∧ T ≤ 2000, n ≤ 1000, allI (fun k => rdB c (col 0 f k) (col 1 f k) (col 2 f k) (col 3 f k)) n = true]
      (.branch (okR c.toNat T lo hi n (col 0 f) (col 1 f) (col 2 f) (col 3 f)) (.leaf (.tup [siteA c.toNat T lo hi n (col 0 f) (col 1 f) (col 2 f) (col 3 f), .lit true])) (.leaf (.tup [nilP, .lit false]))))
  | _ => none


theorem read_okC : Enters Try.prog 67 ∧ ∀ avs t, C_read avs = some t → SoundCAt Try.prog 67 avs t := by
  refine ⟨⟨_, Try.func67, by kernel_rfl, by kernel_rfl⟩, ?_⟩
  intro avs t h
  unfold C_read at h
  split at h
  · rename_i c T lo hi n f
    cases h
    intro Q hQ
    have hn := allP_mem hQ.1
    have hr : isRec 4 n f := hn _ (by simp)
    have hc : 1 ≤ c ∧ c ≤ 10 := hn _ (by simp)
    have hall : allI (fun k => rdB c (col 0 f k) (col 1 f k) (col 2 f k) (col 3 f k)) n = true := hn _ (by simp)
    have e : ((c.toNat : Nat) : Int) = c := by omega
    have h0 := read_at c.toNat T lo hi n (col 0 f) (col 1 f) (col 2 f) (col 3 f) (by omega) (hn _ (by simp)) (hn _ (by simp)) (by rw [e]; exact hall)
    rw [e] at h0
    exact SoundCAt.same h0 (.cons (.refl _) (.cons (.lst 4 n _ _ hr) .nil)) Q hQ.2
  · cases h


theorem SoundDAt.same {P : Program} {f : FuncId} {avs avs' : List AV} {t : Tree AV} (h : SoundDAt P f avs' t) (k : Sames avs avs') : SoundDAt P f avs t := fun Q hQ e w args hro hidf hr => h Q hQ e w args hro (k.idf hidf) (k.rep hr)
theorem read_okD : Enters Try.prog 67 ∧ ∀ avs t, C_read avs = some t → SoundDAt Try.prog 67 avs t := by
  refine ⟨⟨_, Try.func67, by kernel_rfl, by kernel_rfl⟩, ?_⟩
  intro avs t h
  unfold C_read at h
  split at h
  · rename_i c T lo hi n f
    cases h
    intro Q hQ
    have hn := allP_mem hQ.1
    have hr : isRec 4 n f := hn _ (by simp)
    have hc : 1 ≤ c ∧ c ≤ 10 := hn _ (by simp)
    have hall : allI (fun k => rdB c (col 0 f k) (col 1 f k) (col 2 f k) (col 3 f k)) n = true := hn _ (by simp)
    have e : ((c.toNat : Nat) : Int) = c := by omega
    have h0 := readD_at c.toNat T lo hi n (col 0 f) (col 1 f) (col 2 f) (col 3 f) (by omega) (hn _ (by simp)) (hn _ (by simp)) (by rw [e]; exact hall)
    rw [e] at h0
    exact SoundDAt.same h0 (.cons (.refl _) (.cons (.lst 4 n _ _ hr) .nil)) Q hQ.2
  · cases h

end Go.Proofs.Ytmdeoobmeokmeaa
/- Contracts of functions of the program, by the engine Sx: what each call comes to. Printed by a program of this repo (sxgen.py). -/
set_option linter.unusedSimpArgs false
set_option linter.unusedVariables false
namespace Go.Proofs.Ytmdeoobmeokmeaa
open Go Go.Sx Go.RowKit
def S_allr1 : Sx.Spec := fun l => match l with
  | [.agg [.x (.int .i64 a), .x (.int .i64 b), .x (.int .i64 u), .x (.int .i64 v)], .ro [.fn (.func 99) [.agg [.x (.int .i64 c), .x (.int .i64 T), .x (.int .i64 lo), .x (.int .i64 hi)]] []]] => some ([1 ≤ c ∧ c ≤ 10], bl (!rdB c a b u v))
  | _ => none

set_option maxRecDepth 100000 in
theorem allr1_at (c T lo hi a b u v : Int) (pre0 : 1 ≤ c ∧ c ≤ 10) : SoundAt Try.prog 109 [.agg [i a, i b, i u, i v], .ro [.fn (.func 99) [.agg [i c, i T, i lo, i hi]] []]] (bl (!rdB c a b u v)) := by
  refine soundAt_fin (G := [(99, S_reading)]) (L := []) (SoundG.cons reading_ok (SoundG.nil _)) mixed Try.func109 (show Try.f109.body = some (bodyOf Try.f109) by kernel_rfl) noLoops (t := (Tree.need [(1 : Int) ≤ c ∧ c ≤ (10 : Int)] (Tree.leaf (RV.x (Value.bool !rdB c a b u v))))) (by kernel_rfl) ?_
  simp [Tree.sat, allP, fitP, valEq]; exact pre0
theorem allr1_ok : SoundSpec Try.prog 109 S_allr1 := by
  refine ⟨⟨_, Try.func109, by kernel_rfl, by kernel_rfl⟩, ?_⟩
  intro avs ns res h hn
  unfold S_allr1 at h
  split at h
  · cases h
    exact allr1_at _ _ _ _ _ _ _ _ (hn _ (by simp))
  · cases h


def notR (c : Int) (a b u v : Nat → Int) (k : Nat) : Bool := !rdB c (a k) (b k) (u k) (v k)
def allR (c : Int) (n : Nat) (a b u v : Nat → Int) : Bool := allI (fun k => rdB c (a k) (b k) (u k) (v k)) n

noncomputable def E_xfr (c T lo hi : Int) (n : Nat) (a b u v : Nat → Int) : St := (some
  {
    σ :=
      [AV.lst (4 : Nat) n fun k =>
          [AV.x (Value.int IntKind.i64 (a k)), AV.x (Value.int IntKind.i64 (b k)), AV.x (Value.int IntKind.i64 (u k)),
            AV.x (Value.int IntKind.i64 (v k))],
        AV.fn (Fn.func (109 : Nat)) []
          [AV.ro
              [AV.fn (Fn.func (99 : Nat))
                  [AV.agg
                      [AV.x (Value.int IntKind.i64 c), AV.x (Value.int IntKind.i64 T), AV.x (Value.int IntKind.i64 lo),
                        AV.x (Value.int IntKind.i64 hi)]]
                  []]],
        AV.top, AV.top, AV.top, AV.top, AV.top, AV.x (Value.int IntKind.i64 (↑n : Int)), AV.top, AV.top, AV.top, AV.top,
        AV.top, AV.top, AV.top, AV.top, AV.top, AV.top, AV.top],
    m := [], nx := (4 : Nat) } : Option St).getD { σ := [], m := [], nx := 0 }
noncomputable def B_xfr : Code := loopBody (loopAt (bodyOf Try.f112) 0)
noncomputable def inv_xfr (c T lo hi : Int) (n : Nat) (a b u v : Nat → Int) (k : Nat) : St := { σ := ovrS [(8, i k)] (E_xfr c T lo hi n a b u v).σ, m := (E_xfr c T lo hi n a b u v).m, nx := (E_xfr c T lo hi n a b u v).nx }
noncomputable def out_xfr (c T lo hi : Int) (n : Nat) (a b u v : Nat → Int) (k : Nat) : AEx → Option St := fun ex => match ex with
  | .ret => some { σ := ovrS [(4, i (fstI (notR c a b u v) n))] (E_xfr c T lo hi n a b u v).σ, m := (E_xfr c T lo hi n a b u v).m, nx := (E_xfr c T lo hi n a b u v).nx }
  | .exit 0 => some { σ := ovrS [] (E_xfr c T lo hi n a b u v).σ, m := (E_xfr c T lo hi n a b u v).m, nx := (E_xfr c T lo hi n a b u v).nx }
  | _ => none
noncomputable def T_xfr (c T lo hi : Int) (n : Nat) (a b u v : Nat → Int) : CT := .branch (decide (fstI (notR c a b u v) n < n)) (.leaf (.ret, ( out_xfr c T lo hi n a b u v 0 .ret).getD (E_xfr c T lo hi n a b u v))) (.leaf (.exit 0, ( out_xfr c T lo hi n a b u v 0 (.exit 0)).getD (E_xfr c T lo hi n a b u v)))
noncomputable def LS_xfr (c T lo hi : Int) (n : Nat) (a b u v : Nat → Int) : LSpec := (sumL (inv_xfr c T lo hi n a b u v (0)) (T_xfr c T lo hi n a b u v))
set_option maxRecDepth 100000 in
theorem xfr_ls (c T lo hi : Int) (n : Nat) (a b u v : Nat → Int) (pre0 : n ≤ 100000) (pre1 : 1 ≤ c ∧ c ≤ 10) : LSound Try.prog (.loop B_xfr) (LS_xfr c T lo hi n a b u v) := by
  refine loop_rounds (G := [(109, S_allr1)]) (L := []) (SoundG.cons allr1_ok (SoundG.nil _)) mixed noLoops (X := Nat) (inv_xfr c T lo hi n a b u v) (fun k => k ≤ n ∧ ∀ j, j < k → notR c a b u v j = false) (fun k => n - k) (out_xfr c T lo hi n a b u v) (x0 := 0) (by simp) ?_ ?_ ?_
  · rintro k
    kernel_rfl
  · rintro k y E h
    unfold out_xfr at h
    split at h
    · cases h; kernel_rfl
    · cases h; kernel_rfl
    · cases h
  · rintro Q hQ k hx
    refine ⟨(k + 1), ?_⟩
    have e : roundT Try.prog [(109, S_allr1)] [] B_xfr (inv_xfr c T lo hi n a b u v k) (inv_xfr c T lo hi n a b u v ((k + 1))) (out_xfr c T lo hi n a b u v k) = (Tree.branch (decide ((↑k : Int) < (↑n : Int))) (Tree.need [(0 : Int) ≤ (↑k : Int) ∧ (↑k : Int) < (↑n : Int)] (Tree.need [(1 : Int) ≤ c ∧ c ≤ (10 : Int)] (Tree.branch (!rdB c (a k) (b k) (u k) (v k)) (Tree.need [(AV.lst 4 n fun k => [iI (a k), iI (b k), iI (u k), iI (v k)]) = AV.lst 4 n fun k => [iI (a k), iI (b k), iI (u k), iI (v k)], AV.fn (Fn.func 109) [] [AV.ro [AV.fn (Fn.func 99) [AV.agg [iI c, iI T, iI lo, iI hi]] []]] = AV.fn (Fn.func 109) [] [AV.ro [AV.fn (Fn.func 99) [AV.agg [iI c, iI T, iI lo, iI hi]] []]], (↑k : Int) = (↑(fstI (notR c a b u v) n) : Int), (↑n : Int) = (↑n : Int)] (Tree.leaf AEx.ret)) (Tree.need [inI64 ((↑k : Int) + (1 : Int))] (Tree.need [(AV.lst 4 n fun k => [iI (a k), iI (b k), iI (u k), iI (v k)]) = AV.lst 4 n fun k => [iI (a k), iI (b k), iI (u k), iI (v k)], AV.fn (Fn.func 109) [] [AV.ro [AV.fn (Fn.func 99) [AV.agg [iI c, iI T, iI lo, iI hi]] []]] = AV.fn (Fn.func 109) [] [AV.ro [AV.fn (Fn.func 99) [AV.agg [iI c, iI T, iI lo, iI hi]] []]], (↑n : Int) = (↑n : Int), (↑k : Int) + (1 : Int) = (↑(k + 1) : Int)] (Tree.leaf AEx.normal)))))) (Tree.need [(AV.lst 4 n fun k => [iI (a k), iI (b k), iI (u k), iI (v k)]) = AV.lst 4 n fun k => [iI (a k), iI (b k), iI (u k), iI (v k)], AV.fn (Fn.func 109) [] [AV.ro [AV.fn (Fn.func 99) [AV.agg [iI c, iI T, iI lo, iI hi]] []]] = AV.fn (Fn.func 109) [] [AV.ro [AV.fn (Fn.func 99) [AV.agg [iI c, iI T, iI lo, iI hi]] []]], (↑n : Int) = (↑n : Int)] (Tree.leaf (AEx.exit 0)))) := by kernel_rfl
    rw [e]
    simp only [T_xfr, out_xfr, Tree.sat, Option.getD_some, decide_eq_true_eq, decide_eq_false_iff_not] at hQ
    simp only [Tree.sat, allP, true_and, and_true, decide_eq_true_eq, decide_eq_false_iff_not, inI64, out_xfr, Int.toNat_natCast]
    refine ⟨fun h => ⟨by omega, pre1, fun hb => ?_, fun hb => ?_⟩, fun h => ?_⟩
    · have hf : fstI (notR c a b u v) n = k := fstI_eq (by omega) hb hx.2
      refine ⟨by omega, fun E hE => ?_⟩
      cases hE
      exact hQ.1 (by omega)
    · refine ⟨by omega, by omega, ⟨by omega, fun j hj => ?_⟩, by omega⟩
      rcases (show j < k ∨ j = k by omega) with h1 | rfl
      · exact hx.2 j h1
      · exact hb
    · have hf : fstI (notR c a b u v) n = n := fstI_none (fun j hj => hx.2 j (by omega))
      intro E hE
      cases hE
      exact hQ.2 (by omega)

set_option maxRecDepth 100000 in
theorem xfr_at (c T lo hi : Int) (n : Nat) (a b u v : Nat → Int) (pre0 : n ≤ 100000) (pre1 : 1 ≤ c ∧ c ≤ 10) : SoundAt Try.prog 112 [rds n a b u v, .fn (.func 109) [] [.ro [.fn (.func 99) [.agg [i c, i T, i lo, i hi]] []]]] (i (if fstI (notR c a b u v) n < n then (fstI (notR c a b u v) n : Int) else -1)) := by
  refine soundAt_fin (G := [(109, S_allr1)]) (L := [LS_xfr c T lo hi n a b u v]) (SoundG.cons allr1_ok (SoundG.nil _)) mixed Try.func112 (show Try.f112.body = some (bodyOf Try.f112) by kernel_rfl) (one_loop (fun cj hcj => by
    have e : loopAt (bodyOf Try.f112) 0 = some (.loop B_xfr) := by kernel_rfl
    rw [e] at hcj; cases hcj
    exact xfr_ls c T lo hi n a b u v pre0 pre1)) (t := (Tree.need [(AV.lst 4 n fun k => [iI (a k), iI (b k), iI (u k), iI (v k)]) = AV.lst 4 n fun k => [iI (a k), iI (b k), iI (u k), iI (v k)], AV.fn (Fn.func 109) [] [AV.ro [AV.fn (Fn.func 99) [AV.agg [iI c, iI T, iI lo, iI hi]] []]] = AV.fn (Fn.func 109) [] [AV.ro [AV.fn (Fn.func 99) [AV.agg [iI c, iI T, iI lo, iI hi]] []]], (↑n : Int) = (↑n : Int), (0 : Int) = (↑(0 : Nat) : Int)] (Tree.branch (decide (fstI (notR c a b u v) n < n)) (Tree.leaf (RV.x (Value.int IntKind.i64 (↑(fstI (notR c a b u v) n) : Int)))) (Tree.leaf (RV.x (Value.int IntKind.i64 (-1 : Int))))))) (by kernel_rfl) ?_
  simp only [Tree.sat, allP, fitP, valEq, true_and, and_true, decide_eq_true_eq, decide_eq_false_iff_not]
  simp +contextual


theorem isRec4 (n : Nat) (a b u v : Nat → Int) : isRec 4 n (fun k => [i (a k), i (b k), i (u k), i (v k)]) := fun _ _ => rfl
def S_xfr : Sx.Spec := fun l => match l with
  | [.lst 4 n f, .fn (.func 109) [] [.ro [.fn (.func 99) [.agg [.x (.int .i64 c), .x (.int .i64 T), .x (.int .i64 lo), .x (.int .i64 hi)]] []]]] => some ([isRec 4 n f, n ≤ 100000, 1 ≤ c ∧ c ≤ 10], i (if fstI (notR c (col 0 f) (col 1 f) (col 2 f) (col 3 f)) n < n then (fstI (notR c (col 0 f) (col 1 f) (col 2 f) (col 3 f)) n : Int) else -1))
  | _ => none
def S_cfr : Sx.Spec := fun l => match l with
  | [.lst 4 n f, .fn (.func 109) [] [.ro [.fn (.func 99) [.agg [.x (.int .i64 c), .x (.int .i64 T), .x (.int .i64 lo), .x (.int .i64 hi)]] []]]] => some ([isRec 4 n f, n ≤ 100000, 1 ≤ c ∧ c ≤ 10], bl (!allR c n (col 0 f) (col 1 f) (col 2 f) (col 3 f)))
  | _ => none
def S_allr : Sx.Spec := fun l => match l with
  | [.lst 4 n f, .fn (.func 99) [.agg [.x (.int .i64 c), .x (.int .i64 T), .x (.int .i64 lo), .x (.int .i64 hi)]] []] => some ([isRec 4 n f, n ≤ 100000, 1 ≤ c ∧ c ≤ 10], bl (allR c n (col 0 f) (col 1 f) (col 2 f) (col 3 f)))
  | _ => none
def flt (c T lo hi : Int) (n : Nat) (a b u v : Nat → Int) : Int := if tubeB c T lo hi then (if 12 < n then 3 else if allR c n a b u v then 0 else 2) else 1
def S_check : Sx.Spec := fun l => match l with
  | [.agg [.x (.int .i64 c), .x (.int .i64 T), .x (.int .i64 lo), .x (.int .i64 hi)], .lst 4 n f] => some ([isRec 4 n f], i (flt c T lo hi n (col 0 f) (col 1 f) (col 2 f) (col 3 f)))
  | _ => none


theorem xfr_ok : SoundSpec Try.prog 112 S_xfr := by
  refine ⟨⟨_, Try.func112, by kernel_rfl, by kernel_rfl⟩, ?_⟩
  intro avs ns res h hn
  unfold S_xfr at h
  split at h
  · cases h
    have hr : isRec 4 _ _ := hn _ (List.mem_cons_self)
    exact (xfr_at _ _ _ _ _ (col 0 _) (col 1 _) (col 2 _) (col 3 _) (hn _ (by simp)) (hn _ (by simp))).same (.cons (.lst 4 _ _ _ hr) (.cons (.refl _) .nil))
  · cases h

set_option maxRecDepth 100000 in
theorem cfr_at (c T lo hi : Int) (n : Nat) (a b u v : Nat → Int) (pre0 : n ≤ 100000) (pre1 : 1 ≤ c ∧ c ≤ 10) : SoundAt Try.prog 108 [rds n a b u v, .fn (.func 109) [] [.ro [.fn (.func 99) [.agg [i c, i T, i lo, i hi]] []]]] (bl (!allR c n a b u v)) := by
  refine soundAt_fin (G := [(112, S_xfr)]) (L := []) (SoundG.cons xfr_ok (SoundG.nil _)) mixed Try.func108 (show Try.f108.body = some (bodyOf Try.f108) by kernel_rfl) noLoops (t := (Tree.need [isRec 4 n fun k => [i (a k), i (b k), i (u k), i (v k)], n ≤ 100000, (1 : Int) ≤ c ∧ c ≤ (10 : Int)] (Tree.leaf (RV.x (Value.bool (decide ((if fstI (notR c a b u v) n < n then (↑(fstI (notR c a b u v) n) : Int) else (-1 : Int)) ≥ (0 : Int)))))))) (by kernel_rfl) ?_
  simp only [Tree.sat, allP, fitP, valEq, true_and, and_true]
  refine ⟨⟨isRec4 n _ _ _ _, pre0, pre1⟩, ?_⟩
  unfold allR
  rw [allI_fst]
  have := fstI_spec (notR c a b u v) n
  have e : (fun k => !(fun k => rdB c (a k) (b k) (u k) (v k)) k) = notR c a b u v := rfl
  rw [e]
  split <;> simp <;> omega


theorem cfr_ok : SoundSpec Try.prog 108 S_cfr := by
  refine ⟨⟨_, Try.func108, by kernel_rfl, by kernel_rfl⟩, ?_⟩
  intro avs ns res h hn
  unfold S_cfr at h
  split at h
  · cases h
    have hr : isRec 4 _ _ := hn _ (List.mem_cons_self)
    exact (cfr_at _ _ _ _ _ (col 0 _) (col 1 _) (col 2 _) (col 3 _) (hn _ (by simp)) (hn _ (by simp))).same (.cons (.lst 4 _ _ _ hr) (.cons (.refl _) .nil))
  · cases h

set_option maxRecDepth 100000 in
theorem allr_at (c T lo hi : Int) (n : Nat) (a b u v : Nat → Int) (pre0 : n ≤ 100000) (pre1 : 1 ≤ c ∧ c ≤ 10) : SoundAt Try.prog 100 [rds n a b u v, .fn (.func 99) [.agg [i c, i T, i lo, i hi]] []] (bl (allR c n a b u v)) := by
  refine soundAt_fin (G := [(108, S_cfr)]) (L := []) (SoundG.cons cfr_ok (SoundG.nil _)) mixed Try.func100 (show Try.f100.body = some (bodyOf Try.f100) by kernel_rfl) noLoops (t := (Tree.need [isRec 4 n fun k => [i (a k), i (b k), i (u k), i (v k)], n ≤ 100000, (1 : Int) ≤ c ∧ c ≤ (10 : Int)] (Tree.leaf (RV.x (Value.bool !!allR c n a b u v))))) (by kernel_rfl) ?_
  simp only [Tree.sat, allP, fitP, valEq, true_and, and_true]
  refine ⟨⟨isRec4 n _ _ _ _, pre0, pre1⟩, ?_⟩
  simp


theorem allr_ok : SoundSpec Try.prog 100 S_allr := by
  refine ⟨⟨_, Try.func100, by kernel_rfl, by kernel_rfl⟩, ?_⟩
  intro avs ns res h hn
  unfold S_allr at h
  split at h
  · cases h
    have hr : isRec 4 _ _ := hn _ (List.mem_cons_self)
    exact (allr_at _ _ _ _ _ (col 0 _) (col 1 _) (col 2 _) (col 3 _) (hn _ (by simp)) (hn _ (by simp))).same (.cons (.lst 4 _ _ _ hr) (.cons (.refl _) .nil))
  · cases h


theorem tube_bd {c T lo hi : Int} (h : tubeB c T lo hi = true) : (1 ≤ c ∧ c ≤ 10) ∧ (1 ≤ lo ∧ lo ≤ hi ∧ hi ≤ 200 ∧ 1 ≤ T ∧ T ≤ 2000) ∧ c * lo ≤ T ∧ T ≤ c * hi := by
  simp only [tubeB, Bool.and_eq_true, bt_iff, insB_iff] at h
  omega

set_option maxRecDepth 100000 in
theorem check_at (c T lo hi : Int) (n : Nat) (a b u v : Nat → Int) : SoundAt Try.prog 80 [.agg [i c, i T, i lo, i hi], rds n a b u v] (i (flt c T lo hi n a b u v)) := by
  refine soundAt_fin (G := [(44, S_CheckTube), (100, S_allr)]) (L := []) (SoundG.cons CheckTube_ok (SoundG.cons allr_ok (SoundG.nil _))) mixed Try.func80 (show Try.f80.body = some (bodyOf Try.f80) by kernel_rfl) noLoops (t := (Tree.branch ((if tubeB c T lo hi = true then (0 : Int) else (1 : Int)) != (0 : Int)) (Tree.leaf (RV.x (Value.int IntKind.i64 (if tubeB c T lo hi = true then (0 : Int) else (1 : Int))))) (Tree.branch (decide ((↑n : Int) > (12 : Int))) (Tree.leaf (RV.x (Value.int IntKind.i64 (3 : Int)))) (Tree.need [isRec 4 n fun k => [i (a k), i (b k), i (u k), i (v k)], n ≤ 100000, (1 : Int) ≤ c ∧ c ≤ (10 : Int)] (Tree.branch (!allR c n a b u v) (Tree.leaf (RV.x (Value.int IntKind.i64 (2 : Int)))) (Tree.leaf (RV.x (Value.int IntKind.i64 (0 : Int))))))))) (by kernel_rfl) ?_
  simp only [Tree.sat, allP, fitP, valEq, true_and, and_true, flt]
  by_cases ht : tubeB c T lo hi = true
  · have hb := tube_bd ht
    by_cases hn : 12 < n
    · simp [ht, hn]; omega
    · cases ha : allR c n a b u v <;> simp [ht, hn, ha, isRec4 n a b u v] <;> omega
  · simp [ht]


theorem check_ok : SoundSpec Try.prog 80 S_check := by
  refine ⟨⟨_, Try.func80, by kernel_rfl, by kernel_rfl⟩, ?_⟩
  intro avs ns res h hn
  unfold S_check at h
  split at h
  · cases h
    have hr : isRec 4 _ _ := hn _ (List.mem_cons_self)
    exact (check_at _ _ _ _ _ (col 0 _) (col 1 _) (col 2 _) (col 3 _)).same (.cons (.refl _) (.cons (.lst 4 _ _ _ hr) .nil))
  · cases h

end Go.Proofs.Ytmdeoobmeokmeaa
/- Contracts of functions of the program, by the engine Sx: what each call comes to. Printed by a program of this repo (sxgen.py). -/
set_option linter.unusedSimpArgs false
set_option linter.unusedVariables false
namespace Go.Proofs.Ytmdeoobmeokmeaa
open Go Go.Sx Go.RowKit
set_option maxRecDepth 100000 in
theorem low_at (f : Nat → Int) (k : Nat) (pre0 : k ≤ 10) (pre1 : -1000000000000 ≤ f (k * 11 + 4) ∧ f (k * 11 + 4) ≤ 1000000000000) : SoundAt Try.prog 97 [.roI [] 125 f 0, i k] (i (-(f (k * 11 + 4)))) := by
  refine soundAt_fin (G := []) (L := []) (SoundG.nil _) mixed Try.func97 (show Try.f97.body = some (bodyOf Try.f97) by kernel_rfl) noLoops (t := (Tree.need [(0 : Int) ≤ (↑k : Int) ∧ (↑k : Int) < (↑(11 : Nat) : Int)] (Tree.need [(0 : Int) ≤ (0 : Int) ∧ (0 : Int) < (↑(11 : Nat) : Int)] (Tree.need [0 + (k * 11 + 4) < 125] (Tree.need [inI64 (-f (0 + (k * 11 + 4)))] (Tree.leaf (RV.x (Value.int IntKind.i64 (-f (0 + (k * 11 + 4))))))))))) (by kernel_rfl) ?_
  simp only [Tree.sat, allP, fitP, fitL, valEq, true_and, and_true, Int.toNat_natCast]
  rw [show 0 + (k * 11 + 4) = k * 11 + 4 by omega]
  simp only [inI64]
  simp
  omega


def S_low : Sx.Spec := fun l => match l with
  | [.roI [] 125 f 0, .x (.int .i64 k)] => some ([0 ≤ k ∧ k ≤ 10, -1000000000000 ≤ f (k.toNat * 11 + 4) ∧ f (k.toNat * 11 + 4) ≤ 1000000000000], i (-(f (k.toNat * 11 + 4))))
  | _ => none


theorem low_ok : SoundSpec Try.prog 97 S_low := by
  refine ⟨⟨_, Try.func97, by kernel_rfl, by kernel_rfl⟩, ?_⟩
  intro avs ns res h hn
  unfold S_low at h
  split at h
  · rename_i f k
    cases h
    have hk : 0 ≤ k ∧ k ≤ 10 := hn _ (by simp)
    have e : ((k.toNat : Nat) : Int) = k := by omega
    have h0 := low_at f k.toNat (by omega) (hn _ (by simp))
    rw [e] at h0
    exact h0
  · cases h

set_option maxRecDepth 100000 in
theorem high_at (f : Nat → Int) (k : Nat) (pre0 : k ≤ 10) (pre1 : -1000000000000 ≤ f (k * 11 + 4) ∧ f (k * 11 + 4) ≤ 1000000000000) : SoundAt Try.prog 98 [.roI [] 125 f 0, i k] (i (f (k + 4))) := by
  refine soundAt_fin (G := []) (L := []) (SoundG.nil _) mixed Try.func98 (show Try.f98.body = some (bodyOf Try.f98) by kernel_rfl) noLoops (t := (Tree.need [(0 : Int) ≤ (0 : Int) ∧ (0 : Int) < (↑(11 : Nat) : Int)] (Tree.need [(0 : Int) ≤ (↑k : Int) ∧ (↑k : Int) < (↑(11 : Nat) : Int)] (Tree.need [k * 1 + 4 < 125] (Tree.leaf (RV.x (Value.int IntKind.i64 (f (k * 1 + 4))))))))) (by kernel_rfl) ?_
  simp only [Tree.sat, allP, fitP, fitL, valEq, true_and, and_true, Int.toNat_natCast]
  rw [show k * 1 + 4 = k + 4 by omega]
  simp only [inI64]
  simp
  omega


def S_high : Sx.Spec := fun l => match l with
  | [.roI [] 125 f 0, .x (.int .i64 k)] => some ([0 ≤ k ∧ k ≤ 10, -1000000000000 ≤ f (k.toNat * 11 + 4) ∧ f (k.toNat * 11 + 4) ≤ 1000000000000], i (f (k.toNat + 4)))
  | _ => none


theorem high_ok : SoundSpec Try.prog 98 S_high := by
  refine ⟨⟨_, Try.func98, by kernel_rfl, by kernel_rfl⟩, ?_⟩
  intro avs ns res h hn
  unfold S_high at h
  split at h
  · rename_i f k
    cases h
    have hk : 0 ≤ k ∧ k ≤ 10 := hn _ (by simp)
    have e : ((k.toNat : Nat) : Int) = k := by omega
    have h0 := high_at f k.toNat (by omega) (hn _ (by simp))
    rw [e] at h0
    exact h0
  · cases h

def S_lowest : Sx.Spec := fun l => match l with
  | [] => some ([], .agg [.fn (.func 97) [] []])
  | _ => none

set_option maxRecDepth 100000 in
theorem lowest_at  : SoundAt Try.prog 76 [] (.agg [.fn (.func 97) [] []]) := by
  refine soundAt_fin (G := []) (L := []) (SoundG.nil _) mixed Try.func76 (show Try.f76.body = some (bodyOf Try.f76) by kernel_rfl) noLoops (t := (Tree.leaf (RV.agg [RV.fn (Fn.func 97)]))) (by kernel_rfl) ?_
  simp only [Tree.sat, allP, fitP, fitL, valEq, true_and, and_true, Int.toNat_natCast]
  repeat' first | with_reducible apply And.intro | with_reducible intro _
  all_goals first | exact True.intro | omega | with_reducible rfl | assumption
theorem lowest_ok : SoundSpec Try.prog 76 S_lowest := by
  refine ⟨⟨_, Try.func76, by kernel_rfl, by kernel_rfl⟩, ?_⟩
  intro avs ns res h hn
  unfold S_lowest at h
  split at h
  · cases h
    exact lowest_at 
  · cases h

def S_highest : Sx.Spec := fun l => match l with
  | [] => some ([], .agg [.fn (.func 98) [] []])
  | _ => none

set_option maxRecDepth 100000 in
theorem highest_at  : SoundAt Try.prog 77 [] (.agg [.fn (.func 98) [] []]) := by
  refine soundAt_fin (G := []) (L := []) (SoundG.nil _) mixed Try.func77 (show Try.f77.body = some (bodyOf Try.f77) by kernel_rfl) noLoops (t := (Tree.leaf (RV.agg [RV.fn (Fn.func 98)]))) (by kernel_rfl) ?_
  simp only [Tree.sat, allP, fitP, fitL, valEq, true_and, and_true, Int.toNat_natCast]
  repeat' first | with_reducible apply And.intro | with_reducible intro _
  all_goals first | exact True.intro | omega | with_reducible rfl | assumption
theorem highest_ok : SoundSpec Try.prog 77 S_highest := by
  refine ⟨⟨_, Try.func77, by kernel_rfl, by kernel_rfl⟩, ?_⟩
  intro avs ns res h hn
  unfold S_highest at h
  split at h
  · cases h
    exact highest_at 
  · cases h

set_option maxRecDepth 100000 in
theorem bounds_at (f : Nat → Int) (k : Nat) (pre0 : k ≤ 10) (pre1 : -1000000000000 ≤ f (k * 11 + 4) ∧ f (k * 11 + 4) ≤ 1000000000000) : SoundAt Try.prog 73 [.roI [] 125 f 0, i k] (.agg [i (-(f (k * 11 + 4))), i (f (k + 4))]) := by
  refine soundAt_fin (G := [(97, S_low), (98, S_high), (76, S_lowest), (77, S_highest)]) (L := []) (SoundG.cons low_ok (SoundG.cons high_ok (SoundG.cons lowest_ok (SoundG.cons highest_ok (SoundG.nil _))))) mixed Try.func73 (show Try.f73.body = some (bodyOf Try.f73) by kernel_rfl) noLoops (t := (Tree.need [(0 : Int) ≤ (↑k : Int) ∧ (↑k : Int) ≤ (10 : Int), (-1000000000000 : Int) ≤ f (k * 11 + 4) ∧ f (k * 11 + 4) ≤ (1000000000000 : Int)] (Tree.need [(0 : Int) ≤ (↑k : Int) ∧ (↑k : Int) ≤ (10 : Int), (-1000000000000 : Int) ≤ f (k * 11 + 4) ∧ f (k * 11 + 4) ≤ (1000000000000 : Int)] (Tree.leaf (RV.agg [RV.x (Value.int IntKind.i64 (-f (k * 11 + 4))), RV.x (Value.int IntKind.i64 (f (k + 4)))]))))) (by kernel_rfl) ?_
  simp only [Tree.sat, allP, fitP, fitL, valEq, true_and, and_true, Int.toNat_natCast]
  repeat' first | with_reducible apply And.intro | with_reducible intro _
  all_goals first | exact True.intro | omega | with_reducible rfl | assumption

end Go.Proofs.Ytmdeoobmeokmeaa
/- Contracts of functions of the program, by the engine Sx: what each call comes to. Printed by a program of this repo (sxgen.py). -/
set_option linter.unusedSimpArgs false
set_option linter.unusedVariables false
namespace Go.Proofs.Ytmdeoobmeokmeaa
open Go Go.Sx Go.RowKit

def S_bounds : Sx.Spec := fun l => match l with
  | [.roI [] 125 f 0, .x (.int .i64 k)] => some ([0 ≤ k ∧ k ≤ 10, -1000000000000 ≤ f (k.toNat * 11 + 4) ∧ f (k.toNat * 11 + 4) ≤ 1000000000000], .agg [i (-(f (k.toNat * 11 + 4))), i (f (k.toNat + 4))])
  | _ => none


theorem bounds_ok : SoundSpec Try.prog 73 S_bounds := by
  refine ⟨⟨_, Try.func73, by kernel_rfl, by kernel_rfl⟩, ?_⟩
  intro avs ns res h hn
  unfold S_bounds at h
  split at h
  · rename_i f k
    cases h
    have hk : 0 ≤ k ∧ k ≤ 10 := hn _ (by simp)
    have e : ((k.toNat : Nat) : Int) = k := by omega
    have h0 := bounds_at f k.toNat (by omega) (hn _ (by simp))
    rw [e] at h0
    exact h0
  · cases h


/-- The greatest difference of bounds, of so many marks. -/
def dbF (f : Nat → Int) : Nat → Int
  | 0 => 0
  | k + 1 => max (dbF f k) (f (k + 4) - -(f (k * 11 + 4)))


theorem dbF_bd {f : Nat → Int} {c : Nat} (h : ∀ k, k ≤ c → (-1000000000000 ≤ f (k * 11 + 4) ∧ f (k * 11 + 4) ≤ 1000000000000) ∧ (-1000000000000 ≤ f (k + 4) ∧ f (k + 4) ≤ 1000000000000)) : ∀ k, k ≤ c + 1 → 0 ≤ dbF f k ∧ dbF f k ≤ 2000000000000
  | 0, _ => by simp [dbF]
  | k + 1, hk => by
    have := dbF_bd h k (by omega)
    have := h k (by omega)
    simp only [dbF]
    omega

noncomputable def E_dt (c : Nat) (f : Nat → Int) : St := (some
  {
    σ :=
      [AV.roI [] (125 : Nat) (fun a => f a) (0 : Nat), AV.top, AV.top, AV.top, AV.top, AV.top, AV.top, AV.top, AV.top,
        AV.top, AV.x (Value.int IntKind.i64 (f (0 : Nat) + (1 : Int))), AV.top, AV.top, AV.top, AV.top, AV.top, AV.top,
        AV.top, AV.top, AV.top, AV.top, AV.top, AV.top, AV.top, AV.top, AV.top, AV.top],
    m := [], nx := (8 : Nat) } : Option St).getD { σ := [], m := [], nx := 0 }
noncomputable def B_dt : Code := loopBody (loopAt (bodyOf Try.f70) 0)
noncomputable def inv_dt (c : Nat) (f : Nat → Int) (k : Nat) : St := { σ := ovrS [(2, i (dbF f k)), (11, i k)] (E_dt c f).σ, m := (E_dt c f).m, nx := (E_dt c f).nx }
noncomputable def out_dt (c : Nat) (f : Nat → Int) (k : Nat) : AEx → Option St := fun ex => match ex with
  | .exit 0 => some { σ := ovrS [(2, i (dbF f (c + 1))), (11, i ((c + 1 : Nat) : Int))] (E_dt c f).σ, m := (E_dt c f).m, nx := (E_dt c f).nx }
  | _ => none
noncomputable def T_dt (c : Nat) (f : Nat → Int) : CT := .leaf (.exit 0, ( out_dt c f 0 (.exit 0)).getD (E_dt c f))
noncomputable def LS_dt (c : Nat) (f : Nat → Int) : LSpec := (sumL (inv_dt c f (0)) (T_dt c f))
set_option maxRecDepth 100000 in
theorem dt_ls (c : Nat) (f : Nat → Int) (pre0 : c ≤ 10) (pre1 : f 0 = c) (pre2 : ∀ k, k ≤ c → (-1000000000000 ≤ f (k * 11 + 4) ∧ f (k * 11 + 4) ≤ 1000000000000) ∧ (-1000000000000 ≤ f (k + 4) ∧ f (k + 4) ≤ 1000000000000)) : LSound Try.prog (.loop B_dt) (LS_dt c f) := by
  refine loop_rounds (G := [(73, S_bounds), (69, S_greatest)]) (L := []) (SoundG.cons bounds_ok (SoundG.cons greatest_ok (SoundG.nil _))) mixed noLoops (X := Nat) (inv_dt c f) (fun k => k ≤ c + 1) (fun k => c + 1 - k) (out_dt c f) (x0 := 0) (by simp) ?_ ?_ ?_
  · rintro k
    kernel_rfl
  · rintro k y E h
    unfold out_dt at h
    split at h
    · cases h; kernel_rfl
    · cases h
  · rintro Q hQ k hx
    refine ⟨(k + 1), ?_⟩
    have e : roundT Try.prog [(73, S_bounds), (69, S_greatest)] [] B_dt (inv_dt c f k) (inv_dt c f ((k + 1))) (out_dt c f k) = (Tree.branch (decide ((↑k : Int) < f 0 + (1 : Int))) (Tree.need [(0 : Int) ≤ (↑k : Int) ∧ (↑k : Int) ≤ (10 : Int), (-1000000000000 : Int) ≤ f (k * 11 + 4) ∧ f (k * 11 + 4) ≤ (1000000000000 : Int)] (Tree.need [inI64 (f (k + 4) - -f (k * 11 + 4))] (Tree.need [inI64 ((↑k : Int) + (1 : Int))] (Tree.need [AV.roI [] 125 (fun a => f a) 0 = AV.roI [] 125 (fun a => f a) 0, max (dbF f k) (f (k + 4) - -f (k * 11 + 4)) = dbF f (k + 1), f 0 + (1 : Int) = f 0 + (1 : Int), (↑k : Int) + (1 : Int) = (↑(k + 1) : Int)] (Tree.leaf AEx.normal))))) (Tree.need [AV.roI [] 125 (fun a => f a) 0 = AV.roI [] 125 (fun a => f a) 0, dbF f k = dbF f (c + 1), f 0 + (1 : Int) = f 0 + (1 : Int), (↑k : Int) = (↑(c + 1) : Int)] (Tree.leaf (AEx.exit 0)))) := by kernel_rfl
    rw [e]
    simp only [T_dt, out_dt, Tree.sat, Option.getD_some] at hQ
    simp only [Tree.sat, allP, true_and, and_true, decide_eq_true_eq, decide_eq_false_iff_not, inI64, out_dt, Int.toNat_natCast]
    refine ⟨fun h => ?_, fun h => ?_⟩
    · have h1 := pre2 k (by omega)
      have h2 := dbF_bd pre2 k (by omega)
      refine ⟨⟨by omega, h1.1⟩, by omega, by omega, ⟨rfl, by omega⟩, by omega, by omega⟩
    · obtain rfl : k = c + 1 := by omega
      exact ⟨⟨rfl, rfl⟩, fun E hE => by cases hE; exact hQ⟩

set_option maxRecDepth 100000 in
theorem doubt_at (c : Nat) (f : Nat → Int) (pre0 : c ≤ 10) (pre1 : f 0 = c) (pre2 : ∀ k, k ≤ c → (-1000000000000 ≤ f (k * 11 + 4) ∧ f (k * 11 + 4) ≤ 1000000000000) ∧ (-1000000000000 ≤ f (k + 4) ∧ f (k + 4) ≤ 1000000000000)) : SoundAt Try.prog 70 [.roI [] 125 f 0] (i (dbF f (c + 1))) := by
  refine soundAt_fin (G := [(73, S_bounds), (69, S_greatest)]) (L := [LS_dt c f]) (SoundG.cons bounds_ok (SoundG.cons greatest_ok (SoundG.nil _))) mixed Try.func70 (show Try.f70.body = some (bodyOf Try.f70) by kernel_rfl) (one_loop (fun cj hcj => by
    have e : loopAt (bodyOf Try.f70) 0 = some (.loop B_dt) := by kernel_rfl
    rw [e] at hcj; cases hcj
    exact dt_ls c f pre0 pre1 pre2)) (t := (Tree.need [0 < 125] (Tree.need [inI64 (f 0 + (1 : Int))] (Tree.need [AV.roI [] 125 (fun a => f a) 0 = AV.roI [] 125 (fun a => f a) 0, (0 : Int) = dbF f 0, f 0 + (1 : Int) = f 0 + (1 : Int), (0 : Int) = (↑(0 : Nat) : Int)] (Tree.leaf (RV.x (Value.int IntKind.i64 (dbF f (c + 1))))))))) (by kernel_rfl) ?_
  simp only [Tree.sat, allP, fitP, fitL, valEq, true_and, and_true, Int.toNat_natCast]
  simp only [inI64]
  have h2 := dbF_bd pre2 (c + 1) (by omega)
  repeat' first | with_reducible apply And.intro | with_reducible intro _
  all_goals first | exact True.intro | omega | with_reducible rfl | assumption | rfl


def S_doubt : Sx.Spec := fun l => match l with
  | [.roI [] 125 f 0] => some ([0 ≤ f 0 ∧ f 0 ≤ 10, ∀ k, k ≤ (f 0).toNat → (-1000000000000 ≤ f (k * 11 + 4) ∧ f (k * 11 + 4) ≤ 1000000000000) ∧ (-1000000000000 ≤ f (k + 4) ∧ f (k + 4) ≤ 1000000000000)], i (dbF f ((f 0).toNat + 1)))
  | _ => none


theorem doubt_ok : SoundSpec Try.prog 70 S_doubt := by
  refine ⟨⟨_, Try.func70, by kernel_rfl, by kernel_rfl⟩, ?_⟩
  intro avs ns res h hn
  unfold S_doubt at h
  split at h
  · rename_i f
    cases h
    have hk : 0 ≤ f 0 ∧ f 0 ≤ 10 := hn _ (by simp)
    exact doubt_at (f 0).toNat f (by omega) (by omega) (hn _ (by simp))
  · cases h

end Go.Proofs.Ytmdeoobmeokmeaa
/- Contracts of functions of the program, by the engine Sx: what each call comes to. Printed by a program of this repo (sxgen.py). -/
set_option linter.unusedSimpArgs false
set_option linter.unusedVariables false
namespace Go.Proofs.Ytmdeoobmeokmeaa
open Go Go.Sx Go.RowKit

abbrev siteB (c T lo hi : Int) (n : Nat) (a b u v : Nat → Int) : AV := siteA c.toNat T lo hi n a b u v
def okB (c T lo hi : Int) (n : Nat) (a b u v : Nat → Int) : Bool := okR c.toNat T lo hi n a b u v
def fltB (c T lo hi : Int) (n : Nat) (a b u v : Nat → Int) (r : Bool) : Int := if flt c T lo hi n a b u v = 0 then (if r then (if okB c T lo hi n a b u v then 0 else 9) else 2) else flt c T lo hi n a b u v


theorem flt_iff {c T lo hi : Int} {n : Nat} {a b u v : Nat → Int} : flt c T lo hi n a b u v = 0 ↔ tubeB c T lo hi = true ∧ n ≤ 12 ∧ allI (fun k => rdB c (a k) (b k) (u k) (v k)) n = true := by
  unfold flt allR
  split
  · rename_i h1
    split
    · rename_i h2
      constructor
      · intro h; cases h
      · intro h; omega
    · rename_i h2
      split
      · rename_i h3
        exact ⟨fun _ => ⟨h1, by omega, h3⟩, fun _ => rfl⟩
      · rename_i h3
        constructor
        · intro h; cases h
        · intro h; exact absurd h.2.2 h3
  · rename_i h1
    constructor
    · intro h; cases h
    · intro h; exact absurd h.1 h1
theorem fltB_iff {c T lo hi : Int} {n : Nat} {a b u v : Nat → Int} {r : Bool} : fltB c T lo hi n a b u v r = 0 ↔ flt c T lo hi n a b u v = 0 ∧ r = true ∧ okB c T lo hi n a b u v = true := by
  unfold fltB
  split
  · rename_i h1
    split
    · rename_i h2
      split
      · rename_i h3
        simp [h1, h2, h3]
      · rename_i h3
        simp [h1, h2, h3]
    · rename_i h2
      simp [h1, h2]
  · rename_i h1
    simp [h1]

set_option maxRecDepth 100000 in
theorem tried_at (c T lo hi : Int) (n : Nat) (a b u v : Nat → Int) (r : Bool) : SoundCAt Try.prog 64 [.agg [i c, i T, i lo, i hi], rds n a b u v, bl r] (.branch (decide (fltB c T lo hi n a b u v r = 0)) (.leaf (.tup [siteB c T lo hi n a b u v, i 0])) (.leaf (.tup [nilP, i (fltB c T lo hi n a b u v r)]))) := by
  refine soundCAt_fin (G := [(80, S_check)]) (X := { R := [], H := [], C := [(67, C_read)] }) (L := []) (SoundG.cons check_ok (SoundG.nil _)) (SoundX.ofC (SoundRL.nil _) (SoundHL.nil _) (SoundCL.cons read_okC (SoundCL.nil _))) mixed Try.func64 (show Try.f64.body = some (bodyOf Try.f64) by kernel_rfl) noLoopsS (t := (Tree.need [isRec 4 n fun k => [i (a k), i (b k), i (u k), i (v k)]] (Tree.branch (flt c T lo hi n a b u v != (0 : Int)) (Tree.leaf (AV.tup [AV.x (Value.pointer none), iI (flt c T lo hi n a b u v)])) (Tree.branch (!r) (Tree.leaf (AV.tup [AV.x (Value.pointer none), iI (2 : Int)])) (Tree.need [isRec 4 n fun k => [i (a k), i (b k), i (u k), i (v k)], (1 : Int) ≤ c ∧ c ≤ (10 : Int), (1 : Int) ≤ lo ∧ lo ≤ hi ∧ hi ≤ (200 : Int) ∧ (1 : Int) ≤ T ∧ T ≤ (2000 : Int), n ≤ 1000, allI (fun k => rdB c (a k) (b k) (u k) (v k)) n = true] (Tree.branch (okR (Int.toNat c) T lo hi n a b u v) (Tree.leaf (AV.tup [AV.roI [] 125 (fun k => siteF (↑(Int.toNat c) : Int) T lo hi (fwM (Int.toNat c) T lo hi n a b u v) k) 0, iI (0 : Int)])) (Tree.leaf (AV.tup [AV.x (Value.pointer none), iI (9 : Int)])))))))) (by kernel_rfl) ?_
  intro Q hQ
  have e : c.toNat = c ∨ c < 0 := by omega
  simp only [Tree.sat, allP, true_and, and_true, bne_iff_ne, ne_eq, decide_eq_true_eq, decide_eq_false_iff_not, Bool.not_eq_true', bne_eq_false_iff_eq] at hQ ⊢
  refine ⟨isRec4 n a b u v, fun h1 => ?_, fun h1 => ?_⟩
  · refine ⟨.tup [nilP, i (flt c T lo hi n a b u v)], ⟨rfl, ⟨rfl, rfl⟩, True.intro⟩, ?_⟩
    have h2 : fltB c T lo hi n a b u v r = flt c T lo hi n a b u v := by unfold fltB; rw [if_neg h1]
    rw [h2] at hQ
    exact hQ.2 h1
  · have hf := flt_iff.1 h1
    have hb := tube_bd hf.1
    refine ⟨fun h2 => ?_, fun h2 => ⟨⟨isRec4 n a b u v, hb.1, hb.2.1, by have := hf.2.1; omega, hf.2.2⟩, fun h3 => ?_, fun h3 => ?_⟩⟩
    · subst h2
      have h4 : fltB c T lo hi n a b u v false = 2 := by unfold fltB; rw [if_pos h1]; rfl
      rw [h4] at hQ
      exact ⟨.tup [nilP, i 2], ⟨rfl, ⟨rfl, rfl⟩, True.intro⟩, hQ.2 (by omega)⟩
    · have h2 : r = true := by simpa using h2
      subst h2
      have h4 : fltB c T lo hi n a b u v true = 0 := fltB_iff.2 ⟨h1, rfl, h3⟩
      exact ⟨.tup [siteB c T lo hi n a b u v, i 0], ⟨⟨rfl, rfl, fun _ _ => rfl, rfl⟩, ⟨rfl, rfl⟩, True.intro⟩, hQ.1 h4⟩
    · have h2 : r = true := by simpa using h2
      subst h2
      have h4 : fltB c T lo hi n a b u v true = 9 := by unfold fltB okB; rw [if_pos h1, h3]; rfl
      rw [h4] at hQ
      exact ⟨.tup [nilP, i 9], ⟨rfl, ⟨rfl, rfl⟩, True.intro⟩, hQ.2 (by omega)⟩


noncomputable def C_tried : CSpec := fun l => match l with
  | [.agg [.x (.int .i64 c), .x (.int .i64 T), .x (.int .i64 lo), .x (.int .i64 hi)], .lst 4 n f, .x (.bool r)] => some (.need [isRec 4 n f] (.branch (decide (fltB c T lo hi n (col 0 f) (col 1 f) (col 2 f) (col 3 f) r = 0)) (.leaf (.tup [siteB c T lo hi n (col 0 f) (col 1 f) (col 2 f) (col 3 f), i 0])) (.leaf (.tup [nilP, i (fltB c T lo hi n (col 0 f) (col 1 f) (col 2 f) (col 3 f) r)]))))
  | [.agg [.x (.int .i64 c), .x (.int .i64 T), .x (.int .i64 lo), .x (.int .i64 hi)], .lst 4 n f, .lit r] => some (.need [isRec 4 n f] (.branch (decide (fltB c T lo hi n (col 0 f) (col 1 f) (col 2 f) (col 3 f) r = 0)) (.leaf (.tup [siteB c T lo hi n (col 0 f) (col 1 f) (col 2 f) (col 3 f), i 0])) (.leaf (.tup [nilP, i (fltB c T lo hi n (col 0 f) (col 1 f) (col 2 f) (col 3 f) r)]))))
  | _ => none


theorem RepL.lits {e : Env} {w : World} {r : Bool} : ∀ {l : List AV} {vs : List Value}, RepL e w (l ++ [.lit r]) vs → RepL e w (l ++ [.x (.bool r)]) vs
  | [], vs, h => by
    obtain ⟨v, vs', rfl, hv, hvs⟩ := h.cons_inv
    cases hv
    exact RepL.cons (.x _) hvs
  | a :: l, vs, h => by
    obtain ⟨v, vs', rfl, hv, hvs⟩ := h.cons_inv
    exact RepL.cons hv (RepL.lits hvs)
theorem SoundCAt.lits {P : Program} {f : FuncId} {l : List AV} {r : Bool} {t : Tree AV} (h : SoundCAt P f (l ++ [.x (.bool r)]) t) : SoundCAt P f (l ++ [.lit r]) t := fun Q hQ e w args hro hidf hr => h Q hQ e w args hro (fun a ha => by
  rcases List.mem_append.1 ha with h1 | h1
  · exact hidf a (List.mem_append_left _ h1)
  · cases List.mem_singleton.1 h1
    exact .x _) (RepL.lits hr)


theorem tried_okC : Enters Try.prog 64 ∧ ∀ avs t, C_tried avs = some t → SoundCAt Try.prog 64 avs t := by
  refine ⟨⟨_, Try.func64, by kernel_rfl, by kernel_rfl⟩, ?_⟩
  intro avs t h
  unfold C_tried at h
  split at h
  · rename_i c T lo hi n f r
    cases h
    intro Q hQ
    have hr : isRec 4 n f := allP_mem hQ.1 _ (by simp)
    exact SoundCAt.same (tried_at c T lo hi n (col 0 f) (col 1 f) (col 2 f) (col 3 f) r) (.cons (.refl _) (.cons (.lst 4 n _ _ hr) (.cons (.refl _) .nil))) Q hQ.2
  · rename_i c T lo hi n f r
    cases h
    intro Q hQ
    have hr : isRec 4 n f := allP_mem hQ.1 _ (by simp)
    exact SoundCAt.lits (l := [.agg [.x (.int .i64 c), .x (.int .i64 T), .x (.int .i64 lo), .x (.int .i64 hi)], .lst 4 n f]) (SoundCAt.same (tried_at c T lo hi n (col 0 f) (col 1 f) (col 2 f) (col 3 f) r) (.cons (.refl _) (.cons (.lst 4 n _ _ hr) (.cons (.refl _) .nil)))) Q hQ.2
  · cases h

end Go.Proofs.Ytmdeoobmeokmeaa
/- Contracts of functions of the program, by the engine Sx: what each call comes to. Printed by a program of this repo (sxgen.py). -/
set_option linter.unusedSimpArgs false
set_option linter.unusedVariables false
namespace Go.Proofs.Ytmdeoobmeokmeaa
open Go Go.Sx Go.RowKit

/-- The bounds, the doubt, and the error, as the package computes them. -/
def eB (c T lo hi : Int) (n : Nat) (a b u v : Nat → Int) : Int := fltB c T lo hi n a b u v true
def fwB (c T lo hi : Int) (n : Nat) (a b u v : Nat → Int) : Nat → Nat → Int := fwM c.toNat T lo hi n a b u v
def sfB (c T lo hi : Int) (n : Nat) (a b u v : Nat → Int) : Nat → Int := siteF (c.toNat : Nat) T lo hi (fwB c T lo hi n a b u v)
def dtB (c T lo hi : Int) (n : Nat) (a b u v : Nat → Int) : Int := if eB c T lo hi n a b u v = 0 then dbF (sfB c T lo hi n a b u v) (c.toNat + 1) else 0
def lenB (c T lo hi : Int) (n : Nat) (a b u v : Nat → Int) : Nat := if eB c T lo hi n a b u v = 0 then c.toNat + 1 else 0


theorem rdB_v {c a b u v : Int} (h : rdB c a b u v = true) : (0 ≤ a ∧ a ≤ c - 1) ∧ (a ≤ b ∧ b ≤ c) ∧ 0 ≤ u ∧ u ≤ v ∧ v ≤ 2000 := by
  simp only [rdB, Bool.and_eq_true, bt_iff, insB_iff] at h
  omega
theorem fwM_bd {c T lo hi : Int} {n : Nat} {a b u v : Nat → Int} (h : flt c T lo hi n a b u v = 0) (x y : Nat) : -1000000000000 ≤ fwB c T lo hi n a b u v x y ∧ fwB c T lo hi n a b u v x y ≤ 2000 := by
  have hf := flt_iff.1 h
  have hb := tube_bd hf.1
  have hl := rdM_lb (c := c.toNat) (a := a) (b := b) hb.2.1 (fun j hj => (rdB_v (allI_iff.1 hf.2.2 j hj)).2.2) n (Nat.le_refl n)
  have h1 := LB_O (c := c.toNat) hl (c.toNat + 1) x y
  have h2 := pow6 c.toNat (by omega)
  rw [Int.pow_succ] at h1
  unfold fwB fwM
  omega
theorem sfB_0 (c T lo hi : Int) (n : Nat) (a b u v : Nat → Int) : sfB c T lo hi n a b u v 0 = c.toNat := rfl
theorem sfB_low (c T lo hi : Int) (n : Nat) (a b u v : Nat → Int) (k : Nat) : sfB c T lo hi n a b u v (k * 11 + 4) = fwB c T lo hi n a b u v k 0 := site_get _ _ _ _ _ (by omega) (by omega)
theorem sfB_high (c T lo hi : Int) (n : Nat) (a b u v : Nat → Int) {k : Nat} (hk : k ≤ 10) : sfB c T lo hi n a b u v (k + 4) = fwB c T lo hi n a b u v 0 k := site_get _ _ _ _ _ (by omega) (by omega)

set_option maxRecDepth 100000 in
theorem Doubt_at (c T lo hi : Int) (n : Nat) (a b u v : Nat → Int) : SoundAt Try.prog 36 [.agg [i c, i T, i lo, i hi], rds n a b u v] (.tup [i (dtB c T lo hi n a b u v), i (eB c T lo hi n a b u v)]) := by
  refine soundAt_finX (G := [(70, S_doubt)]) (X := { R := [], H := [], C := [(64, C_tried)] }) (L := []) (SoundG.cons doubt_ok (SoundG.nil _)) (SoundX.ofC (SoundRL.nil _) (SoundHL.nil _) (SoundCL.cons tried_okC (SoundCL.nil _))) mixed Try.func36 (show Try.f36.body = some (bodyOf Try.f36) by kernel_rfl) noLoopsS (t := (Tree.need [isRec 4 n fun k => [i (a k), i (b k), i (u k), i (v k)]] (Tree.branch (decide (fltB c T lo hi n a b u v true = (0 : Int))) (Tree.branch ((0 : Int) != (0 : Int)) (Tree.leaf (RV.tup [RV.x (Value.int IntKind.i64 (0 : Int)), RV.x (Value.int IntKind.i64 (0 : Int))])) (Tree.need [(0 : Int) ≤ siteF (↑(Int.toNat c) : Int) T lo hi (fwM (Int.toNat c) T lo hi n a b u v) 0 ∧ siteF (↑(Int.toNat c) : Int) T lo hi (fwM (Int.toNat c) T lo hi n a b u v) 0 ≤ (10 : Int), ∀ (k : Nat), k ≤ Int.toNat (siteF (↑(Int.toNat c) : Int) T lo hi (fwM (Int.toNat c) T lo hi n a b u v) 0) → ((-1000000000000 : Int) ≤ siteF (↑(Int.toNat c) : Int) T lo hi (fwM (Int.toNat c) T lo hi n a b u v) (k * 11 + 4) ∧ siteF (↑(Int.toNat c) : Int) T lo hi (fwM (Int.toNat c) T lo hi n a b u v) (k * 11 + 4) ≤ (1000000000000 : Int)) ∧ (-1000000000000 : Int) ≤ siteF (↑(Int.toNat c) : Int) T lo hi (fwM (Int.toNat c) T lo hi n a b u v) (k + 4) ∧ siteF (↑(Int.toNat c) : Int) T lo hi (fwM (Int.toNat c) T lo hi n a b u v) (k + 4) ≤ (1000000000000 : Int)] (Tree.leaf (RV.tup [RV.x (Value.int IntKind.i64 (dbF (siteF (↑(Int.toNat c) : Int) T lo hi (fwM (Int.toNat c) T lo hi n a b u v)) (Int.toNat (siteF (↑(Int.toNat c) : Int) T lo hi (fwM (Int.toNat c) T lo hi n a b u v) 0) + 1))), RV.x (Value.int IntKind.i64 (0 : Int))])))) (Tree.branch (fltB c T lo hi n a b u v true != (0 : Int)) (Tree.leaf (RV.tup [RV.x (Value.int IntKind.i64 (0 : Int)), RV.x (Value.int IntKind.i64 (fltB c T lo hi n a b u v true))])) Tree.fail)))) (by kernel_rfl) ?_
  have eq : ∀ k, siteF (c.toNat : Nat) T lo hi (fwM c.toNat T lo hi n a b u v) k = sfB c T lo hi n a b u v k := fun _ => rfl
  simp only [Tree.sat, allP, true_and, and_true, bne_iff_ne, ne_eq, decide_eq_true_eq, decide_eq_false_iff_not, Bool.not_eq_true', bne_eq_false_iff_eq, not_true_eq_false, false_imp_iff, eq, fitP]
  refine ⟨isRec4 n a b u v, fun h1 _ => ?_, fun h1 => ⟨fun _ => ?_, fun h2 => h1 h2⟩⟩
  · have hf := (fltB_iff.1 h1).1
    have hc := (tube_bd (flt_iff.1 hf).1).1
    have e0 : (sfB c T lo hi n a b u v 0).toNat = c.toNat := by rw [sfB_0]; omega
    refine ⟨⟨by rw [sfB_0]; omega, fun k hk => ?_⟩, ?_⟩
    · rw [e0] at hk
      rw [sfB_low, sfB_high _ _ _ _ _ _ _ _ _ (by omega)]
      have h2 := fwM_bd hf k 0
      have h3 := fwM_bd hf 0 k
      omega
    · rw [e0]
      unfold dtB eB
      rw [if_pos h1, h1]
      exact ⟨⟨rfl, rfl⟩, ⟨rfl, rfl⟩, True.intro⟩
  · unfold dtB eB
    rw [if_neg h1]
    exact ⟨⟨rfl, rfl⟩, ⟨rfl, rfl⟩, True.intro⟩


theorem chunk_mem {sz k : Nat} {l : List AV} {x : AV} (h : x ∈ chunk sz l k) : x ∈ l := List.mem_of_mem_drop (List.mem_of_mem_take h)
theorem one_of {sz k : Nat} {l : List AV} {x : AV} (hm : x ∈ chunk sz l k) (h : ∀ y ∈ l, AV.one y = true) : AV.one x = true := h x (chunk_mem hm)
theorem catF2 {k j : Nat} {a b : Nat → Int} {x y : Int} (h : j < k + 1) (hx : x = a k) (hy : y = b k) : catF k (fun k => [i (a k), i (b k)]) (chunk 2 [i x, i y]) j = [i (a j), i (b j)] := by
  have e : j - k = 0 := by omega
  show mergeL (decide (j < k)) [i (a j), i (b j)] (chunk 2 [i x, i y] (j - k)) = _
  rw [e]
  by_cases hj : j < k
  · rw [show decide (j < k) = true by simp [hj]]
    rfl
  · have hk : j = k := by omega
    rw [show decide (j < k) = false by simp [hj], hk, hx, hy]
    rfl
noncomputable def E_hs (c T lo hi : Int) (n : Nat) (a b u v : Nat → Int) : St := (some { σ := [.agg [i c, i T, i lo, i hi], rds n a b u v, .ptr 0 0, .top, .x (.slice none 0 0), i 0, siteB c T lo hi n a b u v, i 0, .top, .top, .top, .top, .top, .top, .top, .top, .top, .top, .top, .top, .top, i (c + 1), .top, .top, .top, .top, .top, .top, .top, .top, .top, .top, .top], m := [(900, .row 32 2 0 (fun _ => [])), (0, .cells 34 [i c, i T, i lo, i hi])], nx := 901 } : Option St).getD { σ := [], m := [], nx := 0 }
noncomputable def B_hs : Code := loopBody (loopAt (bodyOf Try.f29) 0)
noncomputable def inv_hs (c T lo hi : Int) (n : Nat) (a b u v : Nat → Int) (k : Nat) : St := { σ := ovrS [(8, .row 900), (22, i k)] (E_hs c T lo hi n a b u v).σ, m := [(900, .row 32 2 (k) (fun k => [i (-(fwB c T lo hi n a b u v k 0)), i (fwB c T lo hi n a b u v 0 k)])), (0, .cells 34 [i c, i T, i lo, i hi])], nx := (E_hs c T lo hi n a b u v).nx }
noncomputable def out_hs (c T lo hi : Int) (n : Nat) (a b u v : Nat → Int) (k : Nat) : AEx → Option St := fun ex => match ex with
  | .exit 0 => some { σ := ovrS [(8, .row 900)] (E_hs c T lo hi n a b u v).σ, m := [(900, .row 32 2 (c.toNat + 1) (fun k => [i (-(fwB c T lo hi n a b u v k 0)), i (fwB c T lo hi n a b u v 0 k)])), (0, .cells 34 [i c, i T, i lo, i hi])], nx := (E_hs c T lo hi n a b u v).nx }
  | _ => none
noncomputable def T_hs (c T lo hi : Int) (n : Nat) (a b u v : Nat → Int) : CT := .leaf (.exit 0, ( out_hs c T lo hi n a b u v 0 (.exit 0)).getD (E_hs c T lo hi n a b u v))
noncomputable def LS_hs (c T lo hi : Int) (n : Nat) (a b u v : Nat → Int) : LSpec := normSp [(.slot 8, 900, 32, 2)] (sumL (inv_hs c T lo hi n a b u v (0)) (T_hs c T lo hi n a b u v))
set_option maxRecDepth 100000 in
theorem hs_ls (c T lo hi : Int) (n : Nat) (a b u v : Nat → Int) (pre0 : flt c T lo hi n a b u v = 0) : LSound Try.prog (.loop B_hs) (LS_hs c T lo hi n a b u v) := by
  refine loop_roundsN [(.slot 8, 900, 32, 2)] (G := [(73, S_bounds)]) (L := []) (SoundG.cons bounds_ok (SoundG.nil _)) mixed noLoops (X := Nat) (inv_hs c T lo hi n a b u v) (fun k => k ≤ c.toNat + 1) (fun k => c.toNat + 1 - k) (out_hs c T lo hi n a b u v) (x0 := 0) (by simp) ?_ ?_ ?_
  · rintro k
    kernel_rfl
  · rintro k y E h
    unfold out_hs at h
    split at h
    · cases h; kernel_rfl
    · cases h
  · rintro Q hQ k hx
    refine ⟨(k + 1), ?_⟩
    have e : roundN Try.prog [(73, S_bounds)] [] [(.slot 8, 900, 32, 2)] B_hs (inv_hs c T lo hi n a b u v k) (inv_hs c T lo hi n a b u v ((k + 1))) (out_hs c T lo hi n a b u v k) = (Tree.branch (decide ((↑k : Int) < c + (1 : Int))) (Tree.need [(0 : Int) ≤ (↑k : Int) ∧ (↑k : Int) ≤ (10 : Int), (-1000000000000 : Int) ≤ siteF (↑(Int.toNat c) : Int) T lo hi (fwM (Int.toNat c) T lo hi n a b u v) (k * 11 + 4) ∧ siteF (↑(Int.toNat c) : Int) T lo hi (fwM (Int.toNat c) T lo hi n a b u v) (k * 11 + 4) ≤ (1000000000000 : Int)] (Tree.need [(k + 1) * 16 ≤ 140737488355328, ∀ (i : Nat), i < 1 → ∀ (a_2 : AV), a_2 ∈ chunk 2 [iI (-siteF (↑(Int.toNat c) : Int) T lo hi (fwM (Int.toNat c) T lo hi n a b u v) (k * 11 + 4)), iI (siteF (↑(Int.toNat c) : Int) T lo hi (fwM (Int.toNat c) T lo hi n a b u v) (k + 4))] i → AV.one a_2 = true] (Tree.need [inI64 ((↑k : Int) + (1 : Int))] (Tree.need [AV.agg [iI c, iI T, iI lo, iI hi] = AV.agg [iI c, iI T, iI lo, iI hi], (AV.lst 4 n fun k => [iI (a k), iI (b k), iI (u k), iI (v k)]) = AV.lst 4 n fun k => [iI (a k), iI (b k), iI (u k), iI (v k)], AV.ptr 0 0 = AV.ptr 0 0, AV.x (Value.slice none 0 0) = AV.x (Value.slice none 0 0), (0 : Int) = (0 : Int), AV.roI [] 125 (fun k => siteF (↑(Int.toNat c) : Int) T lo hi (fwM (Int.toNat c) T lo hi n a b u v) k) 0 = AV.roI [] 125 (fun k => siteF (↑(Int.toNat c) : Int) T lo hi (fwM (Int.toNat c) T lo hi n a b u v) k) 0, (0 : Int) = (0 : Int), AV.row 900 = AV.row 900, c + (1 : Int) = c + (1 : Int), (↑k : Int) + (1 : Int) = (↑(k + 1) : Int), k + 1 = k + 1, ∀ (i : Nat), i < k + 1 → catF k (fun k => [Ytmdeoobmeokmeaa.i (-fwB c T lo hi n a b u v k 0), Ytmdeoobmeokmeaa.i (fwB c T lo hi n a b u v 0 k)]) (chunk 2 [iI (-siteF (↑(Int.toNat c) : Int) T lo hi (fwM (Int.toNat c) T lo hi n a b u v) (k * 11 + 4)), iI (siteF (↑(Int.toNat c) : Int) T lo hi (fwM (Int.toNat c) T lo hi n a b u v) (k + 4))]) i = [Ytmdeoobmeokmeaa.i (-fwB c T lo hi n a b u v i 0), Ytmdeoobmeokmeaa.i (fwB c T lo hi n a b u v 0 i)], c = c, T = T, lo = lo, hi = hi] (Tree.leaf AEx.normal))))) (Tree.need [AV.agg [iI c, iI T, iI lo, iI hi] = AV.agg [iI c, iI T, iI lo, iI hi], (AV.lst 4 n fun k => [iI (a k), iI (b k), iI (u k), iI (v k)]) = AV.lst 4 n fun k => [iI (a k), iI (b k), iI (u k), iI (v k)], AV.ptr 0 0 = AV.ptr 0 0, AV.x (Value.slice none 0 0) = AV.x (Value.slice none 0 0), (0 : Int) = (0 : Int), AV.roI [] 125 (fun k => siteF (↑(Int.toNat c) : Int) T lo hi (fwM (Int.toNat c) T lo hi n a b u v) k) 0 = AV.roI [] 125 (fun k => siteF (↑(Int.toNat c) : Int) T lo hi (fwM (Int.toNat c) T lo hi n a b u v) k) 0, (0 : Int) = (0 : Int), AV.row 900 = AV.row 900, c + (1 : Int) = c + (1 : Int), k = Int.toNat c + 1, ∀ (i : Nat), i < Int.toNat c + 1 → [Ytmdeoobmeokmeaa.i (-fwB c T lo hi n a b u v i 0), Ytmdeoobmeokmeaa.i (fwB c T lo hi n a b u v 0 i)] = [Ytmdeoobmeokmeaa.i (-fwB c T lo hi n a b u v i 0), Ytmdeoobmeokmeaa.i (fwB c T lo hi n a b u v 0 i)], c = c, T = T, lo = lo, hi = hi] (Tree.leaf (AEx.exit 0)))) := by kernel_rfl
    rw [e]
    simp only [T_hs, out_hs, Tree.sat, Option.getD_some] at hQ
    have hc := (tube_bd (flt_iff.1 pre0).1).1
    have e0 : ((c.toNat : Nat) : Int) = c := by omega
    have eq : ∀ k, siteF c.toNat T lo hi (fwM c.toNat T lo hi n a b u v) k = sfB c T lo hi n a b u v k := fun _ => rfl
    simp only [Tree.sat, allP, fitP, fitL, valEq, inI64, true_and, and_true, decide_eq_true_eq, decide_eq_false_iff_not, Int.natCast_zero, Int.toNat_natCast, out_hs, eq]
    clear e
    refine ⟨fun h => ?_, fun h => ?_⟩
    · have h2 := fwM_bd pre0 k 0
      have h3 := fwM_bd pre0 0 k
      refine ⟨⟨by omega, by rw [sfB_low]; omega⟩, ⟨by omega, fun i hi a ha => one_of ha (by simp [AV.one, Value.oneCell'])⟩, by omega, ⟨by omega, fun i hi => catF2 hi (by rw [sfB_low]) (by rw [sfB_high _ _ _ _ _ _ _ _ _ (by omega)])⟩, by omega, by omega⟩
    · obtain rfl : k = c.toNat + 1 := by omega
      exact ⟨⟨rfl, fun _ _ => True.intro⟩, fun E hE => by cases hE; exact hQ⟩

set_option maxRecDepth 100000 in
theorem Heights_at1 (c T lo hi : Int) (n : Nat) (a b u v : Nat → Int) (pre0 : fltB c T lo hi n a b u v true = 0) (pre1 : flt c T lo hi n a b u v = 0) : SoundAt Try.prog 29 [.agg [i c, i T, i lo, i hi], rds n a b u v] (.tup [.lst 2 (lenB c T lo hi n a b u v) (fun k => [i (-(fwB c T lo hi n a b u v k 0)), i (fwB c T lo hi n a b u v 0 k)]), i (eB c T lo hi n a b u v)]) := by
  refine soundAt_finG (G := [(73, S_bounds)]) (X := { R := [], H := [], C := [(64, C_tried)] }) (L := [LS_hs c T lo hi n a b u v]) (Gd.go true (Gd.go false Gd.rest)) (SoundG.cons bounds_ok (SoundG.nil _)) (SoundX.ofC (SoundRL.nil _) (SoundHL.nil _) (SoundCL.cons tried_okC (SoundCL.nil _))) mixed Try.func29 (show Try.f29.body = some (bodyOf Try.f29) by kernel_rfl) (one_loop (fun cj hcj => by
    have e : loopAt (bodyOf Try.f29) 0 = some (.loop B_hs) := by kernel_rfl
    rw [e] at hcj; cases hcj
    exact (hs_ls c T lo hi n a b u v pre1).N)) (t := (Tree.need [isRec 4 n fun k => [i (a k), i (b k), i (u k), i (v k)]] (Tree.need [decide (fltB c T lo hi n a b u v true = (0 : Int)) = true] (Tree.need [((0 : Int) != (0 : Int)) = false] (Tree.need [inI64 (c + (1 : Int))] (Tree.need [AV.agg [iI c, iI T, iI lo, iI hi] = AV.agg [iI c, iI T, iI lo, iI hi], (AV.lst 4 n fun k => [iI (a k), iI (b k), iI (u k), iI (v k)]) = AV.lst 4 n fun k => [iI (a k), iI (b k), iI (u k), iI (v k)], AV.ptr 0 0 = AV.ptr 0 0, AV.x (Value.slice none 0 0) = AV.x (Value.slice none 0 0), (0 : Int) = (0 : Int), AV.roI [] 125 (fun k => siteF (↑(Int.toNat c) : Int) T lo hi (fwM (Int.toNat c) T lo hi n a b u v) k) 0 = AV.roI [] 125 (fun k => siteF (↑(Int.toNat c) : Int) T lo hi (fwM (Int.toNat c) T lo hi n a b u v) k) 0, (0 : Int) = (0 : Int), AV.row 900 = AV.row 900, c + (1 : Int) = c + (1 : Int), (0 : Int) = (↑(0 : Nat) : Int), 0 = 0, ∀ (i : Nat), i < 0 → [] = [Ytmdeoobmeokmeaa.i (-fwB c T lo hi n a b u v i 0), Ytmdeoobmeokmeaa.i (fwB c T lo hi n a b u v 0 i)], c = c, T = T, lo = lo, hi = hi] (Tree.leaf (RV.tup [RV.lst 2 (Int.toNat c + 1) fun k => [iI (-fwB c T lo hi n a b u v k 0), iI (fwB c T lo hi n a b u v 0 k)], RV.x (Value.int IntKind.i64 (0 : Int))])))))))) (by kernel_rfl) ?_
  have hc := (tube_bd (flt_iff.1 pre1).1).1
  have hl : lenB c T lo hi n a b u v = c.toNat + 1 := if_pos pre0
  have he : eB c T lo hi n a b u v = 0 := pre0
  rw [hl, he]
  simp only [Tree.sat, allP, fitP, fitL, valEq, inI64, true_and, and_true]
  (repeat' first | with_reducible apply And.intro | with_reducible intro _)
  all_goals first | exact True.intro | with_reducible rfl | omega | exact isRec4 _ _ _ _ _ | (simp [*]; done) | (rename_i hm; simp only [List.mem_cons, List.not_mem_nil, or_false] at hm; rcases hm with rfl | rfl <;> exact True.intro)

set_option maxRecDepth 100000 in
theorem Heights_at0 (c T lo hi : Int) (n : Nat) (a b u v : Nat → Int) (pre0 : fltB c T lo hi n a b u v true ≠ 0) : SoundAt Try.prog 29 [.agg [i c, i T, i lo, i hi], rds n a b u v] (.tup [.lst 2 (lenB c T lo hi n a b u v) (fun k => [i (-(fwB c T lo hi n a b u v k 0)), i (fwB c T lo hi n a b u v 0 k)]), i (eB c T lo hi n a b u v)]) := by
  refine soundAt_finG (G := [(73, S_bounds)]) (X := { R := [], H := [], C := [(64, C_tried)] }) (L := []) (Gd.go false (Gd.go true Gd.rest)) (SoundG.cons bounds_ok (SoundG.nil _)) (SoundX.ofC (SoundRL.nil _) (SoundHL.nil _) (SoundCL.cons tried_okC (SoundCL.nil _))) mixed Try.func29 (show Try.f29.body = some (bodyOf Try.f29) by kernel_rfl) noLoopsS (t := (Tree.need [isRec 4 n fun k => [i (a k), i (b k), i (u k), i (v k)]] (Tree.need [decide (fltB c T lo hi n a b u v true = (0 : Int)) = false] (Tree.need [(fltB c T lo hi n a b u v true != (0 : Int)) = true] (Tree.leaf (RV.tup [RV.x (Value.slice none 0 0), RV.x (Value.int IntKind.i64 (fltB c T lo hi n a b u v true))])))))) (by kernel_rfl) ?_
  have hl : lenB c T lo hi n a b u v = 0 := if_neg pre0
  have he : eB c T lo hi n a b u v = fltB c T lo hi n a b u v true := rfl
  rw [hl, he]
  simp only [Tree.sat, allP, fitP, fitL, valEq, inI64, true_and, and_true]
  (repeat' first | with_reducible apply And.intro | with_reducible intro _)
  all_goals first | exact True.intro | with_reducible rfl | omega | exact isRec4 _ _ _ _ _ | (simp [*]; done)


def S_Doubt : Sx.Spec := fun l => match l with
  | [.agg [.x (.int .i64 c), .x (.int .i64 T), .x (.int .i64 lo), .x (.int .i64 hi)], .lst 4 n f] => some ([isRec 4 n f], .tup [i (dtB c T lo hi n (col 0 f) (col 1 f) (col 2 f) (col 3 f)), i (eB c T lo hi n (col 0 f) (col 1 f) (col 2 f) (col 3 f))])
  | _ => none
def S_Heights : Sx.Spec := fun l => match l with
  | [.agg [.x (.int .i64 c), .x (.int .i64 T), .x (.int .i64 lo), .x (.int .i64 hi)], .lst 4 n f] => some ([isRec 4 n f], .tup [.lst 2 (lenB c T lo hi n (col 0 f) (col 1 f) (col 2 f) (col 3 f)) (fun k => [i (-(fwB c T lo hi n (col 0 f) (col 1 f) (col 2 f) (col 3 f) k 0)), i (fwB c T lo hi n (col 0 f) (col 1 f) (col 2 f) (col 3 f) 0 k)]), i (eB c T lo hi n (col 0 f) (col 1 f) (col 2 f) (col 3 f))])
  | _ => none


theorem Doubt_ok : SoundSpec Try.prog 36 S_Doubt := by
  refine ⟨⟨_, Try.func36, by kernel_rfl, by kernel_rfl⟩, ?_⟩
  intro avs ns res h hn
  unfold S_Doubt at h
  split at h
  · rename_i c T lo hi n f
    cases h
    have hr : isRec 4 n f := hn _ (List.mem_cons_self)
    exact (Doubt_at c T lo hi n (col 0 f) (col 1 f) (col 2 f) (col 3 f)).same (.cons (.refl _) (.cons (.lst 4 n _ _ hr) .nil))
  · cases h


theorem Heights_at (c T lo hi : Int) (n : Nat) (a b u v : Nat → Int) : SoundAt Try.prog 29 [.agg [i c, i T, i lo, i hi], rds n a b u v] (.tup [.lst 2 (lenB c T lo hi n a b u v) (fun k => [i (-(fwB c T lo hi n a b u v k 0)), i (fwB c T lo hi n a b u v 0 k)]), i (eB c T lo hi n a b u v)]) := by
  by_cases h : fltB c T lo hi n a b u v true = 0
  · exact Heights_at1 c T lo hi n a b u v h (fltB_iff.1 h).1
  · exact Heights_at0 c T lo hi n a b u v h


theorem Heights_ok : SoundSpec Try.prog 29 S_Heights := by
  refine ⟨⟨_, Try.func29, by kernel_rfl, by kernel_rfl⟩, ?_⟩
  intro avs ns res h hn
  unfold S_Heights at h
  split at h
  · rename_i c T lo hi n f
    cases h
    have hr : isRec 4 n f := hn _ (List.mem_cons_self)
    exact (Heights_at c T lo hi n (col 0 f) (col 1 f) (col 2 f) (col 3 f)).same (.cons (.refl _) (.cons (.lst 4 n _ _ hr) .nil))
  · cases h

end Go.Proofs.Ytmdeoobmeokmeaa
/- Contracts of functions of the program, by the engine Sx: what each call comes to. Printed by a program of this repo (sxgen.py). -/
set_option linter.unusedSimpArgs false
set_option linter.unusedVariables false
namespace Go.Proofs.Ytmdeoobmeokmeaa
open Go Go.Sx Go.RowKit

/-- Where a mark would stand in an even tube. -/
def plB (c T h : Int) : Int := (1000 * c * h).tdiv T


theorem tdiv_le {a b N : Int} (h : -N ≤ a ∧ a ≤ N) : -N ≤ a.tdiv b ∧ a.tdiv b ≤ N := by
  have := Int.natAbs_tdiv_le_natAbs a b
  omega

def S_place : Sx.Spec := fun l => match l with
  | [.agg [.x (.int .i64 c), .x (.int .i64 T), .x (.int .i64 lo), .x (.int .i64 hi)], .x (.int .i64 h)] => some ([1 ≤ c ∧ c ≤ 10, 1 ≤ T, -1000000000000 ≤ h ∧ h ≤ 1000000000000], i (plB c T h))
  | _ => none

set_option maxRecDepth 100000 in
theorem place_at (c T lo hi h : Int) (pre0 : 1 ≤ c ∧ c ≤ 10) (pre1 : 1 ≤ T) (pre2 : -1000000000000 ≤ h ∧ h ≤ 1000000000000) : SoundAt Try.prog 74 [.agg [i c, i T, i lo, i hi], i h] (i (plB c T h)) := by
  refine soundAt_fin (G := []) (L := []) (SoundG.nil _) mixed Try.func74 (show Try.f74.body = some (bodyOf Try.f74) by kernel_rfl) noLoops (t := (Tree.need [inI64 ((1000 : Int) * c)] (Tree.need [inI64 ((1000 : Int) * c * h)] (Tree.need [T ≠ (0 : Int), inI64 (Int.tdiv ((1000 : Int) * c * h) T)] (Tree.leaf (RV.x (Value.int IntKind.i64 (Int.tdiv ((1000 : Int) * c * h) T)))))))) (by kernel_rfl) ?_
  have h1 := mul_bd (x := 1000 * c) (y := h) (X := 10000) (Y := 1000000000000) (by omega) (by omega)
  have h2 := tdiv_le (b := T) h1
  simp only [Tree.sat, allP, fitP, fitL, valEq, inI64, true_and, and_true, plB]
  exact ⟨by omega, by omega, by omega, by omega⟩
theorem place_ok : SoundSpec Try.prog 74 S_place := by
  refine ⟨⟨_, Try.func74, by kernel_rfl, by kernel_rfl⟩, ?_⟩
  intro avs ns res h hn
  unfold S_place at h
  split at h
  · cases h
    exact place_at _ _ _ _ _ (hn _ (by simp)) (hn _ (by simp)) (hn _ (by simp))
  · cases h

noncomputable def E_ps (c T lo hi : Int) (n : Nat) (a b u v : Nat → Int) : St := (some
  {
    σ :=
      [AV.agg
          [AV.x (Value.int IntKind.i64 c), AV.x (Value.int IntKind.i64 T), AV.x (Value.int IntKind.i64 lo),
            AV.x (Value.int IntKind.i64 hi)],
        AV.lst (4 : Nat) n fun k =>
          [AV.x (Value.int IntKind.i64 (a k)), AV.x (Value.int IntKind.i64 (b k)), AV.x (Value.int IntKind.i64 (u k)),
            AV.x (Value.int IntKind.i64 (v k))],
        AV.ptr (0 : Nat) (0 : Nat), AV.top, AV.x (Value.slice none (0 : Nat) (0 : Nat)),
        AV.x (Value.int IntKind.i64 (0 : Int)),
        AV.lst (2 : Nat) (lenB c T lo hi n a b u v) fun k =>
          [AV.x (Value.int IntKind.i64 (-fwB c T lo hi n a b u v k (0 : Nat))),
            AV.x (Value.int IntKind.i64 (fwB c T lo hi n a b u v (0 : Nat) k))],
        AV.x (Value.int IntKind.i64 (eB c T lo hi n a b u v)), AV.top, AV.top, AV.top, AV.top, AV.top, AV.top, AV.top,
        AV.top, AV.top, AV.top, AV.top, AV.top,
        AV.lst (2 : Nat) (lenB c T lo hi n a b u v) fun k =>
          [AV.x (Value.int IntKind.i64 (-fwB c T lo hi n a b u v k (0 : Nat))),
            AV.x (Value.int IntKind.i64 (fwB c T lo hi n a b u v (0 : Nat) k))],
        AV.x (Value.int IntKind.i64 (↑(lenB c T lo hi n a b u v) : Int)), AV.top, AV.top, AV.top, AV.top, AV.top,
        AV.top, AV.top, AV.top, AV.top, AV.top, AV.top, AV.top, AV.top, AV.top, AV.top, AV.top, AV.top, AV.top],
    m :=
      [((900 : Nat), Res.row (32 : Nat) (2 : Nat) (0 : Nat) fun x => []),
        ((0 : Nat),
          Res.cells (34 : Nat)
            [AV.x (Value.int IntKind.i64 c), AV.x (Value.int IntKind.i64 T), AV.x (Value.int IntKind.i64 lo),
              AV.x (Value.int IntKind.i64 hi)])],
    nx := (901 : Nat) } : Option St).getD { σ := [], m := [], nx := 0 }
noncomputable def B_ps : Code := loopBody (loopAt (bodyOf Try.f35) 0)
noncomputable def inv_ps (c T lo hi : Int) (n : Nat) (a b u v : Nat → Int) (k : Nat) : St := { σ := ovrS [(8, .row 900), (22, i k)] (E_ps c T lo hi n a b u v).σ, m := [(900, .row 32 2 (k) (fun k => [i (plB c T (-(fwB c T lo hi n a b u v k 0))), i (plB c T (fwB c T lo hi n a b u v 0 k))])), (0, .cells 34 [i c, i T, i lo, i hi])], nx := (E_ps c T lo hi n a b u v).nx }
noncomputable def out_ps (c T lo hi : Int) (n : Nat) (a b u v : Nat → Int) (k : Nat) : AEx → Option St := fun ex => match ex with
  | .exit 0 => some { σ := ovrS [(8, .row 900)] (E_ps c T lo hi n a b u v).σ, m := [(900, .row 32 2 (lenB c T lo hi n a b u v) (fun k => [i (plB c T (-(fwB c T lo hi n a b u v k 0))), i (plB c T (fwB c T lo hi n a b u v 0 k))])), (0, .cells 34 [i c, i T, i lo, i hi])], nx := (E_ps c T lo hi n a b u v).nx }
  | _ => none
noncomputable def T_ps (c T lo hi : Int) (n : Nat) (a b u v : Nat → Int) : CT := .leaf (.exit 0, ( out_ps c T lo hi n a b u v 0 (.exit 0)).getD (E_ps c T lo hi n a b u v))
noncomputable def LS_ps (c T lo hi : Int) (n : Nat) (a b u v : Nat → Int) : LSpec := normSp [(.slot 8, 900, 32, 2)] (sumL (inv_ps c T lo hi n a b u v (0)) (T_ps c T lo hi n a b u v))
set_option maxRecDepth 100000 in
theorem ps_ls (c T lo hi : Int) (n : Nat) (a b u v : Nat → Int) (pre0 : flt c T lo hi n a b u v = 0) (pre1 : fltB c T lo hi n a b u v true = 0) : LSound Try.prog (.loop B_ps) (LS_ps c T lo hi n a b u v) := by
  refine loop_roundsN [(.slot 8, 900, 32, 2)] (G := [(29, S_Heights), (74, S_place)]) (L := []) (SoundG.cons Heights_ok (SoundG.cons place_ok (SoundG.nil _))) mixed noLoops (X := Nat) (inv_ps c T lo hi n a b u v) (fun k => k ≤ lenB c T lo hi n a b u v) (fun k => lenB c T lo hi n a b u v - k) (out_ps c T lo hi n a b u v) (x0 := 0) (by simp) ?_ ?_ ?_
  · rintro k
    kernel_rfl
  · rintro k y E h
    unfold out_ps at h
    split at h
    · cases h; kernel_rfl
    · cases h
  · rintro Q hQ k hx
    refine ⟨(k + 1), ?_⟩
    have e : roundN Try.prog [(29, S_Heights), (74, S_place)] [] [(.slot 8, 900, 32, 2)] B_ps (inv_ps c T lo hi n a b u v k) (inv_ps c T lo hi n a b u v ((k + 1))) (out_ps c T lo hi n a b u v k) = (Tree.branch (decide ((↑k : Int) < (↑(lenB c T lo hi n a b u v) : Int))) (Tree.need [(0 : Int) ≤ (↑k : Int) ∧ (↑k : Int) < (↑(lenB c T lo hi n a b u v) : Int)] (Tree.need [(1 : Int) ≤ c ∧ c ≤ (10 : Int), (1 : Int) ≤ T, (-1000000000000 : Int) ≤ -fwB c T lo hi n a b u v k 0 ∧ -fwB c T lo hi n a b u v k 0 ≤ (1000000000000 : Int)] (Tree.need [(1 : Int) ≤ c ∧ c ≤ (10 : Int), (1 : Int) ≤ T, (-1000000000000 : Int) ≤ fwB c T lo hi n a b u v 0 k ∧ fwB c T lo hi n a b u v 0 k ≤ (1000000000000 : Int)] (Tree.need [(k + 1) * 16 ≤ 140737488355328, ∀ (i : Nat), i < 1 → ∀ (a_2 : AV), a_2 ∈ chunk 2 [iI (plB c T (-fwB c T lo hi n a b u v k 0)), iI (plB c T (fwB c T lo hi n a b u v 0 k))] i → AV.one a_2 = true] (Tree.need [inI64 ((↑k : Int) + (1 : Int))] (Tree.need [AV.agg [iI c, iI T, iI lo, iI hi] = AV.agg [iI c, iI T, iI lo, iI hi], (AV.lst 4 n fun k => [iI (a k), iI (b k), iI (u k), iI (v k)]) = AV.lst 4 n fun k => [iI (a k), iI (b k), iI (u k), iI (v k)], AV.ptr 0 0 = AV.ptr 0 0, AV.x (Value.slice none 0 0) = AV.x (Value.slice none 0 0), (0 : Int) = (0 : Int), (AV.lst 2 (lenB c T lo hi n a b u v) fun k => [iI (-fwB c T lo hi n a b u v k 0), iI (fwB c T lo hi n a b u v 0 k)]) = AV.lst 2 (lenB c T lo hi n a b u v) fun k => [iI (-fwB c T lo hi n a b u v k 0), iI (fwB c T lo hi n a b u v 0 k)], eB c T lo hi n a b u v = eB c T lo hi n a b u v, AV.row 900 = AV.row 900, (AV.lst 2 (lenB c T lo hi n a b u v) fun k => [iI (-fwB c T lo hi n a b u v k 0), iI (fwB c T lo hi n a b u v 0 k)]) = AV.lst 2 (lenB c T lo hi n a b u v) fun k => [iI (-fwB c T lo hi n a b u v k 0), iI (fwB c T lo hi n a b u v 0 k)], (↑(lenB c T lo hi n a b u v) : Int) = (↑(lenB c T lo hi n a b u v) : Int), (↑k : Int) + (1 : Int) = (↑(k + 1) : Int), k + 1 = k + 1, ∀ (i : Nat), i < k + 1 → catF k (fun k => [Ytmdeoobmeokmeaa.i (plB c T (-fwB c T lo hi n a b u v k 0)), Ytmdeoobmeokmeaa.i (plB c T (fwB c T lo hi n a b u v 0 k))]) (chunk 2 [iI (plB c T (-fwB c T lo hi n a b u v k 0)), iI (plB c T (fwB c T lo hi n a b u v 0 k))]) i = [Ytmdeoobmeokmeaa.i (plB c T (-fwB c T lo hi n a b u v i 0)), Ytmdeoobmeokmeaa.i (plB c T (fwB c T lo hi n a b u v 0 i))], c = c, T = T, lo = lo, hi = hi] (Tree.leaf AEx.normal))))))) (Tree.need [AV.agg [iI c, iI T, iI lo, iI hi] = AV.agg [iI c, iI T, iI lo, iI hi], (AV.lst 4 n fun k => [iI (a k), iI (b k), iI (u k), iI (v k)]) = AV.lst 4 n fun k => [iI (a k), iI (b k), iI (u k), iI (v k)], AV.ptr 0 0 = AV.ptr 0 0, AV.x (Value.slice none 0 0) = AV.x (Value.slice none 0 0), (0 : Int) = (0 : Int), (AV.lst 2 (lenB c T lo hi n a b u v) fun k => [iI (-fwB c T lo hi n a b u v k 0), iI (fwB c T lo hi n a b u v 0 k)]) = AV.lst 2 (lenB c T lo hi n a b u v) fun k => [iI (-fwB c T lo hi n a b u v k 0), iI (fwB c T lo hi n a b u v 0 k)], eB c T lo hi n a b u v = eB c T lo hi n a b u v, AV.row 900 = AV.row 900, (AV.lst 2 (lenB c T lo hi n a b u v) fun k => [iI (-fwB c T lo hi n a b u v k 0), iI (fwB c T lo hi n a b u v 0 k)]) = AV.lst 2 (lenB c T lo hi n a b u v) fun k => [iI (-fwB c T lo hi n a b u v k 0), iI (fwB c T lo hi n a b u v 0 k)], (↑(lenB c T lo hi n a b u v) : Int) = (↑(lenB c T lo hi n a b u v) : Int), k = lenB c T lo hi n a b u v, ∀ (i : Nat), i < lenB c T lo hi n a b u v → [Ytmdeoobmeokmeaa.i (plB c T (-fwB c T lo hi n a b u v i 0)), Ytmdeoobmeokmeaa.i (plB c T (fwB c T lo hi n a b u v 0 i))] = [Ytmdeoobmeokmeaa.i (plB c T (-fwB c T lo hi n a b u v i 0)), Ytmdeoobmeokmeaa.i (plB c T (fwB c T lo hi n a b u v 0 i))], c = c, T = T, lo = lo, hi = hi] (Tree.leaf (AEx.exit 0)))) := by kernel_rfl
    rw [e]
    simp only [T_ps, out_ps, Tree.sat, Option.getD_some] at hQ
    have hc := (tube_bd (flt_iff.1 pre0).1)
    have hl : lenB c T lo hi n a b u v = c.toNat + 1 := if_pos pre1
    rw [hl] at hx hQ
    simp only [Tree.sat, allP, fitP, fitL, valEq, inI64, true_and, and_true, decide_eq_true_eq, decide_eq_false_iff_not, Int.natCast_zero, Int.toNat_natCast, out_ps, hl]
    clear e
    refine ⟨fun h => ?_, fun h => ?_⟩
    · have h2 := fwM_bd pre0 k 0
      have h3 := fwM_bd pre0 0 k
      refine ⟨by omega, by omega, by omega, ⟨by omega, fun i hi a ha => one_of ha (by simp [AV.one, Value.oneCell'])⟩, by omega, ⟨by omega, fun i hi => catF2 hi rfl rfl⟩, by omega, by omega⟩
    · obtain rfl : k = c.toNat + 1 := by omega
      exact ⟨⟨rfl, fun _ _ => True.intro⟩, fun E hE => by cases hE; exact hQ⟩

set_option maxRecDepth 100000 in
theorem Places_at1 (c T lo hi : Int) (n : Nat) (a b u v : Nat → Int) (pre0 : fltB c T lo hi n a b u v true = 0) (pre1 : flt c T lo hi n a b u v = 0) : SoundAt Try.prog 35 [.agg [i c, i T, i lo, i hi], rds n a b u v] (.tup [.lst 2 (lenB c T lo hi n a b u v) (fun k => [i (plB c T (-(fwB c T lo hi n a b u v k 0))), i (plB c T (fwB c T lo hi n a b u v 0 k))]), i (eB c T lo hi n a b u v)]) := by
  refine soundAt_finG (G := [(29, S_Heights), (74, S_place)]) (X := { R := [], H := [] }) (L := [LS_ps c T lo hi n a b u v]) (Gd.go false Gd.rest) (SoundG.cons Heights_ok (SoundG.cons place_ok (SoundG.nil _))) (SoundX.of (SoundRL.nil _) (SoundHL.nil _)) mixed Try.func35 (show Try.f35.body = some (bodyOf Try.f35) by kernel_rfl) (one_loop (fun cj hcj => by
    have e : loopAt (bodyOf Try.f35) 0 = some (.loop B_ps) := by kernel_rfl
    rw [e] at hcj; cases hcj
    exact (ps_ls c T lo hi n a b u v pre1 pre0).N)) (t := (Tree.need [isRec 4 n fun k => [i (a k), i (b k), i (u k), i (v k)]] (Tree.need [(eB c T lo hi n a b u v != (0 : Int)) = false] (Tree.need [AV.agg [iI c, iI T, iI lo, iI hi] = AV.agg [iI c, iI T, iI lo, iI hi], (AV.lst 4 n fun k => [iI (a k), iI (b k), iI (u k), iI (v k)]) = AV.lst 4 n fun k => [iI (a k), iI (b k), iI (u k), iI (v k)], AV.ptr 0 0 = AV.ptr 0 0, AV.x (Value.slice none 0 0) = AV.x (Value.slice none 0 0), (0 : Int) = (0 : Int), (AV.lst 2 (lenB c T lo hi n a b u v) fun k => [iI (-fwB c T lo hi n a b u v k 0), iI (fwB c T lo hi n a b u v 0 k)]) = AV.lst 2 (lenB c T lo hi n a b u v) fun k => [iI (-fwB c T lo hi n a b u v k 0), iI (fwB c T lo hi n a b u v 0 k)], eB c T lo hi n a b u v = eB c T lo hi n a b u v, AV.row 900 = AV.row 900, (AV.lst 2 (lenB c T lo hi n a b u v) fun k => [iI (-fwB c T lo hi n a b u v k 0), iI (fwB c T lo hi n a b u v 0 k)]) = AV.lst 2 (lenB c T lo hi n a b u v) fun k => [iI (-fwB c T lo hi n a b u v k 0), iI (fwB c T lo hi n a b u v 0 k)], (↑(lenB c T lo hi n a b u v) : Int) = (↑(lenB c T lo hi n a b u v) : Int), (0 : Int) = (↑(0 : Nat) : Int), 0 = 0, ∀ (i : Nat), i < 0 → [] = [Ytmdeoobmeokmeaa.i (plB c T (-fwB c T lo hi n a b u v i 0)), Ytmdeoobmeokmeaa.i (plB c T (fwB c T lo hi n a b u v 0 i))], c = c, T = T, lo = lo, hi = hi] (Tree.leaf (RV.tup [RV.lst 2 (lenB c T lo hi n a b u v) fun k => [iI (plB c T (-fwB c T lo hi n a b u v k 0)), iI (plB c T (fwB c T lo hi n a b u v 0 k))], RV.x (Value.int IntKind.i64 (0 : Int))])))))) (by kernel_rfl) ?_
  have hc := (tube_bd (flt_iff.1 pre1).1).1
  have hl : lenB c T lo hi n a b u v = c.toNat + 1 := if_pos pre0
  have he : eB c T lo hi n a b u v = 0 := pre0
  
  simp only [Tree.sat, allP, fitP, fitL, valEq, inI64, true_and, and_true]
  (repeat' first | with_reducible apply And.intro | with_reducible intro _)
  all_goals first | exact True.intro | with_reducible rfl | omega | exact isRec4 _ _ _ _ _ | (simp [*]; done) | (rename_i hm; simp only [List.mem_cons, List.not_mem_nil, or_false] at hm; rcases hm with rfl | rfl <;> exact True.intro)

set_option maxRecDepth 100000 in
theorem Places_at0 (c T lo hi : Int) (n : Nat) (a b u v : Nat → Int) (pre0 : fltB c T lo hi n a b u v true ≠ 0) : SoundAt Try.prog 35 [.agg [i c, i T, i lo, i hi], rds n a b u v] (.tup [.lst 2 (lenB c T lo hi n a b u v) (fun k => [i (plB c T (-(fwB c T lo hi n a b u v k 0))), i (plB c T (fwB c T lo hi n a b u v 0 k))]), i (eB c T lo hi n a b u v)]) := by
  refine soundAt_finG (G := [(29, S_Heights), (74, S_place)]) (X := { R := [], H := [] }) (L := []) (Gd.go true Gd.rest) (SoundG.cons Heights_ok (SoundG.cons place_ok (SoundG.nil _))) (SoundX.of (SoundRL.nil _) (SoundHL.nil _)) mixed Try.func35 (show Try.f35.body = some (bodyOf Try.f35) by kernel_rfl) noLoopsS (t := (Tree.need [isRec 4 n fun k => [i (a k), i (b k), i (u k), i (v k)]] (Tree.need [(eB c T lo hi n a b u v != (0 : Int)) = true] (Tree.leaf (RV.tup [RV.x (Value.slice none 0 0), RV.x (Value.int IntKind.i64 (eB c T lo hi n a b u v))]))))) (by kernel_rfl) ?_
  have hl : lenB c T lo hi n a b u v = 0 := if_neg pre0
  have he : eB c T lo hi n a b u v ≠ 0 := pre0
  rw [hl]
  
  simp only [Tree.sat, allP, fitP, fitL, valEq, inI64, true_and, and_true]
  (repeat' first | with_reducible apply And.intro | with_reducible intro _)
  all_goals first | exact True.intro | with_reducible rfl | omega | exact isRec4 _ _ _ _ _ | (simp [*]; done) | (rename_i hm; simp only [List.mem_cons, List.not_mem_nil, or_false] at hm; rcases hm with rfl | rfl <;> exact True.intro)


def S_Places : Sx.Spec := fun l => match l with
  | [.agg [.x (.int .i64 c), .x (.int .i64 T), .x (.int .i64 lo), .x (.int .i64 hi)], .lst 4 n f] => some ([isRec 4 n f], .tup [.lst 2 (lenB c T lo hi n (col 0 f) (col 1 f) (col 2 f) (col 3 f)) (fun k => [i (plB c T (-(fwB c T lo hi n (col 0 f) (col 1 f) (col 2 f) (col 3 f) k 0))), i (plB c T (fwB c T lo hi n (col 0 f) (col 1 f) (col 2 f) (col 3 f) 0 k))]), i (eB c T lo hi n (col 0 f) (col 1 f) (col 2 f) (col 3 f))])
  | _ => none


theorem Places_at (c T lo hi : Int) (n : Nat) (a b u v : Nat → Int) : SoundAt Try.prog 35 [.agg [i c, i T, i lo, i hi], rds n a b u v] (.tup [.lst 2 (lenB c T lo hi n a b u v) (fun k => [i (plB c T (-(fwB c T lo hi n a b u v k 0))), i (plB c T (fwB c T lo hi n a b u v 0 k))]), i (eB c T lo hi n a b u v)]) := by
  by_cases h : fltB c T lo hi n a b u v true = 0
  · exact Places_at1 c T lo hi n a b u v h (fltB_iff.1 h).1
  · exact Places_at0 c T lo hi n a b u v h


theorem Places_ok : SoundSpec Try.prog 35 S_Places := by
  refine ⟨⟨_, Try.func35, by kernel_rfl, by kernel_rfl⟩, ?_⟩
  intro avs ns res h hn
  unfold S_Places at h
  split at h
  · rename_i c T lo hi n f
    cases h
    have hr : isRec 4 n f := hn _ (List.mem_cons_self)
    exact (Places_at c T lo hi n (col 0 f) (col 1 f) (col 2 f) (col 3 f)).same (.cons (.refl _) (.cons (.lst 4 n _ _ hr) .nil))
  · cases h

end Go.Proofs.Ytmdeoobmeokmeaa
