/- Texts of this claim, put together: BoM, BoN, BoO, BoP, CeA, CeB, CeC, CeD, BoQ, BoR, BoS, BoT, BoU, BoV, BoW, BoX, BoY, BoZ, BpA, BpB, BpC, BpD, BpE, CeE, CeF, CeG, CeH -/
import Derived.Test.YtlinbkmpkcmniaaGreatMl
import Derived.WalkKit
import Derived.Lib.Walk
import Derived.Lib.SliceRun
import Derived.Lib.AppendZerosOnto
set_option linter.unusedSimpArgs false
set_option linter.unusedVariables false
set_option maxRecDepth 100000
namespace Go.Proofs.YtlinbkmpkcmniaaGreat.Bo
open Go Go.Sx Go.RowKit
open Go.Sx.Tree (need branch leaf)
open Go.Sx.AV (lst ptr agg roI tup top)
end Go.Proofs.YtlinbkmpkcmniaaGreat.Bo
namespace Go.Proofs.YtlinbkmpkcmniaaGreat.Bo
open Go Go.Sx Go.RowKit
open Go.Sx.Tree (need branch leaf)
open Go.Sx.AV (lst ptr agg roI tup top)
theorem isRec1 (n : Nat) (f : Nat → Int) : isRec 1 n (fun k => [i (f k)]) := fun _ _ => rfl
end Go.Proofs.YtlinbkmpkcmniaaGreat.Bo
namespace Go.Proofs.YtlinbkmpkcmniaaGreat.Bo
open Go Go.Sx Go.RowKit
open Go.Sx.Tree (need branch leaf)
open Go.Sx.AV (lst ptr agg roI tup top)
def selF (f g : Nat → Int) (j : Nat) : Int := f (g j).toNat
theorem catF4 {k j : Nat} {a b c d : Nat → Int} {x y z v : Int} (h : j < k + 1) (hx : x = a k) (hy : y = b k) (hz : z = c k) (hv : v = d k) : catF k (fun k => [i (a k), i (b k), i (c k), i (d k)]) (chunk 4 [i x, i y, i z, i v]) j = [i (a j), i (b j), i (c j), i (d j)] := by
 have e : j - k = 0 := by omega
 show mergeL (decide (j < k)) [i (a j), i (b j), i (c j), i (d j)] (chunk 4 [i x, i y, i z, i v] (j - k)) = _
 rw [e]
 by_cases hj : j < k
 ·rw [show decide (j < k) = true by simp [hj]]
  rfl
 ·have hk : j = k := by omega
  rw [show decide (j < k) = false by simp [hj], hk, hx, hy, hz, hv]
  rfl
end Go.Proofs.YtlinbkmpkcmniaaGreat.Bo
namespace Go.Proofs.YtlinbkmpkcmniaaGreat.Bo
open Go Go.Sx Go.RowKit
open Go.Sx.Tree (need branch leaf)
open Go.Sx.AV (lst ptr agg roI tup top)
theorem sel_rd {c : Int} {n m : Nat} {a b u v g : Nat → Int} (h : allI (fun k => rdB c (a k) (b k) (u k) (v k)) n = true) (hg : ∀ j, j < m → 0 ≤ g j ∧ g j < n) : allI (fun k => rdB c (selF a g k) (selF b g k) (selF u g k) (selF v g k)) m = true :=
 allI_iff.2 fun j hj => allI_iff.1 h (g j).toNat (by have := hg j hj; omega)
end Go.Proofs.YtlinbkmpkcmniaaGreat.Bo
namespace Go.Proofs.YtlinbkmpkcmniaaGreat
open Go Go.Sx Go.RowKit Bo
open Go.Sx.Tree (need branch leaf)
open Go.Sx.AV (lst ptr agg roI tup top)
theorem mixed : Tryz.prog.follows .mixedOrders = true := by kernel_rfl
abbrev i (n : Int) : AV := .x (.int .i64 n)
abbrev iI (n : Int) : AV := .x (.int .i64 n)
abbrev bl (b : Bool) : AV := .x (.bool b)
abbrev bt := Bo.bt
abbrev insB := Bo.insB
def dnI (n d : Int) : Int := n.tdiv d
def upI (n d : Int) : Int := (n + d - 1).tdiv d
theorem bt_iff (lo n hi : Int) : bt lo n hi = true ↔ lo ≤ n ∧ n ≤ hi := Bo.bt_iff lo n hi
theorem insB_iff (lo a b hi : Int) : insB lo a b hi = true ↔ lo ≤ a ∧ a ≤ b ∧ b ≤ hi := Bo.insB_iff lo a b hi
theorem dn_spec {n d : Int} (hn : 0 ≤ n) (hd : 1 ≤ d) : dnI n d * d ≤ n ∧ n < dnI n d * d + d ∧ 0 ≤ dnI n d ∧ dnI n d ≤ n := by
 unfold dnI
 rw [Int.tdiv_eq_ediv_of_nonneg hn]
 have h1 := Int.mul_ediv_add_emod n d
 have h2 := Int.emod_nonneg n (show d ≠ 0 by omega)
 have h3 := Int.emod_lt_of_pos n (show 0 < d by omega)
 have h4 := Int.ediv_nonneg hn (show 0 ≤ d by omega)
 have h5 := Int.ediv_le_self d hn
 rw [Int.mul_comm] at h1
 omega
theorem up_spec {n d : Int} (hn : 0 ≤ n) (hd : 1 ≤ d) : upI n d * d - d < n ∧ n ≤ upI n d * d ∧ 0 ≤ upI n d ∧ upI n d ≤ n := by
 have h := dn_spec (n := n + d - 1) (by omega) hd
 have e : upI n d = dnI (n + d - 1) d := rfl
 rw [e]
 refine ⟨by omega, by omega, h.2.2.1, ?_⟩
 rcases Int.lt_or_le n (dnI (n + d - 1) d) with h1 | h1
 ·have h2 := Int.mul_le_mul_of_nonneg_right (show n + 1 ≤ dnI (n + d - 1) d by omega) (show 0 ≤ d by omega)
  rw [Int.add_mul, Int.one_mul] at h2
  have h3 := Int.mul_nonneg hn (show 0 ≤ d - 1 by omega)
  rw [Int.mul_sub, Int.mul_one] at h3
  omega
 ·exact h1
def S_within : Sx.Spec := fun l => match l with
 | [.x (.int .i64 n), .x (.int .i64 lo), .x (.int .i64 hi)] => some ([], bl (bt lo n hi))
 | _ => none
theorem within_at (n lo hi : Int) : SoundAt Tryz.prog 66 [i n, i lo, i hi] (bl (bt lo n hi)) := by
 refine soundAt_fin (G := []) (L := []) (SoundG.nil _) mixed Tryz.func66 (show Tryz.f66.body = some (bodyOf Tryz.f66) by kernel_rfl) noLoops (t := (branch (decide (lo ≤ n)) (leaf (RV.x (Value.bool (decide (n ≤ hi))))) (leaf (RV.x (Value.bool false))))) (by kernel_rfl) ?_
 simp only [Tree.sat, allP, fitP, fitL, valEq, true_and, and_true]
 all_goals (simp +contextual [bt, insB, Bo.bt, Bo.insB, Bool.and_assoc])
 all_goals omega
theorem within_ok : SoundSpec Tryz.prog 66 S_within := by
 refine ⟨⟨_, Tryz.func66, by kernel_rfl, by kernel_rfl⟩, ?_⟩
 intro avs ns res h hn
 unfold S_within at h
 split at h
 ·cases h
  exact within_at _ _ _
 ·cases h
def S_inside : Sx.Spec := fun l => match l with
 | [.agg [.x (.int .i64 a), .x (.int .i64 b)], .x (.int .i64 lo), .x (.int .i64 hi)] => some ([], bl (insB lo a b hi))
 | _ => none
theorem inside_at (a b lo hi : Int) : SoundAt Tryz.prog 117 [.agg [i a, i b], i lo, i hi] (bl (insB lo a b hi)) := by
 refine soundAt_fin (G := []) (L := []) (SoundG.nil _) mixed Tryz.func117 (show Tryz.f117.body = some (bodyOf Tryz.f117) by kernel_rfl) noLoops (t := (branch (decide (lo ≤ a)) (branch (decide (a ≤ b)) (leaf (RV.x (Value.bool (decide (b ≤ hi))))) (leaf (RV.x (Value.bool false)))) (leaf (RV.x (Value.bool false))))) (by kernel_rfl) ?_
 simp only [Tree.sat, allP, fitP, fitL, valEq, true_and, and_true]
 all_goals (simp +contextual [bt, insB, Bo.bt, Bo.insB, Bool.and_assoc])
 all_goals omega
theorem inside_ok : SoundSpec Tryz.prog 117 S_inside := by
 refine ⟨⟨_, Tryz.func117, by kernel_rfl, by kernel_rfl⟩, ?_⟩
 intro avs ns res h hn
 unfold S_inside at h
 split at h
 ·cases h
  exact inside_at _ _ _ _
 ·cases h
def S_down : Sx.Spec := fun l => match l with
 | [.x (.int .i64 n), .x (.int .i64 d)] => some ([1 ≤ d ∧ d ≤ 100000, 0 ≤ n ∧ n ≤ 1000000000000], i (dnI n d))
 | _ => none
theorem down_at (n d : Int) (pre0 : 1 ≤ d ∧ d ≤ 100000) (pre1 : 0 ≤ n ∧ n ≤ 1000000000000) : SoundAt Tryz.prog 99 [i n, i d] (i (dnI n d)) := by
 refine soundAt_fin (G := []) (L := []) (SoundG.nil _) mixed Tryz.func99 (show Tryz.f99.body = some (bodyOf Tryz.f99) by kernel_rfl) noLoops (t := (need [d ≠ (0 : Int), inI64 (Int.tdiv n d)] (leaf (RV.x (Value.int IntKind.i64 (Int.tdiv n d)))))) (by kernel_rfl) ?_
 have h := dn_spec pre1.1 pre0.1
 unfold dnI at h ⊢
 simp only [Tree.sat, allP, fitP, fitL, valEq, inI64, true_and, and_true]
 omega
theorem down_ok : SoundSpec Tryz.prog 99 S_down := by
 refine ⟨⟨_, Tryz.func99, by kernel_rfl, by kernel_rfl⟩, ?_⟩
 intro avs ns res h hn
 unfold S_down at h
 split at h
 ·cases h
  exact down_at _ _ (hn _ (by simp)) (hn _ (by simp))
 ·cases h
def S_up : Sx.Spec := fun l => match l with
 | [.x (.int .i64 n), .x (.int .i64 d)] => some ([1 ≤ d ∧ d ≤ 100000, 0 ≤ n ∧ n ≤ 1000000000000], i (upI n d))
 | _ => none
theorem up_at (n d : Int) (pre0 : 1 ≤ d ∧ d ≤ 100000) (pre1 : 0 ≤ n ∧ n ≤ 1000000000000) : SoundAt Tryz.prog 100 [i n, i d] (i (upI n d)) := by
 refine soundAt_fin (G := []) (L := []) (SoundG.nil _) mixed Tryz.func100 (show Tryz.f100.body = some (bodyOf Tryz.f100) by kernel_rfl) noLoops (t := (need [inI64 (n + d)] (need [inI64 (n + d - (1 : Int))] (need [d ≠ (0 : Int), inI64 (Int.tdiv (n + d - (1 : Int)) d)] (leaf (RV.x (Value.int IntKind.i64 (Int.tdiv (n + d - (1 : Int)) d)))))))) (by kernel_rfl) ?_
 have h := up_spec pre1.1 pre0.1
 unfold upI at h ⊢
 simp only [Tree.sat, allP, fitP, fitL, valEq, inI64, true_and, and_true]
 omega
theorem up_ok : SoundSpec Tryz.prog 100 S_up := by
 refine ⟨⟨_, Tryz.func100, by kernel_rfl, by kernel_rfl⟩, ?_⟩
 intro avs ns res h hn
 unfold S_up at h
 split at h
 ·cases h
  exact up_at _ _ (hn _ (by simp)) (hn _ (by simp))
 ·cases h
theorem dr_bd {a day : Int} (ha : 0 ≤ a ∧ a ≤ 100) (hd : 0 ≤ day ∧ day ≤ 100000) : 0 ≤ a * day ∧ a * day ≤ 10000000 := by
 have h1 := Int.mul_nonneg ha.1 hd.1
 have h2 := Bo.mul_bd (x := a) (y := day) (X := 100) (Y := 100000) (by omega) (by omega)
 omega
def S_risen : Sx.Spec := fun l => match l with
 | [.agg [.x (.int .i64 a), .x (.int .i64 b)], .x (.int .i64 day)] => some ([0 ≤ a ∧ a ≤ 100, 0 ≤ b ∧ b ≤ 100, 0 ≤ day ∧ day ≤ 100000], .agg [i (dnI (a * day) 100), i (upI (b * day) 100)])
 | _ => none
theorem risen_at (a b day : Int) (pre0 : 0 ≤ a ∧ a ≤ 100) (pre1 : 0 ≤ b ∧ b ≤ 100) (pre2 : 0 ≤ day ∧ day ≤ 100000) : SoundAt Tryz.prog 127 [.agg [i a, i b], i day] (.agg [i (dnI (a * day) 100), i (upI (b * day) 100)]) := by
 refine soundAt_fin (G := [(99, S_down), (100, S_up)]) (L := []) (SoundG.cons down_ok (SoundG.cons up_ok (SoundG.nil _))) mixed Tryz.func127 (show Tryz.f127.body = some (bodyOf Tryz.f127) by kernel_rfl) noLoops (t := (need [inI64 (a * day)] (need [(1 : Int) ≤ 100 ∧ (100 : Int) ≤ 100000, (0 : Int) ≤ a * day ∧ a * day ≤ (1000000000000 : Int)] (need [inI64 (b * day)] (need [(1 : Int) ≤ 100 ∧ (100 : Int) ≤ 100000, (0 : Int) ≤ b * day ∧ b * day ≤ (1000000000000 : Int)] (leaf (RV.agg [RV.x (Value.int IntKind.i64 (dnI (a * day) (100 : Int))), RV.x (Value.int IntKind.i64 (upI (b * day) (100 : Int)))]))))))) (by kernel_rfl) ?_
 have h1 := dr_bd pre0 pre2
 have h2 := dr_bd pre1 pre2
 simp only [Tree.sat, allP, fitP, fitL, valEq, inI64, true_and, and_true]
 omega
theorem risen_ok : SoundSpec Tryz.prog 127 S_risen := by
 refine ⟨⟨_, Tryz.func127, by kernel_rfl, by kernel_rfl⟩, ?_⟩
 intro avs ns res h hn
 unfold S_risen at h
 split at h
 ·cases h
  exact risen_at _ _ _ (hn _ (by simp)) (hn _ (by simp)) (hn _ (by simp))
 ·cases h
def onL (f : Nat → Int) (k : Nat) (day : Int) : Int := f (4 + 2 * k) - upI (f 3 * day) 100
def onH (f : Nat → Int) (k : Nat) (day : Int) : Int := f (5 + 2 * k) - dnI (f 2 * day) 100
def teM (c : Int) (k : Nat) : Int := dnI (1000 * k) c
def drB (f : Nat → Int) : Prop := (0 ≤ f 2 ∧ f 2 ≤ 100) ∧ (0 ≤ f 3 ∧ f 3 ≤ 100)
def bdB (f : Nat → Int) : Prop := ∀ j, j < 22 → -100000000000 ≤ f (4 + j) ∧ f (4 + j) ≤ 100000000000
theorem ri_bd {f : Nat → Int} {day : Int} (h : drB f) (hd : 0 ≤ day ∧ day ≤ 100000) : (0 ≤ upI (f 3 * day) 100 ∧ upI (f 3 * day) 100 ≤ 10000000) ∧ 0 ≤ dnI (f 2 * day) 100 ∧ dnI (f 2 * day) 100 ≤ 10000000 := by
 have h1 := dr_bd h.1 hd
 have h2 := dr_bd h.2 hd
 have h3 := dn_spec h1.1 (show (1 : Int) ≤ 100 by omega)
 have h4 := up_spec h2.1 (show (1 : Int) ≤ 100 by omega)
 omega
theorem low_at (c T lo hi : Int) (A B : AV) (f : Nat → Int) (k : Nat) (day : Int) (pre0 : drB f) (pre1 : bdB f) (pre2 : k ≤ 10) (pre3 : 0 ≤ day ∧ day ≤ 100000) : SoundAt Tryz.prog 102 [.roI [i c, i T, i lo, i hi, A, B] 26 f 0, i k, i day] (i (onL f k day)) := by
 refine soundAt_fin (G := [(127, S_risen)]) (L := []) (SoundG.cons risen_ok (SoundG.nil _)) mixed Tryz.func102 (show Tryz.f102.body = some (bodyOf Tryz.f102) by kernel_rfl) noLoops (t := (need [(0 : Int) ≤ (↑k : Int) ∧ (↑k : Int) < (↑(11 : Nat) : Int)] (need [k * 2 + 10 + 0 - 1 - 1 - 1 - 1 - 1 - 1 < 26] (need [2 + 2 ≤ 26] (need [(0 : Int) ≤ f (2 + nat_lit 0) ∧ f (2 + nat_lit 0) ≤ (100 : Int), (0 : Int) ≤ f (2 + nat_lit 1) ∧ f (2 + nat_lit 1) ≤ (100 : Int), (0 : Int) ≤ day ∧ day ≤ (100000 : Int)] (need [inI64 (f (k * 2 + 10 + 0 - 1 - 1 - 1 - 1 - 1 - 1) - upI (f (2 + nat_lit 1) * day) (100 : Int))] (leaf (RV.x (Value.int IntKind.i64 (f (k * 2 + 10 + 0 - 1 - 1 - 1 - 1 - 1 - 1) - upI (f (2 + nat_lit 1) * day) (100 : Int))))))))))) (by kernel_rfl) ?_
 have h0 := ri_bd pre0 pre3
 have h1 := pre1 (2 * k) (by omega)
 have h2 := pre1 (2 * k + 1) (by omega)
 rw [show 4 + (2 * k + 1) = 5 + 2 * k by omega] at h2
 have d1 := pre0.1
 have d2 := pre0.2
 
 have hi6 : inI64 (f (4 + 2 * k) - upI (f 3 * day) 100) := by
  simp only [inI64]
  omega
 simp only [Tree.sat, allP, fitP, fitL, valEq, true_and, and_true]
 rw [show k * 2 + 10 + 0 - 1 - 1 - 1 - 1 - 1 - 1 = 4 + 2 * k by omega]
 exact ⟨by omega, by omega, by omega, ⟨d1, d2, pre3⟩, hi6, rfl⟩
def S_low : Sx.Spec := fun l => match l with
 | [.roI [.x (.int .i64 c), .x (.int .i64 T), .x (.int .i64 lo), .x (.int .i64 hi), A, B] 26 f 0, .x (.int .i64 k), .x (.int .i64 day)] => some ([drB f, bdB f, 0 ≤ k ∧ k ≤ 10, 0 ≤ day ∧ day ≤ 100000], i (onL f k.toNat day))
 | _ => none
theorem low_ok : SoundSpec Tryz.prog 102 S_low := by
 refine ⟨⟨_, Tryz.func102, by kernel_rfl, by kernel_rfl⟩, ?_⟩
 intro avs ns res h hn
 unfold S_low at h
 split at h
 ·rename_i c T lo hi A B f k day
  cases h
  have hk : 0 ≤ k ∧ k ≤ 10 := hn _ (by simp)
  have e : ((k.toNat : Nat) : Int) = k := by omega
  have h0 := low_at c T lo hi A B f k.toNat day (hn _ (by simp)) (hn _ (by simp)) (by omega) (hn _ (by simp))
  rw [e] at h0
  exact h0
 ·cases h
theorem high_at (c T lo hi : Int) (A B : AV) (f : Nat → Int) (k : Nat) (day : Int) (pre0 : drB f) (pre1 : bdB f) (pre2 : k ≤ 10) (pre3 : 0 ≤ day ∧ day ≤ 100000) : SoundAt Tryz.prog 103 [.roI [i c, i T, i lo, i hi, A, B] 26 f 0, i k, i day] (i (onH f k day)) := by
 refine soundAt_fin (G := [(127, S_risen)]) (L := []) (SoundG.cons risen_ok (SoundG.nil _)) mixed Tryz.func103 (show Tryz.f103.body = some (bodyOf Tryz.f103) by kernel_rfl) noLoops (t := (need [(0 : Int) ≤ (↑k : Int) ∧ (↑k : Int) < (↑(11 : Nat) : Int)] (need [k * 2 + 10 + 1 - 1 - 1 - 1 - 1 - 1 - 1 < 26] (need [2 + 2 ≤ 26] (need [(0 : Int) ≤ f (2 + nat_lit 0) ∧ f (2 + nat_lit 0) ≤ (100 : Int), (0 : Int) ≤ f (2 + nat_lit 1) ∧ f (2 + nat_lit 1) ≤ (100 : Int), (0 : Int) ≤ day ∧ day ≤ (100000 : Int)] (need [inI64 (f (k * 2 + 10 + 1 - 1 - 1 - 1 - 1 - 1 - 1) - dnI (f (2 + nat_lit 0) * day) (100 : Int))] (leaf (RV.x (Value.int IntKind.i64 (f (k * 2 + 10 + 1 - 1 - 1 - 1 - 1 - 1 - 1) - dnI (f (2 + nat_lit 0) * day) (100 : Int))))))))))) (by kernel_rfl) ?_
 have h0 := ri_bd pre0 pre3
 have h1 := pre1 (2 * k) (by omega)
 have h2 := pre1 (2 * k + 1) (by omega)
 rw [show 4 + (2 * k + 1) = 5 + 2 * k by omega] at h2
 have d1 := pre0.1
 have d2 := pre0.2
 
 have hi6 : inI64 (f (5 + 2 * k) - dnI (f 2 * day) 100) := by
  simp only [inI64]
  omega
 simp only [Tree.sat, allP, fitP, fitL, valEq, true_and, and_true]
 rw [show k * 2 + 10 + 1 - 1 - 1 - 1 - 1 - 1 - 1 = 5 + 2 * k by omega]
 exact ⟨by omega, by omega, by omega, ⟨d1, d2, pre3⟩, hi6, rfl⟩
def S_high : Sx.Spec := fun l => match l with
 | [.roI [.x (.int .i64 c), .x (.int .i64 T), .x (.int .i64 lo), .x (.int .i64 hi), A, B] 26 f 0, .x (.int .i64 k), .x (.int .i64 day)] => some ([drB f, bdB f, 0 ≤ k ∧ k ≤ 10, 0 ≤ day ∧ day ≤ 100000], i (onH f k.toNat day))
 | _ => none
theorem high_ok : SoundSpec Tryz.prog 103 S_high := by
 refine ⟨⟨_, Tryz.func103, by kernel_rfl, by kernel_rfl⟩, ?_⟩
 intro avs ns res h hn
 unfold S_high at h
 split at h
 ·rename_i c T lo hi A B f k day
  cases h
  have hk : 0 ≤ k ∧ k ≤ 10 := hn _ (by simp)
  have e : ((k.toNat : Nat) : Int) = k := by omega
  have h0 := high_at c T lo hi A B f k.toNat day (hn _ (by simp)) (hn _ (by simp)) (by omega) (hn _ (by simp))
  rw [e] at h0
  exact h0
 ·cases h
theorem on_at (c T lo hi : Int) (A B : AV) (f : Nat → Int) (k : Nat) (day : Int) (pre0 : drB f) (pre1 : bdB f) (pre2 : k ≤ 10) (pre3 : 0 ≤ day ∧ day ≤ 100000) : SoundAt Tryz.prog 67 [.roI [i c, i T, i lo, i hi, A, B] 26 f 0, i k, i day] (.agg [i (onL f k day), i (onH f k day)]) := by
 refine soundAt_fin (G := [(102, S_low), (103, S_high)]) (L := []) (SoundG.cons low_ok (SoundG.cons high_ok (SoundG.nil _))) mixed Tryz.func67 (show Tryz.f67.body = some (bodyOf Tryz.f67) by kernel_rfl) noLoops (t := (need [drB f, bdB f, (0 : Int) ≤ (↑k : Int) ∧ (↑k : Int) ≤ 10, (0 : Int) ≤ day ∧ day ≤ (100000 : Int)] (need [drB f, bdB f, (0 : Int) ≤ (↑k : Int) ∧ (↑k : Int) ≤ 10, (0 : Int) ≤ day ∧ day ≤ (100000 : Int)] (leaf (RV.agg [RV.x (Value.int IntKind.i64 (onL f k day)), RV.x (Value.int IntKind.i64 (onH f k day))]))))) (by kernel_rfl) ?_
 simp only [Tree.sat, allP, fitP, fitL, valEq, true_and, and_true, Int.toNat_natCast]
 exact ⟨⟨pre0, pre1, by omega, pre3⟩, ⟨pre0, pre1, by omega, pre3⟩⟩
def S_on : Sx.Spec := fun l => match l with
 | [.roI [.x (.int .i64 c), .x (.int .i64 T), .x (.int .i64 lo), .x (.int .i64 hi), A, B] 26 f 0, .x (.int .i64 k), .x (.int .i64 day)] => some ([drB f, bdB f, 0 ≤ k ∧ k ≤ 10, 0 ≤ day ∧ day ≤ 100000], .agg [i (onL f k.toNat day), i (onH f k.toNat day)])
 | _ => none
theorem on_ok : SoundSpec Tryz.prog 67 S_on := by
 refine ⟨⟨_, Tryz.func67, by kernel_rfl, by kernel_rfl⟩, ?_⟩
 intro avs ns res h hn
 unfold S_on at h
 split at h
 ·rename_i c T lo hi A B f k day
  cases h
  have hk : 0 ≤ k ∧ k ≤ 10 := hn _ (by simp)
  have e : ((k.toNat : Nat) : Int) = k := by omega
  have h0 := on_at c T lo hi A B f k.toNat day (hn _ (by simp)) (hn _ (by simp)) (by omega) (hn _ (by simp))
  rw [e] at h0
  exact h0
 ·cases h
theorem te_bd {c : Int} {k : Nat} (hc : 1 ≤ c ∧ c ≤ 10) (hk : k ≤ 10) : 0 ≤ teM c k ∧ teM c k ≤ 10000 := by
 have := dn_spec (n := 1000 * k) (by omega) hc.1
 unfold teM
 omega
theorem tells_at (c T lo hi : Int) (A B : AV) (f : Nat → Int) (k : Nat) (pre0 : 1 ≤ c ∧ c ≤ 10) (pre1 : k ≤ 10) : SoundAt Tryz.prog 113 [.roI [i c, i T, i lo, i hi, A, B] 26 f 0, i k] (i (teM c k)) := by
 refine soundAt_fin (G := []) (L := []) (SoundG.nil _) mixed Tryz.func113 (show Tryz.f113.body = some (bodyOf Tryz.f113) by kernel_rfl) noLoops (t := (need [inI64 ((1000 : Int) * (↑k : Int))] (need [c ≠ (0 : Int), inI64 (Int.tdiv ((1000 : Int) * (↑k : Int)) c)] (leaf (RV.x (Value.int IntKind.i64 (Int.tdiv ((1000 : Int) * (↑k : Int)) c))))))) (by kernel_rfl) ?_
 have h := te_bd pre0 pre1
 unfold teM dnI at h ⊢
 simp only [Tree.sat, allP, fitP, fitL, valEq, inI64, true_and, and_true]
 omega
def S_tells : Sx.Spec := fun l => match l with
 | [.roI [.x (.int .i64 c), .x (.int .i64 T), .x (.int .i64 lo), .x (.int .i64 hi), A, B] 26 f 0, .x (.int .i64 k)] => some ([1 ≤ c ∧ c ≤ 10, 0 ≤ k ∧ k ≤ 10], i (teM c k.toNat))
 | _ => none
theorem tells_ok : SoundSpec Tryz.prog 113 S_tells := by
 refine ⟨⟨_, Tryz.func113, by kernel_rfl, by kernel_rfl⟩, ?_⟩
 intro avs ns res h hn
 unfold S_tells at h
 split at h
 ·rename_i c T lo hi A B f k
  cases h
  have hk : 0 ≤ k ∧ k ≤ 10 := hn _ (by simp)
  have e : ((k.toNat : Nat) : Int) = k := by omega
  have h0 := tells_at c T lo hi A B f k.toNat (hn _ (by simp)) (by omega)
  rw [e] at h0
  exact h0
 ·cases h
theorem correction_at (c T lo hi : Int) (A B : AV) (f : Nat → Int) (k : Nat) (day : Int) (pre0 : drB f) (pre1 : bdB f) (pre2 : k ≤ 10) (pre3 : 0 ≤ day ∧ day ≤ 100000) (pre4 : 1 ≤ c ∧ c ≤ 10) : SoundAt Tryz.prog 81 [.roI [i c, i T, i lo, i hi, A, B] 26 f 0, i k, i day] (.agg [i (onL f k day - teM c k), i (onH f k day - teM c k)]) := by
 refine soundAt_fin (G := [(67, S_on), (113, S_tells)]) (L := []) (SoundG.cons on_ok (SoundG.cons tells_ok (SoundG.nil _))) mixed Tryz.func81 (show Tryz.f81.body = some (bodyOf Tryz.f81) by kernel_rfl) noLoops (t := (need [drB f, bdB f, (0 : Int) ≤ (↑k : Int) ∧ (↑k : Int) ≤ 10, (0 : Int) ≤ day ∧ day ≤ (100000 : Int)] (need [(1 : Int) ≤ c ∧ c ≤ (10 : Int), (0 : Int) ≤ (↑k : Int) ∧ (↑k : Int) ≤ 10] (need [inI64 (onL f k day - teM c k)] (need [(1 : Int) ≤ c ∧ c ≤ (10 : Int), (0 : Int) ≤ (↑k : Int) ∧ (↑k : Int) ≤ 10] (need [inI64 (onH f k day - teM c k)] (leaf (RV.agg [RV.x (Value.int IntKind.i64 (onL f k day - teM c k)), RV.x (Value.int IntKind.i64 (onH f k day - teM c k))])))))))) (by kernel_rfl) ?_
 have h0 := ri_bd pre0 pre3
 have h1 := pre1 (2 * k) (by omega)
 have h2 := pre1 (2 * k + 1) (by omega)
 rw [show 4 + (2 * k + 1) = 5 + 2 * k by omega] at h2
 have d1 := pre0.1
 have d2 := pre0.2
 
 have h5 := te_bd pre4 pre2
 unfold onL onH
 simp only [Tree.sat, allP, fitP, fitL, valEq, inI64, true_and, and_true, Int.toNat_natCast, onL, onH]
 refine ⟨⟨pre0, pre1, by omega, pre3⟩, ⟨pre4, by omega⟩, by omega, ⟨pre4, by omega⟩, by omega⟩
def S_correction : Sx.Spec := fun l => match l with
 | [.roI [.x (.int .i64 c), .x (.int .i64 T), .x (.int .i64 lo), .x (.int .i64 hi), A, B] 26 f 0, .x (.int .i64 k), .x (.int .i64 day)] => some ([drB f, bdB f, 0 ≤ k ∧ k ≤ 10, 0 ≤ day ∧ day ≤ 100000, 1 ≤ c ∧ c ≤ 10], .agg [i (onL f k.toNat day - teM c k.toNat), i (onH f k.toNat day - teM c k.toNat)])
 | _ => none
theorem correction_ok : SoundSpec Tryz.prog 81 S_correction := by
 refine ⟨⟨_, Tryz.func81, by kernel_rfl, by kernel_rfl⟩, ?_⟩
 intro avs ns res h hn
 unfold S_correction at h
 split at h
 ·rename_i c T lo hi A B f k day
  cases h
  have hk : 0 ≤ k ∧ k ≤ 10 := hn _ (by simp)
  have e : ((k.toNat : Nat) : Int) = k := by omega
  have h0 := correction_at c T lo hi A B f k.toNat day (hn _ (by simp)) (hn _ (by simp)) (by omega) (hn _ (by simp)) (hn _ (by simp))
  rw [e] at h0
  exact h0
 ·cases h
end Go.Proofs.YtlinbkmpkcmniaaGreat
namespace Go.Proofs.YtlinbkmpkcmniaaGreat
open Go Go.Sx Go.RowKit Bo
open Go.Sx.Tree (need branch leaf)
open Go.Sx.AV (lst ptr agg roI tup top)
def keP (c : Int) (f : Nat → Int) (wi day x : Int) : Bool := insB (-wi) (onL f x.toNat day - teM c x.toNat) (onH f x.toNat day - teM c x.toNat) wi
def mkV (p : Int) (j : Nat) : List Value := [.int .i64 (p + j)]
def S_kept1 : Sx.Spec := fun l => match l with
 | [.x (.int .i64 x), .ro [.roI [.x (.int .i64 c), .x (.int .i64 T), .x (.int .i64 lo), .x (.int .i64 hi), A, B] 26 f 0], .ro [.x (.int .i64 day)], .ro [.x (.int .i64 u0), .x (.int .i64 u1), .x (.int .i64 wi)]] => some ([drB f, bdB f, 1 ≤ c ∧ c ≤ 10, 0 ≤ day ∧ day ≤ 100000, 0 ≤ wi ∧ wi ≤ 1000000, 0 ≤ x ∧ x ≤ 10], bl (keP c f wi day x))
 | _ => none
theorem kept1_at (x : Int) (c T lo hi : Int) (A B : AV) (f : Nat → Int) (day u0 u1 wi : Int) (pre0 : drB f) (pre1 : bdB f) (pre2 : 1 ≤ c ∧ c ≤ 10) (pre3 : 0 ≤ day ∧ day ≤ 100000) (pre4 : 0 ≤ wi ∧ wi ≤ 1000000) (pre5 : 0 ≤ x ∧ x ≤ 10) : SoundAt Tryz.prog 116 [i x, .ro [.roI [i c, i T, i lo, i hi, A, B] 26 f 0], .ro [i day], .ro [i u0, i u1, i wi]] (bl (keP c f wi day x)) := by
 refine soundAt_fin (G := [(81, S_correction), (117, S_inside)]) (L := []) (SoundG.cons correction_ok (SoundG.cons inside_ok (SoundG.nil _))) mixed Tryz.func116 (show Tryz.f116.body = some (bodyOf Tryz.f116) by kernel_rfl) noLoops (t := (need [drB f, bdB f, (0 : Int) ≤ x ∧ x ≤ (10 : Int), (0 : Int) ≤ day ∧ day ≤ (100000 : Int), (1 : Int) ≤ c ∧ c ≤ (10 : Int)] (need [inI64 (-wi)] (leaf (RV.x (Value.bool (insB (-wi) (onL f (Int.toNat x) day - teM c (Int.toNat x)) (onH f (Int.toNat x) day - teM c (Int.toNat x)) wi))))))) (by kernel_rfl) ?_
 simp only [Tree.sat, allP, fitP, fitL, valEq, inI64, true_and, and_true, keP]
 exact ⟨⟨pre0, pre1, pre5, pre3, pre2⟩, by omega⟩
theorem kept1_ok : SoundSpec Tryz.prog 116 S_kept1 := by
 refine ⟨⟨_, Tryz.func116, by kernel_rfl, by kernel_rfl⟩, ?_⟩
 intro avs ns res h hn
 unfold S_kept1 at h
 split at h
 ·cases h
  exact kept1_at _ _ _ _ _ _ _ _ _ _ _ _ (hn _ (by simp)) (hn _ (by simp)) (hn _ (by simp)) (hn _ (by simp)) (hn _ (by simp)) (hn _ (by simp))
 ·cases h
theorem alli1_at (x : Int) (c T lo hi : Int) (A B : AV) (f : Nat → Int) (day u0 u1 wi : Int) (pre0 : drB f) (pre1 : bdB f) (pre2 : 1 ≤ c ∧ c ≤ 10) (pre3 : 0 ≤ day ∧ day ≤ 100000) (pre4 : 0 ≤ wi ∧ wi ≤ 1000000) (pre5 : 0 ≤ x ∧ x ≤ 10) : SoundAt Tryz.prog 137 [i x, .ro [.fn (.func 116) [] [.ro [.roI [i c, i T, i lo, i hi, A, B] 26 f 0], .ro [i day], .ro [i u0, i u1, i wi]]]] (bl (!(keP c f wi day x))) := by
 refine soundAt_fin (G := [(116, S_kept1)]) (L := []) (SoundG.cons kept1_ok (SoundG.nil _)) mixed Tryz.func137 (show Tryz.f137.body = some (bodyOf Tryz.f137) by kernel_rfl) noLoops (t := (need [drB f, bdB f, (1 : Int) ≤ c ∧ c ≤ (10 : Int), (0 : Int) ≤ day ∧ day ≤ (100000 : Int), (0 : Int) ≤ wi ∧ wi ≤ (1000000 : Int), (0 : Int) ≤ x ∧ x ≤ (10 : Int)] (leaf (RV.x (Value.bool !keP c f wi day x))))) (by kernel_rfl) ?_
 simp only [Tree.sat, allP, fitP, fitL, valEq, true_and, and_true]
 exact ⟨pre0, pre1, pre2, pre3, pre4, pre5⟩
def S_alli1 : Sx.Spec := fun l => match l with
 | [.x (.int .i64 x), .ro [.fn (.func 116) [] [.ro [.roI [.x (.int .i64 c), .x (.int .i64 T), .x (.int .i64 lo), .x (.int .i64 hi), A, B] 26 f 0], .ro [.x (.int .i64 day)], .ro [.x (.int .i64 u0), .x (.int .i64 u1), .x (.int .i64 wi)]]]] => some ([drB f, bdB f, 1 ≤ c ∧ c ≤ 10, 0 ≤ day ∧ day ≤ 100000, 0 ≤ wi ∧ wi ≤ 1000000, 0 ≤ x ∧ x ≤ 10], bl (!(keP c f wi day x)))
 | _ => none
theorem alli1_ok : SoundSpec Tryz.prog 137 S_alli1 := by
 refine ⟨⟨_, Tryz.func137, by kernel_rfl, by kernel_rfl⟩, ?_⟩
 intro avs ns res h hn
 unfold S_alli1 at h
 split at h
 ·cases h
  exact alli1_at _ _ _ _ _ _ _ _ _ _ _ _ (hn _ (by simp)) (hn _ (by simp)) (hn _ (by simp)) (hn _ (by simp)) (hn _ (by simp)) (hn _ (by simp))
 ·cases h
noncomputable def E_xi (n : Nat) (g : Nat → Int) (c T lo hi : Int) (A B : AV) (f : Nat → Int) (day u0 u1 wi : Int) : St := (some { σ := [lst 1 n fun k => [iI (g k)], AV.fn (Fn.func 137) [] [AV.ro [AV.fn (Fn.func 116) [] [AV.ro [roI [iI c, iI T, iI lo, iI hi, A, B] 26 (fun a => f a) 0], AV.ro [iI day], AV.ro [iI u0, iI u1, iI wi]]]]] ++ tpL 5 [iI (↑n : Int)] ++ tpL 11 [], m := [], nx := 4 } : Option St).getD { σ := [], m := [], nx := 0 }
noncomputable def B_xi : Code := loopBody (loopAt (bodyOf Tryz.f154) 0)
noncomputable def inv_xi (n : Nat) (g : Nat → Int) (c T lo hi : Int) (A B : AV) (f : Nat → Int) (day u0 u1 wi : Int) (k : Nat) : St := { σ := ovrS [(8, i k)] (E_xi n g c T lo hi A B f day u0 u1 wi).σ, m := (E_xi n g c T lo hi A B f day u0 u1 wi).m, nx := (E_xi n g c T lo hi A B f day u0 u1 wi).nx }
noncomputable def out_xi (n : Nat) (g : Nat → Int) (c T lo hi : Int) (A B : AV) (f : Nat → Int) (day u0 u1 wi : Int) (k : Nat) : AEx → Option St := fun ex => match ex with
 | .ret => some { σ := ovrS [(4, i (fstI ((fun k => !(keP c f wi day (g k)))) n))] (E_xi n g c T lo hi A B f day u0 u1 wi).σ, m := (E_xi n g c T lo hi A B f day u0 u1 wi).m, nx := (E_xi n g c T lo hi A B f day u0 u1 wi).nx }
 | .exit 0 => some { σ := ovrS [] (E_xi n g c T lo hi A B f day u0 u1 wi).σ, m := (E_xi n g c T lo hi A B f day u0 u1 wi).m, nx := (E_xi n g c T lo hi A B f day u0 u1 wi).nx }
 | _ => none
noncomputable def T_xi (n : Nat) (g : Nat → Int) (c T lo hi : Int) (A B : AV) (f : Nat → Int) (day u0 u1 wi : Int) : CT := .branch (decide (fstI ((fun k => !(keP c f wi day (g k)))) n < n)) (.leaf (.ret, ( out_xi n g c T lo hi A B f day u0 u1 wi 0 .ret).getD (E_xi n g c T lo hi A B f day u0 u1 wi))) (.leaf (.exit 0, ( out_xi n g c T lo hi A B f day u0 u1 wi 0 (.exit 0)).getD (E_xi n g c T lo hi A B f day u0 u1 wi)))
noncomputable def LS_xi (n : Nat) (g : Nat → Int) (c T lo hi : Int) (A B : AV) (f : Nat → Int) (day u0 u1 wi : Int) : LSpec := (sumL (inv_xi n g c T lo hi A B f day u0 u1 wi (0)) (T_xi n g c T lo hi A B f day u0 u1 wi))
theorem xi_ls (n : Nat) (g : Nat → Int) (c T lo hi : Int) (A B : AV) (f : Nat → Int) (day u0 u1 wi : Int) (pre0 : n ≤ 100000) (pre1 : drB f) (pre2 : bdB f) (pre3 : 1 ≤ c ∧ c ≤ 10) (pre4 : 0 ≤ day ∧ day ≤ 100000) (pre5 : 0 ≤ wi ∧ wi ≤ 1000000) (pre6 : ∀ j, j < n → 0 ≤ g j ∧ g j ≤ 10) : LSound Tryz.prog (.loop B_xi) (LS_xi n g c T lo hi A B f day u0 u1 wi) := by
 refine loop_rounds (G := [(137, S_alli1)]) (L := []) (SoundG.cons alli1_ok (SoundG.nil _)) mixed noLoops (X := Nat) (inv_xi n g c T lo hi A B f day u0 u1 wi) (fun k => k ≤ n ∧ ∀ j, j < k → (fun k => !(keP c f wi day (g k))) j = false) (fun k => n - k) (out_xi n g c T lo hi A B f day u0 u1 wi) (x0 := 0) ⟨by omega, fun j hj => by omega⟩ ?_ ?_ ?_
 ·rintro k
  kernel_rfl
 ·rintro k y E h
  unfold out_xi at h
  split at h
  ·cases h; kernel_rfl
  ·cases h; kernel_rfl
  ·cases h
 ·rintro Q hQ k hx
  refine ⟨(k + 1), ?_⟩
  have e : roundT Tryz.prog [(137, S_alli1)] [] B_xi (inv_xi n g c T lo hi A B f day u0 u1 wi k) (inv_xi n g c T lo hi A B f day u0 u1 wi ((k + 1))) (out_xi n g c T lo hi A B f day u0 u1 wi k) = (let z0 := (AV.fn (Fn.func 137) [] [AV.ro [AV.fn (Fn.func 116) [] [AV.ro [roI [iI c, iI T, iI lo, iI hi, A, B] 26 (fun a => f a) 0], AV.ro [iI day], AV.ro [iI u0, iI u1, iI wi]]]]); let z1 := (lst 1 n fun k => [iI (g k)]); (branch (decide ((↑k : Int) < (↑n : Int))) (need [(0 : Int) ≤ (↑k : Int) ∧ (↑k : Int) < (↑n : Int)] (need [drB fun a => f a, bdB fun a => f a, (1 : Int) ≤ c ∧ c ≤ (10 : Int), (0 : Int) ≤ day ∧ day ≤ (100000 : Int), (0 : Int) ≤ wi ∧ wi ≤ (1000000 : Int), (0 : Int) ≤ g k ∧ g k ≤ (10 : Int)] (branch (!keP c (fun a => f a) wi day (g k)) (need [z1 = lst 1 n fun k => [iI (g k)], Eq1 z0, (↑k : Int) = (↑(fstI (fun k => !keP c f wi day (g k)) n) : Int), Eq1 (↑n : Int)] (leaf AEx.ret)) (need [inI64 ((↑k : Int) + 1)] (need [z1 = lst 1 n fun k => [iI (g k)], Eq1 z0, Eq1 (↑n : Int), (↑k : Int) + 1 = (↑(k + 1) : Int)] (leaf AEx.normal)))))) (need [z1 = lst 1 n fun k => [iI (g k)], Eq1 z0, Eq1 (↑n : Int)] (leaf (AEx.exit 0))))) := by kernel_rfl
  rw [e]
  simp only [T_xi, out_xi, Tree.sat, Option.getD_some, decide_eq_true_eq, decide_eq_false_iff_not] at hQ
  simp only [Tree.sat, allP, true_and, and_true, decide_eq_true_eq, decide_eq_false_iff_not, inI64, out_xi, Int.toNat_natCast]
  refine ⟨fun h => ⟨by omega, ⟨pre1, pre2, pre3, pre4, pre5, pre6 k (by omega)⟩, ?_⟩, fun h => ?_⟩
  rotate_left
  ·have hf : fstI ((fun k => !(keP c f wi day (g k)))) n = n := fstI_none (fun j hj => hx.2 j (by omega))
   intro E hE
   cases hE
   exact hQ.2 (by omega)
  refine ⟨fun hb => ?_, fun hb => ?_⟩
  ·have hf : fstI ((fun k => !(keP c f wi day (g k)))) n = k := fstI_eq (by omega) hb hx.2
   refine ⟨by omega, fun E hE => ?_⟩
   cases hE
   exact hQ.1 (by omega)
  ·refine ⟨by omega, by omega, ⟨by omega, fun j hj => ?_⟩, by omega⟩
   rcases (show j < k ∨ j = k by omega) with h1 | rfl
   ·exact hx.2 j h1
   ·exact hb
theorem xfi_at (n : Nat) (g : Nat → Int) (c T lo hi : Int) (A B : AV) (f : Nat → Int) (day u0 u1 wi : Int) (pre0 : n ≤ 100000) (pre1 : drB f) (pre2 : bdB f) (pre3 : 1 ≤ c ∧ c ≤ 10) (pre4 : 0 ≤ day ∧ day ≤ 100000) (pre5 : 0 ≤ wi ∧ wi ≤ 1000000) (pre6 : ∀ j, j < n → 0 ≤ g j ∧ g j ≤ 10) : SoundAt Tryz.prog 154 [.lst 1 n (fun k => [i (g k)]), .fn (.func 137) [] [.ro [.fn (.func 116) [] [.ro [.roI [i c, i T, i lo, i hi, A, B] 26 f 0], .ro [i day], .ro [i u0, i u1, i wi]]]]] (i (if fstI ((fun k => !(keP c f wi day (g k)))) n < n then (fstI ((fun k => !(keP c f wi day (g k)))) n : Int) else -1)) := by
 refine soundAt_fin (G := [(137, S_alli1)]) (L := [LS_xi n g c T lo hi A B f day u0 u1 wi]) (SoundG.cons alli1_ok (SoundG.nil _)) mixed Tryz.func154 (show Tryz.f154.body = some (bodyOf Tryz.f154) by kernel_rfl) (one_loop (lpE (b := .loop B_xi) (by kernel_rfl) <| xi_ls n g c T lo hi A B f day u0 u1 wi pre0 pre1 pre2 pre3 pre4 pre5 pre6)) (t := (need [(lst 1 n fun k => [iI (g k)]) = lst 1 n fun k => [iI (g k)], Eq1 (AV.fn (Fn.func 137) [] [AV.ro [AV.fn (Fn.func 116) [] [AV.ro [roI [iI c, iI T, iI lo, iI hi, A, B] 26 (fun a => f a) 0], AV.ro [iI day], AV.ro [iI u0, iI u1, iI wi]]]]), Eq1 (↑n : Int), (0 : Int) = (↑(0 : Nat) : Int)] (branch (decide (fstI (fun k => !keP c f wi day (g k)) n < n)) (leaf (RV.x (Value.int IntKind.i64 (↑(fstI (fun k => !keP c f wi day (g k)) n) : Int)))) (leaf (RV.x (Value.int IntKind.i64 (-1 : Int))))))) (by kernel_rfl) ?_
 simp only [Tree.sat, allP, fitP, valEq, true_and, and_true, decide_eq_true_eq, decide_eq_false_iff_not]
 simp +contextual
def S_xfi : Sx.Spec := fun l => match l with
 | [.lst 1 n g, .fn (.func 137) [] [.ro [.fn (.func 116) [] [.ro [.roI [.x (.int .i64 c), .x (.int .i64 T), .x (.int .i64 lo), .x (.int .i64 hi), A, B] 26 f 0], .ro [.x (.int .i64 day)], .ro [.x (.int .i64 u0), .x (.int .i64 u1), .x (.int .i64 wi)]]]]] => some ([isRec 1 n g, n ≤ 100000, drB f, bdB f, 1 ≤ c ∧ c ≤ 10, 0 ≤ day ∧ day ≤ 100000, 0 ≤ wi ∧ wi ≤ 1000000, ∀ j, j < n → 0 ≤ col 0 g j ∧ col 0 g j ≤ 10], i (if fstI ((fun k => !(keP c f wi day (col 0 g k)))) n < n then (fstI ((fun k => !(keP c f wi day (col 0 g k)))) n : Int) else -1))
 | _ => none
theorem xfi_ok : SoundSpec Tryz.prog 154 S_xfi := by
 refine ⟨⟨_, Tryz.func154, by kernel_rfl, by kernel_rfl⟩, ?_⟩
 intro avs ns res h hn
 unfold S_xfi at h
 split at h
 ·cases h
  have hr : isRec 1 _ _ := hn _ (List.mem_cons_self)
  exact (xfi_at _ (col 0 _) _ _ _ _ _ _ _ _ _ _ _ (hn _ (by simp)) (hn _ (by simp)) (hn _ (by simp)) (hn _ (by simp)) (hn _ (by simp)) (hn _ (by simp)) (hn _ (by simp))).same (.cons (.lst 1 _ _ _ hr) (.cons (.refl _) .nil))
 ·cases h
theorem cfi_at (n : Nat) (g : Nat → Int) (c T lo hi : Int) (A B : AV) (f : Nat → Int) (day u0 u1 wi : Int) (pre0 : n ≤ 100000) (pre1 : drB f) (pre2 : bdB f) (pre3 : 1 ≤ c ∧ c ≤ 10) (pre4 : 0 ≤ day ∧ day ≤ 100000) (pre5 : 0 ≤ wi ∧ wi ≤ 1000000) (pre6 : ∀ j, j < n → 0 ≤ g j ∧ g j ≤ 10) : SoundAt Tryz.prog 136 [.lst 1 n (fun k => [i (g k)]), .fn (.func 137) [] [.ro [.fn (.func 116) [] [.ro [.roI [i c, i T, i lo, i hi, A, B] 26 f 0], .ro [i day], .ro [i u0, i u1, i wi]]]]] (bl (!allI (fun k => keP c f wi day (g k)) n)) := by
 refine soundAt_fin (G := [(154, S_xfi)]) (L := []) (SoundG.cons xfi_ok (SoundG.nil _)) mixed Tryz.func136 (show Tryz.f136.body = some (bodyOf Tryz.f136) by kernel_rfl) noLoops (t := (need [isRec 1 n fun k => [i (g k)], n ≤ 100000, drB f, bdB f, (1 : Int) ≤ c ∧ c ≤ (10 : Int), (0 : Int) ≤ day ∧ day ≤ (100000 : Int), (0 : Int) ≤ wi ∧ wi ≤ (1000000 : Int), ∀ (j : Nat), j < n → (0 : Int) ≤ g j ∧ g j ≤ (10 : Int)] (leaf (RV.x (Value.bool (decide ((if fstI (fun k => !keP c f wi day (g k)) n < n then (↑(fstI (fun k => !keP c f wi day (g k)) n) : Int) else (-1 : Int)) ≥ (0 : Int)))))))) (by kernel_rfl) ?_
 simp only [Tree.sat, allP, fitP, valEq, true_and, and_true]
 refine ⟨⟨fun _ _ => rfl, pre0, pre1, pre2, pre3, pre4, pre5, pre6⟩, ?_⟩
 rw [allI_fst]
 have e : (fun k => !(fun k => keP c f wi day (g k)) k) = (fun k => !(keP c f wi day (g k))) := rfl
 rw [e]
 show decide ((if fstI (fun k => !(keP c f wi day (g k))) n < n then (fstI (fun k => !(keP c f wi day (g k))) n : Int) else -1) ≥ 0) = _
 have := fstI_spec ((fun k => !(keP c f wi day (g k)))) n
 split <;> simp <;> omega
def S_cfi : Sx.Spec := fun l => match l with
 | [.lst 1 n g, .fn (.func 137) [] [.ro [.fn (.func 116) [] [.ro [.roI [.x (.int .i64 c), .x (.int .i64 T), .x (.int .i64 lo), .x (.int .i64 hi), A, B] 26 f 0], .ro [.x (.int .i64 day)], .ro [.x (.int .i64 u0), .x (.int .i64 u1), .x (.int .i64 wi)]]]]] => some ([isRec 1 n g, n ≤ 100000, drB f, bdB f, 1 ≤ c ∧ c ≤ 10, 0 ≤ day ∧ day ≤ 100000, 0 ≤ wi ∧ wi ≤ 1000000, ∀ j, j < n → 0 ≤ col 0 g j ∧ col 0 g j ≤ 10], bl (!allI (fun k => keP c f wi day (col 0 g k)) n))
 | _ => none
theorem cfi_ok : SoundSpec Tryz.prog 136 S_cfi := by
 refine ⟨⟨_, Tryz.func136, by kernel_rfl, by kernel_rfl⟩, ?_⟩
 intro avs ns res h hn
 unfold S_cfi at h
 split at h
 ·cases h
  have hr : isRec 1 _ _ := hn _ (List.mem_cons_self)
  exact (cfi_at _ (col 0 _) _ _ _ _ _ _ _ _ _ _ _ (hn _ (by simp)) (hn _ (by simp)) (hn _ (by simp)) (hn _ (by simp)) (hn _ (by simp)) (hn _ (by simp)) (hn _ (by simp))).same (.cons (.lst 1 _ _ _ hr) (.cons (.refl _) .nil))
 ·cases h
theorem alli_at (n : Nat) (g : Nat → Int) (c T lo hi : Int) (A B : AV) (f : Nat → Int) (day u0 u1 wi : Int) (pre0 : n ≤ 100000) (pre1 : drB f) (pre2 : bdB f) (pre3 : 1 ≤ c ∧ c ≤ 10) (pre4 : 0 ≤ day ∧ day ≤ 100000) (pre5 : 0 ≤ wi ∧ wi ≤ 1000000) (pre6 : ∀ j, j < n → 0 ≤ g j ∧ g j ≤ 10) : SoundAt Tryz.prog 114 [.lst 1 n (fun k => [i (g k)]), .fn (.func 116) [] [.ro [.roI [i c, i T, i lo, i hi, A, B] 26 f 0], .ro [i day], .ro [i u0, i u1, i wi]]] (bl (allI (fun k => keP c f wi day (g k)) n)) := by
 refine soundAt_fin (G := [(136, S_cfi)]) (L := []) (SoundG.cons cfi_ok (SoundG.nil _)) mixed Tryz.func114 (show Tryz.f114.body = some (bodyOf Tryz.f114) by kernel_rfl) noLoops (t := (need [isRec 1 n fun k => [i (g k)], n ≤ 100000, drB f, bdB f, (1 : Int) ≤ c ∧ c ≤ (10 : Int), (0 : Int) ≤ day ∧ day ≤ (100000 : Int), (0 : Int) ≤ wi ∧ wi ≤ (1000000 : Int), ∀ (j : Nat), j < n → (0 : Int) ≤ g j ∧ g j ≤ (10 : Int)] (leaf (RV.x (Value.bool !!allI (fun k => keP c f wi day (g k)) n))))) (by kernel_rfl) ?_
 simp only [Tree.sat, allP, fitP, valEq, true_and, and_true]
 refine ⟨⟨fun _ _ => rfl, pre0, pre1, pre2, pre3, pre4, pre5, pre6⟩, ?_⟩
 show (!!allI (fun k => keP c f wi day (g k)) n) = _
 simp
def S_alli : Sx.Spec := fun l => match l with
 | [.lst 1 n g, .fn (.func 116) [] [.ro [.roI [.x (.int .i64 c), .x (.int .i64 T), .x (.int .i64 lo), .x (.int .i64 hi), A, B] 26 f 0], .ro [.x (.int .i64 day)], .ro [.x (.int .i64 u0), .x (.int .i64 u1), .x (.int .i64 wi)]]] => some ([isRec 1 n g, n ≤ 100000, drB f, bdB f, 1 ≤ c ∧ c ≤ 10, 0 ≤ day ∧ day ≤ 100000, 0 ≤ wi ∧ wi ≤ 1000000, ∀ j, j < n → 0 ≤ col 0 g j ∧ col 0 g j ≤ 10], bl (allI (fun k => keP c f wi day (col 0 g k)) n))
 | _ => none
theorem alli_ok : SoundSpec Tryz.prog 114 S_alli := by
 refine ⟨⟨_, Tryz.func114, by kernel_rfl, by kernel_rfl⟩, ?_⟩
 intro avs ns res h hn
 unfold S_alli at h
 split at h
 ·cases h
  have hr : isRec 1 _ _ := hn _ (List.mem_cons_self)
  exact (alli_at _ (col 0 _) _ _ _ _ _ _ _ _ _ _ _ (hn _ (by simp)) (hn _ (by simp)) (hn _ (by simp)) (hn _ (by simp)) (hn _ (by simp)) (hn _ (by simp)) (hn _ (by simp))).same (.cons (.lst 1 _ _ _ hr) (.cons (.refl _) .nil))
 ·cases h
def S_marks : Sx.Spec := fun l => match l with
 | [.x (.int .i64 p), .x (.int .i64 q)] => some ([], .fn (.func 133) [] [.ro [i p], .ro [i q]])
 | _ => none
theorem marks_at (p q : Int) : SoundAtR Tryz.prog 109 [i p, i q] (.fn (.func 133) [] [.ro [i p], .ro [i q]]) := by
 refine soundAtR_fin (G := []) (X := {}) (L := []) (SoundG.nil _) (SoundX.of (SoundRL.nil _) (SoundHL.nil _)) mixed Tryz.func109 (show Tryz.f109.body = some (bodyOf Tryz.f109) by kernel_rfl) noLoopsS (t := (leaf (AV.fn (Fn.func 133) [] [AV.ro [iI p], AV.ro [iI q]]))) (by kernel_rfl) ?_
 exact rfl
theorem marks_okR : SoundR Tryz.prog 109 S_marks := by
 refine ⟨⟨_, Tryz.func109, by kernel_rfl, by kernel_rfl⟩, ?_⟩
 intro avs ns res h hn
 unfold S_marks at h
 split at h
 ·cases h
  exact marks_at _ _
 ·cases h
noncomputable def E_mk (l : Nat) (p q : Int) : St := (some { σ := [AV.fn (Fn.yield l) [] [], AV.ro [iI p], AV.ro [iI q]] ++ tpL 12 [], m := [], nx := 2, gh := some 0 } : Option St).getD { σ := [], m := [], nx := 0 }
noncomputable def B_mk : Code := loopBody (loopAt (bodyOf Tryz.f133) 0)
noncomputable def inv_mk (l : Nat) (p q : Int) (j : Nat) : St := { σ := ovrS [(4, i (p + j))] (E_mk l p q).σ, m := [], nx := 0, gh := some (j) }
noncomputable def out_mk (l : Nat) (p q : Int) (j : Nat) : AEx → Option St := fun ex => match ex with
 | .exit 0 => some { σ := ovrS [] (E_mk l p q).σ, m := [], nx := 0, gh := some ((q - p + 1).toNat) }
 | .ret => some { σ := ovrS [] (E_mk l p q).σ, m := [], nx := 0, gh := none }
 | _ => none
noncomputable def T_mk (l : Nat) (p q : Int) : CT := .may True (.leaf (.exit 0, ( out_mk l p q 0 (.exit 0)).getD (E_mk l p q))) (.leaf (.ret, ( out_mk l p q 0 .ret).getD (E_mk l p q)))
noncomputable def LS_mk (l : Nat) (p q : Int) : LSpec := normSp [] (sumL (inv_mk l p q (0)) (T_mk l p q))
theorem mk_lc (l : Nat) (p q : Int) (pre0 : -1000000 ≤ p ∧ p ≤ 1000000) (pre1 : -1000000 ≤ q ∧ q ≤ 1000000) {cx : Cx} (hX : SoundX Tryz.prog { Y := some (l, ((q - p + 1).toNat), (mkV p)) } cx) : LSoundC Tryz.prog none cx (.loop B_mk) (LS_mk l p q) := by
 refine loop_roundsC [] (G := []) (L := []) (SoundG.nil _) hX mixed noLoopsS (V := Nat) (inv_mk l p q) (fun j => j ≤ ((q - p + 1).toNat)) (fun j => ((q - p + 1).toNat) - j) (out_mk l p q) (x0 := 0) (by simp) ?_ ?_ ?_
 ·rintro j
  kernel_rfl
 ·rintro j y E h
  unfold out_mk at h
  split at h
  ·cases h; kernel_rfl
  ·cases h; kernel_rfl
  ·cases h
 ·rintro Q hQ j hx
  refine ⟨(j + 1), ?_⟩
  have e : roundX Tryz.prog [] { Y := some (l, ((q - p + 1).toNat), (mkV p)) } [] [] B_mk (inv_mk l p q j) (inv_mk l p q ((j + 1))) (out_mk l p q j) = (let z0 := (AV.fn (Fn.yield l) [] []); (branch (decide (p + (↑j : Int) ≤ q)) (need [l = l, j < Int.toNat (q - p + (1 : Int)), Eq1 ([Value.int IntKind.i64 (p + (↑j : Int))])] (Tree.may True (need [inI64 (p + (↑j : Int) + 1)] (need [Eq1 z0, Eq1 (AV.ro [iI p]), Eq1 (AV.ro [iI q]), p + (↑j : Int) + 1 = p + (↑(j + 1) : Int), j + 1 = j + 1] (leaf AEx.normal))) (need [Eq1 z0, Eq1 (AV.ro [iI p]), Eq1 (AV.ro [iI q])] (leaf AEx.ret)))) (need [Eq1 z0, Eq1 (AV.ro [iI p]), Eq1 (AV.ro [iI q]), j = Int.toNat (q - p + (1 : Int))] (leaf (AEx.exit 0))))) := by kernel_rfl
  rw [e]
  simp only [T_mk, out_mk, Tree.sat, Option.getD_some] at hQ
  have hQ1 : ∀ E, out_mk l p q j (.exit 0) = some E → Q (.exit 0, E) := fun E hE => by cases hE; exact hQ.1 trivial
  have hQ2 : ∀ E, out_mk l p q j .ret = some E → Q (.ret, E) := fun E hE => by cases hE; exact hQ.2
  simp only [Tree.sat, allP, true_and, and_true, decide_eq_true_eq, decide_eq_false_iff_not, inI64, Int.toNat_natCast]
  clear e hQ
  repeat' first | with_reducible apply And.intro | with_reducible intro _
  all_goals first | exact True.intro | omega | with_reducible rfl | exact hQ1 _ (by assumption) | exact hQ2 _ (by assumption)
theorem marks1_seq (p q : Int) (pre0 : -1000000 ≤ p ∧ p ≤ 1000000) (pre1 : -1000000 ≤ q ∧ q ≤ 1000000) : SoundSeq Tryz.prog 133 [.ro [i p], .ro [i q]] (((q - p + 1).toNat)) (mkV p) := by
 refine soundSeq_fin (G := []) (L := fun l => [LS_mk l p q]) (SoundG.nil _) mixed ⟨_, Tryz.func133, by kernel_rfl, by kernel_rfl⟩ Tryz.func133 (show Tryz.f133.body = some (bodyOf Tryz.f133) by kernel_rfl) (by kernel_rfl) (fun l cx hX => one_loop (lpE (b := .loop B_mk) (by kernel_rfl) <| mk_lc l p q pre0 pre1 hX)) (t := fun l => (need [AV.fn (Fn.yield l) [] [] = AV.fn (Fn.yield l) [] [], AV.ro [iI p] = AV.ro [iI p], AV.ro [iI q] = AV.ro [iI q], p = p + (↑(0 : Nat) : Int), 0 = 0] (Tree.may True (need [Int.toNat (q - p + (1 : Int)) = Int.toNat (q - p + (1 : Int))] (leaf PUnit.unit)) (leaf PUnit.unit)))) (fun l => by kernel_rfl) ?_
 intro l
 simp only [Tree.sat, allP, fitP, fitL, valEq, inI64, true_and, and_true, decide_eq_true_eq, decide_eq_false_iff_not, Int.natCast_zero, Int.toNat_natCast]
 repeat' first | with_reducible apply And.intro | with_reducible intro _
 all_goals first | exact True.intro | omega | with_reducible rfl | assumption
end Go.Proofs.YtlinbkmpkcmniaaGreat
namespace Go.Proofs.YtlinbkmpkcmniaaGreat
open Go Go.Sx Go.RowKit Bo
open Go.Sx.Tree (need branch leaf)
open Go.Sx.AV (lst ptr agg roI tup top)
theorem cat1 {p : Int} {k j : Nat} (h : j < k + 1) : catF k (fun j => [i (p + j)]) (chunk 1 [i (p + k)]) j = [i (p + j)] := by
 show mergeL (decide (j < k)) [i (p + j)] (chunk 1 [i (p + k)] (j - k)) = _
 rw [show j - k = 0 by omega]
 by_cases hj : j < k
 ·rw [decide_eq_true hj]; rfl
 ·obtain rfl : j = k := by omega
  rw [decide_eq_false hj]
  rfl
noncomputable def E_as (p q : Int) : St := (some { σ := [AV.x (Value.slice none 0 0), AV.fn (Fn.func 133) [] [AV.ro [iI p], AV.ro [iI q]], ptr 0 0, top, AV.x (Value.slice none 0 0), top, AV.fn (Fn.func 133) [] [AV.ro [iI p], AV.ro [iI q]]] ++ tpL 6 [], m := [(900, Res.row 3 1 0 fun x => []), (0, Res.cells 64 [AV.row 900])], nx := 901 } : Option St).getD { σ := [], m := [], nx := 0 }
def rfF : Option Code → Operand
 | some (.rangeFunc f _ _ _) => f
 | _ => .const .nilFunc
def rfPs : Option Code → Array Nat
 | some (.rangeFunc _ ps _ _) => ps
 | _ => #[]
def rfAs : Option Code → Code
 | some (.rangeFunc _ _ a _) => a
 | _ => .skip
def rfBd : Option Code → Code
 | some (.rangeFunc _ _ _ b) => b
 | _ => .skip
noncomputable def A_as : Code := rfAs (loopAt (bodyOf Tryz.f138) 0)
noncomputable def B_as : Code := rfBd (loopAt (bodyOf Tryz.f138) 0)
noncomputable def inv_as (p q : Int) (k : Nat) : St := { σ := ovrS [] (E_as p q).σ, m := [(900, .row 3 1 k (fun j => [i (p + j)])), (0, .cells 64 [.row 900])], nx := 901 }
noncomputable def out_as (p q : Int) (k : Nat) : AEx → Option St := fun ex => match ex with
 | .normal => some { σ := ovrS [] (E_as p q).σ, m := [(900, .row 3 1 ((q - p + 1).toNat) (fun j => [i (p + j)])), (0, .cells 64 [.row 900])], nx := 901 }
 | _ => none
noncomputable def T_as (p q : Int) : CT := .leaf (.normal,  inv_as p q ((q - p + 1).toNat))
noncomputable def LS_as (p q : Int) : LSpec := normSp [(.cell 0 0, 900, 3, 1)] (sumL (inv_as p q (0)) (T_as p q))
theorem as_ln (p q : Int) (pre0 : -1000000 ≤ p ∧ p ≤ 1000000) (pre1 : -1000000 ≤ q ∧ q ≤ 1000000) : LSoundN Tryz.prog (.rangeFunc (rfF (loopAt (bodyOf Tryz.f138) 0)) (rfPs (loopAt (bodyOf Tryz.f138) 0)) A_as B_as) (LS_as p q) := by
 refine range_rounds [(.cell 0 0, 900, 3, 1)] (G := []) (X := {}) (L := []) (SoundG.nil _) (SoundX.of (SoundRL.nil _) (SoundHL.nil _)) mixed noLoops (V := Nat) (inv_as p q) (fun k => k ≤ ((q - p + 1).toNat)) (fun k => k) (out_as p q) (x0 := 0) (by simp) rfl ?_ ?_ ?_ ?_ (g := 133) (caps := [.ro [i p], .ro [i q]]) (by kernel_rfl) (by kernel_rfl) (marks1_seq p q pre0 pre1) (fun _ => rfl) ?_
 ·rintro k
  kernel_rfl
 ·rintro k y E h
  unfold out_as at h
  split at h
  ·cases h; kernel_rfl
  ·cases h
 ·rintro k
  rfl
 ·rintro k y E h
  unfold out_as at h
  split at h
  ·cases h; rfl
  ·cases h
 ·rintro Q hQ k hx
  refine ⟨fun hlt => ⟨(k + 1), rfl, ?_⟩, fun hend => ?_⟩
  ·have e : roundR Tryz.prog [] {} [] [(.cell 0 0, 900, 3, 1)] (rfPs (loopAt (bodyOf Tryz.f138) 0)).toList ((mkV p) (k)) A_as B_as (inv_as p q k) (inv_as p q ((k + 1))) (out_as p q k) = (let z0 := (AV.fn (Fn.func 133) [] [AV.ro [iI p], AV.ro [iI q]]); (need [(k + 1) * 8 ≤ 140737488355328, ∀ (i : Nat), i < 1 → ∀ (a : AV), a ∈ chunk 1 [iI (p + (↑k : Int))] i → AV.one a = true] (need [Eq1 (AV.x (Value.slice none 0 0)), Eq1 z0, Eq1 (ptr 0 0), Eq1 (AV.x (Value.slice none 0 0)), Eq1 z0, k + 1 = k + 1, ∀ (i : Nat), i < k + 1 → catF k (fun j => [iI (p + (↑j : Int))]) (chunk 1 [iI (p + (↑k : Int))]) i = [iI (p + (↑i : Int))], Eq1 (AV.row 900)] (leaf AEx.normal)))) := by kernel_rfl
   rw [e]
   simp only [Tree.sat, allP, true_and, and_true]
   clear e
   refine ⟨⟨by omega, fun j hj a ha => one_of ha (by simp [AV.one, Value.oneCell'])⟩, fun j hj => ?_, by omega⟩
   exact cat1 hj
  ·subst hend
   exact hQ
def mkF (p : Int) (j : Nat) : List AV := [i (p + j)]
theorem appSeq_at (p q : Int) (pre0 : -1000000 ≤ p ∧ p ≤ 1000000) (pre1 : -1000000 ≤ q ∧ q ≤ 1000000) : SoundAt Tryz.prog 138 [.x (.slice none 0 0), .fn (.func 133) [] [.ro [i p], .ro [i q]]] (.lst 1 ((q - p + 1).toNat) (mkF p)) := by
 refine soundAt_finX (G := []) (X := {}) (L := [LS_as p q]) (SoundG.nil _) (SoundX.of (SoundRL.nil _) (SoundHL.nil _)) mixed Tryz.func138 (show Tryz.f138.body = some (bodyOf Tryz.f138) by kernel_rfl) (one_loop (lpE (b := .rangeFunc (rfF (loopAt (bodyOf Tryz.f138) 0)) (rfPs (loopAt (bodyOf Tryz.f138) 0)) A_as B_as) (by kernel_rfl) <| as_ln p q pre0 pre1)) (t := (need [Eq1 (AV.x (Value.slice none 0 0)), Eq1 (AV.fn (Fn.func 133) [] [AV.ro [iI p], AV.ro [iI q]]), Eq1 (ptr 0 0), Eq1 (AV.x (Value.slice none 0 0)), Eq1 (AV.fn (Fn.func 133) [] [AV.ro [iI p], AV.ro [iI q]]), 0 = 0, ∀ (i : Nat), i < 0 → [] = [iI (p + (↑i : Int))], Eq1 (AV.row 900)] (leaf (RV.lst 1 (Int.toNat (q - p + (1 : Int))) fun j => [iI (p + (↑j : Int))])))) (by kernel_rfl) ?_
 simp only [Tree.sat, allP, fitP, fitL, valEq, true_and, and_true]
 (repeat' first | with_reducible apply And.intro | with_reducible intro _)
 all_goals first | exact True.intro | omega | with_reducible rfl | assumption | rfl | (rename_i h; exact absurd h (Nat.not_lt_zero _)) | (rename_i hm; cases List.mem_singleton.1 hm; exact True.intro) | skip
def S_appSeq : Sx.Spec := fun l => match l with
 | [.x (.slice none 0 0), .fn (.func 133) [] [.ro [.x (.int .i64 p)], .ro [.x (.int .i64 q)]]] => some ([-1000000 ≤ p ∧ p ≤ 1000000, -1000000 ≤ q ∧ q ≤ 1000000], .lst 1 ((q - p + 1).toNat) (mkF p))
 | _ => none
theorem appSeq_ok : SoundSpec Tryz.prog 138 S_appSeq := by
 refine ⟨⟨_, Tryz.func138, by kernel_rfl, by kernel_rfl⟩, ?_⟩
 intro avs ns res h hn
 unfold S_appSeq at h
 split at h
 ·cases h
  exact appSeq_at _ _ (hn _ (by simp)) (hn _ (by simp))
 ·cases h
def S_collect : Sx.Spec := fun l => match l with
 | [.fn (.func 133) [] [.ro [.x (.int .i64 p)], .ro [.x (.int .i64 q)]]] => some ([-1000000 ≤ p ∧ p ≤ 1000000, -1000000 ≤ q ∧ q ≤ 1000000], .lst 1 ((q - p + 1).toNat) (mkF p))
 | _ => none
theorem collect_at (p q : Int) (pre0 : -1000000 ≤ p ∧ p ≤ 1000000) (pre1 : -1000000 ≤ q ∧ q ≤ 1000000) : SoundAtR Tryz.prog 115 [.fn (.func 133) [] [.ro [i p], .ro [i q]]] (.lst 1 ((q - p + 1).toNat) (mkF p)) := by
 refine soundAtR_fin (G := [(138, S_appSeq)]) (X := {}) (L := []) (SoundG.cons appSeq_ok (SoundG.nil _)) (SoundX.of (SoundRL.nil _) (SoundHL.nil _)) mixed Tryz.func115 (show Tryz.f115.body = some (bodyOf Tryz.f115) by kernel_rfl) noLoopsS (t := (need [(-1000000 : Int) ≤ p ∧ p ≤ (1000000 : Int), (-1000000 : Int) ≤ q ∧ q ≤ (1000000 : Int)] (leaf (lst 1 (Int.toNat (q - p + (1 : Int))) fun j => [iI (p + (↑j : Int))])))) (by kernel_rfl) ?_
 simp only [Tree.sat, allP, true_and, and_true]
 exact ⟨⟨pre0, pre1⟩, rfl, rfl, fun _ _ => rfl⟩
theorem collect_okR : SoundR Tryz.prog 115 S_collect := by
 refine ⟨⟨_, Tryz.func115, by kernel_rfl, by kernel_rfl⟩, ?_⟩
 intro avs ns res h hn
 unfold S_collect at h
 split at h
 ·cases h
  exact collect_at _ _ (hn _ (by simp)) (hn _ (by simp))
 ·cases h
end Go.Proofs.YtlinbkmpkcmniaaGreat
namespace Go.Proofs.YtlinbkmpkcmniaaGreat
open Go Go.Sx Go.RowKit Bo
open Go.Sx.Tree (need branch leaf)
open Go.Sx.AV (lst ptr agg roI tup top)
def keB (c : Int) (f : Nat → Int) (u0 u1 wi day : Int) : Bool := allI (fun k => keP c f wi day (u0 + k)) (u1 - u0 + 1).toNat
def dyLo (p : Nat → Bool) : Nat → Int
 | 0 => 10001
 | k + 1 => if p k then min (dyLo p k) k else dyLo p k
def dyHi (p : Nat → Bool) : Nat → Int
 | 0 => -1
 | k + 1 => if p k then max (dyHi p k) k else dyHi p k
theorem least_at (a b : Int) : SoundAt Tryz.prog 111 [.lst 1 2 (fun k => [i (if k = 0 then a else b)])] (i (min a b)) := by
 refine soundAt_fin (G := [(134, Bo.S_sMin)]) (L := []) (SoundG.cons Bo.sMin_ok (SoundG.nil _)) mixed Tryz.func111 (show Tryz.f111.body = some (bodyOf Tryz.f111) by kernel_rfl) noLoops (t := (leaf (RV.x (Value.int IntKind.i64 (min (if 0 = 0 then a else b) (if 1 = 0 then a else b)))))) (by kernel_rfl) ?_
 simp [Tree.sat, fitP, valEq]
def S_least : Sx.Spec := S_sMin
theorem least_ok : SoundSpec Tryz.prog 111 S_least := by
 refine ⟨⟨_, Tryz.func111, by kernel_rfl, by kernel_rfl⟩, ?_⟩
 intro avs ns res h hn
 unfold S_least S_sMin at h
 split at h
 ·rename_i f
  split at h
  ·rename_i a b h0 h1
   cases h
   refine (least_at a b).same (.cons (.lst 1 2 _ _ ?_) .nil)
   intro k hk
   rcases (show k = 0 ∨ k = 1 by omega) with rfl | rfl
   ·exact h0
   ·exact h1
  ·cases h
 ·cases h
theorem greatest_at (a b : Int) : SoundAt Tryz.prog 112 [.lst 1 2 (fun k => [i (if k = 0 then a else b)])] (i (max a b)) := by
 refine soundAt_fin (G := [(135, Bo.S_sMax)]) (L := []) (SoundG.cons Bo.sMax_ok (SoundG.nil _)) mixed Tryz.func112 (show Tryz.f112.body = some (bodyOf Tryz.f112) by kernel_rfl) noLoops (t := (leaf (RV.x (Value.int IntKind.i64 (max (if 0 = 0 then a else b) (if 1 = 0 then a else b)))))) (by kernel_rfl) ?_
 simp [Tree.sat, fitP, valEq]
def S_greatest : Sx.Spec := S_sMax
theorem greatest_ok : SoundSpec Tryz.prog 112 S_greatest := by
 refine ⟨⟨_, Tryz.func112, by kernel_rfl, by kernel_rfl⟩, ?_⟩
 intro avs ns res h hn
 unfold S_greatest S_sMax at h
 split at h
 ·rename_i f
  split at h
  ·rename_i a b h0 h1
   cases h
   refine (greatest_at a b).same (.cons (.lst 1 2 _ _ ?_) .nil)
   intro k hk
   rcases (show k = 0 ∨ k = 1 by omega) with rfl | rfl
   ·exact h0
   ·exact h1
  ·cases h
 ·cases h
def S_kept : Sx.Spec := fun l => match l with
 | [.roI [.x (.int .i64 c), .x (.int .i64 T), .x (.int .i64 lo), .x (.int .i64 hi), A, B] 26 f 0, .agg [.x (.int .i64 u0), .x (.int .i64 u1), .x (.int .i64 wi)], .x (.int .i64 day)] => some ([drB f, bdB f, 1 ≤ c ∧ c ≤ 10, 0 ≤ u0 ∧ u0 ≤ u1 ∧ u1 ≤ 10, 0 ≤ wi ∧ wi ≤ 1000000, 0 ≤ day ∧ day ≤ 100000], bl (keB c f u0 u1 wi day))
 | _ => none
theorem kept_at (c T lo hi : Int) (A B : AV) (f : Nat → Int) (u0 u1 wi day : Int) (pre0 : drB f) (pre1 : bdB f) (pre2 : 1 ≤ c ∧ c ≤ 10) (pre3 : 0 ≤ u0 ∧ u0 ≤ u1 ∧ u1 ≤ 10) (pre4 : 0 ≤ wi ∧ wi ≤ 1000000) (pre5 : 0 ≤ day ∧ day ≤ 100000) : SoundAt Tryz.prog 82 [.roI [i c, i T, i lo, i hi, A, B] 26 f 0, .agg [i u0, i u1, i wi], i day] (bl (keB c f u0 u1 wi day)) := by
 refine soundAt_finX (G := [(114, S_alli)]) (X := { R := [(109, S_marks), (115, S_collect)], H := [] }) (L := []) (SoundG.cons alli_ok (SoundG.nil _)) (SoundX.of (SoundRL.cons marks_okR (SoundRL.cons collect_okR (SoundRL.nil _))) (SoundHL.nil _)) mixed Tryz.func82 (show Tryz.f82.body = some (bodyOf Tryz.f82) by kernel_rfl) noLoopsS (t := (need [(-1000000 : Int) ≤ u0 ∧ u0 ≤ (1000000 : Int), (-1000000 : Int) ≤ u1 ∧ u1 ≤ (1000000 : Int)] (need [isRec 1 (Int.toNat (u1 - u0 + (1 : Int))) (mkF u0), Int.toNat (u1 - u0 + (1 : Int)) ≤ 100000, drB f, bdB f, (1 : Int) ≤ c ∧ c ≤ (10 : Int), (0 : Int) ≤ day ∧ day ≤ (100000 : Int), (0 : Int) ≤ wi ∧ wi ≤ (1000000 : Int), ∀ (j : Nat), j < Int.toNat (u1 - u0 + (1 : Int)) → (0 : Int) ≤ col 0 (mkF u0) j ∧ col 0 (mkF u0) j ≤ (10 : Int)] (leaf (RV.x (Value.bool (allI (fun k => keP c f wi day (col 0 (mkF u0) k)) (Int.toNat (u1 - u0 + (1 : Int)))))))))) (by kernel_rfl) ?_
 simp only [Tree.sat, allP, fitP, fitL, valEq, true_and, and_true, keB]
 refine ⟨⟨by omega, by omega⟩, ⟨fun k hk => rfl, by omega, pre0, pre1, pre2, pre5, pre4, fun j hj => ?_⟩, rfl⟩
 show 0 ≤ u0 + (j : Int) ∧ u0 + (j : Int) ≤ 10
 omega
theorem kept_ok : SoundSpec Tryz.prog 82 S_kept := by
 refine ⟨⟨_, Tryz.func82, by kernel_rfl, by kernel_rfl⟩, ?_⟩
 intro avs ns res h hn
 unfold S_kept at h
 split at h
 ·cases h
  exact kept_at _ _ _ _ _ _ _ _ _ _ _ (hn _ (by simp)) (hn _ (by simp)) (hn _ (by simp)) (hn _ (by simp)) (hn _ (by simp)) (hn _ (by simp))
 ·cases h
noncomputable def E_dd (c T lo hi : Int) (A B : AV) (f : Nat → Int) (u0 u1 wi : Int) (N : Nat) : St := (some { σ := [roI [iI c, iI T, iI lo, iI hi, A, B] 26 (fun a => f a) 0, agg [iI u0, iI u1, iI wi], top, ptr 0 0, ptr 1 0, AV.lit false] ++ tpL 25 [], m := [(1, Res.cells 45 [iI (10001 : Int), iI (-1 : Int)]), (0, Res.cells 76 [iI u0, iI u1, iI wi])], nx := 6 } : Option St).getD { σ := [], m := [], nx := 0 }
noncomputable def B_dd : Code := loopBody (loopAt (bodyOf Tryz.f80) 0)
noncomputable def inv_dd (c T lo hi : Int) (A B : AV) (f : Nat → Int) (u0 u1 wi : Int) (N : Nat) (k : Nat) : St := { σ := ovrS [(8, i k)] (E_dd c T lo hi A B f u0 u1 wi N).σ, m := [(1, .cells 45 [i (dyLo (fun k => keB c f u0 u1 wi k) k), i (dyHi (fun k => keB c f u0 u1 wi k) k)]), (0, .cells 76 [i u0, i u1, i wi])], nx := (E_dd c T lo hi A B f u0 u1 wi N).nx }
noncomputable def out_dd (c T lo hi : Int) (A B : AV) (f : Nat → Int) (u0 u1 wi : Int) (N : Nat) (k : Nat) : AEx → Option St := fun ex => match ex with
 | .exit 0 => some { σ := ovrS [(8, i N)] (E_dd c T lo hi A B f u0 u1 wi N).σ, m := [(1, .cells 45 [i (dyLo (fun k => keB c f u0 u1 wi k) N), i (dyHi (fun k => keB c f u0 u1 wi k) N)]), (0, .cells 76 [i u0, i u1, i wi])], nx := (E_dd c T lo hi A B f u0 u1 wi N).nx }
 | _ => none
noncomputable def T_dd (c T lo hi : Int) (A B : AV) (f : Nat → Int) (u0 u1 wi : Int) (N : Nat) : CT := .leaf (.exit 0, ( out_dd c T lo hi A B f u0 u1 wi N 0 (.exit 0)).getD (E_dd c T lo hi A B f u0 u1 wi N))
noncomputable def LS_dd (c T lo hi : Int) (A B : AV) (f : Nat → Int) (u0 u1 wi : Int) (N : Nat) : LSpec := normSp [] (sumL (inv_dd c T lo hi A B f u0 u1 wi N (0)) (T_dd c T lo hi A B f u0 u1 wi N))
theorem dd_ls (c T lo hi : Int) (A B : AV) (f : Nat → Int) (u0 u1 wi : Int) (N : Nat) (pre0 : drB f) (pre1 : bdB f) (pre2 : 1 ≤ c ∧ c ≤ 10) (pre3 : 0 ≤ u0 ∧ u0 ≤ u1 ∧ u1 ≤ 10) (pre4 : 0 ≤ wi ∧ wi ≤ 1000000) (pre5 : N = 10001) : LSound Tryz.prog (.loop B_dd) (LS_dd c T lo hi A B f u0 u1 wi N) := by
 refine loop_roundsX [] (E := {}) (G := [(82, S_kept), (111, S_least), (112, S_greatest)]) (L := []) (SoundG.cons kept_ok (SoundG.cons least_ok (SoundG.cons greatest_ok (SoundG.nil _)))) (SoundX.of (SoundRL.nil _) (SoundHL.nil _)) mixed noLoops (X := Nat) (inv_dd c T lo hi A B f u0 u1 wi N) (fun k => k ≤ N) (fun k => N - k) (out_dd c T lo hi A B f u0 u1 wi N) (x0 := 0) (by simp) ?_ ?_ ?_
 ·rintro k
  kernel_rfl
 ·rintro k y E h
  unfold out_dd at h
  split at h
  ·cases h; kernel_rfl
  ·cases h
 ·rintro Q hQ k hx
  refine ⟨(k + 1), ?_⟩
  have e : roundX Tryz.prog [(82, S_kept), (111, S_least), (112, S_greatest)] {} [] [] B_dd (inv_dd c T lo hi A B f u0 u1 wi N k) (inv_dd c T lo hi A B f u0 u1 wi N ((k + 1))) (out_dd c T lo hi A B f u0 u1 wi N k) = (let z0 := keB c f u0 u1 wi; let z1 := (roI [iI c, iI T, iI lo, iI hi, A, B] 26 (fun a => f a) 0); let z2 := (agg [iI u0, iI u1, iI wi]); (branch (decide ((↑k : Int) < 10001)) (need [drB fun a => f a, bdB fun a => f a, (1 : Int) ≤ c ∧ c ≤ (10 : Int), (0 : Int) ≤ u0 ∧ u0 ≤ u1 ∧ u1 ≤ (10 : Int), (0 : Int) ≤ wi ∧ wi ≤ (1000000 : Int), (0 : Int) ≤ (↑k : Int) ∧ (↑k : Int) ≤ 100000] (branch (keB c (fun a => f a) u0 u1 wi (↑k : Int)) (need [inI64 ((↑k : Int) + 1)] (need [Eq1 z1, Eq1 z2, Eq1 (ptr 0 0), Eq1 (ptr 1 0), Eq1 (AV.lit false), (↑k : Int) + 1 = (↑(k + 1) : Int), min (dyLo (fun k => z0 (↑k : Int)) k) (↑k : Int) = dyLo (fun k => z0 (↑k : Int)) (k + 1), max (dyHi (fun k => z0 (↑k : Int)) k) (↑k : Int) = dyHi (fun k => z0 (↑k : Int)) (k + 1), u0 = u0, u1 = u1, wi = wi] (leaf AEx.normal))) (need [inI64 ((↑k : Int) + 1)] (need [Eq1 z1, Eq1 z2, Eq1 (ptr 0 0), Eq1 (ptr 1 0), Eq1 (AV.lit false), (↑k : Int) + 1 = (↑(k + 1) : Int), dyLo (fun k => z0 (↑k : Int)) k = dyLo (fun k => z0 (↑k : Int)) (k + 1), dyHi (fun k => z0 (↑k : Int)) k = dyHi (fun k => z0 (↑k : Int)) (k + 1), u0 = u0, u1 = u1, wi = wi] (leaf AEx.normal))))) (need [Eq1 z1, Eq1 z2, Eq1 (ptr 0 0), Eq1 (ptr 1 0), Eq1 (AV.lit false), (↑k : Int) = (↑N : Int), dyLo (fun k => z0 (↑k : Int)) k = dyLo (fun k => z0 (↑k : Int)) N, dyHi (fun k => z0 (↑k : Int)) k = dyHi (fun k => z0 (↑k : Int)) N, u0 = u0, u1 = u1, wi = wi] (leaf (AEx.exit 0))))) := by kernel_rfl
  rw [e]
  simp only [T_dd, out_dd, Tree.sat, Option.getD_some] at hQ
  have eL : dyLo (fun k => keB c f u0 u1 wi k) (k + 1) = if keB c f u0 u1 wi k then min (dyLo (fun k => keB c f u0 u1 wi k) k) k else dyLo (fun k => keB c f u0 u1 wi k) k := rfl
  have eH : dyHi (fun k => keB c f u0 u1 wi k) (k + 1) = if keB c f u0 u1 wi k then max (dyHi (fun k => keB c f u0 u1 wi k) k) k else dyHi (fun k => keB c f u0 u1 wi k) k := rfl
  simp only [Tree.sat, allP, fitP, fitL, valEq, inI64, true_and, and_true, decide_eq_true_eq, decide_eq_false_iff_not, Int.toNat_natCast]
  clear e
  refine ⟨fun h => ⟨⟨pre0, pre1, pre2, pre3, pre4, by omega⟩, fun hk => ?_, fun hk => ?_⟩, fun h => ?_⟩
  ·rw [eL, eH, if_pos hk, if_pos hk]
   (repeat' first | with_reducible apply And.intro | with_reducible intro _)
   all_goals first | exact True.intro | omega | with_reducible rfl | assumption
  ·have hk : ¬ keB c f u0 u1 wi k = true := by rw [hk]; simp
   rw [eL, eH, if_neg hk, if_neg hk]
   (repeat' first | with_reducible apply And.intro | with_reducible intro _)
   all_goals first | exact True.intro | omega | with_reducible rfl | assumption
  ·obtain rfl : k = N := by omega
   (repeat' first | with_reducible apply And.intro | with_reducible intro _)
   all_goals first | exact True.intro | omega | with_reducible rfl | (rename_i E hE; cases hE; exact hQ)
theorem days_at (c T lo hi : Int) (A B : AV) (f : Nat → Int) (u0 u1 wi : Int) (N : Nat) (pre0 : drB f) (pre1 : bdB f) (pre2 : 1 ≤ c ∧ c ≤ 10) (pre3 : 0 ≤ u0 ∧ u0 ≤ u1 ∧ u1 ≤ 10) (pre4 : 0 ≤ wi ∧ wi ≤ 1000000) (pre5 : N = 10001) : SoundAt Tryz.prog 80 [.roI [i c, i T, i lo, i hi, A, B] 26 f 0, .agg [i u0, i u1, i wi]] (.tup [.agg [i (dyLo (fun k => keB c f u0 u1 wi k) N), i (dyHi (fun k => keB c f u0 u1 wi k) N)], bl (decide (dyHi (fun k => keB c f u0 u1 wi k) N ≥ 0))]) := by
 refine soundAt_finX (G := []) (X := {}) (L := [LS_dd c T lo hi A B f u0 u1 wi N]) (SoundG.nil _) (SoundX.of (SoundRL.nil _) (SoundHL.nil _)) mixed Tryz.func80 (show Tryz.f80.body = some (bodyOf Tryz.f80) by kernel_rfl) (one_loop (lpE (b := .loop B_dd) (by kernel_rfl) <| (dd_ls c T lo hi A B f u0 u1 wi N pre0 pre1 pre2 pre3 pre4 pre5).N)) (t := (let z0 := keB c f u0 u1 wi; (need [Eq1 (roI [iI c, iI T, iI lo, iI hi, A, B] 26 (fun a => f a) 0), Eq1 (agg [iI u0, iI u1, iI wi]), Eq1 (ptr 0 0), Eq1 (ptr 1 0), Eq1 (AV.lit false), (0 : Int) = (↑(0 : Nat) : Int), (10001 : Int) = dyLo (fun k => z0 (↑k : Int)) 0, (-1 : Int) = dyHi (fun k => z0 (↑k : Int)) 0, u0 = u0, u1 = u1, wi = wi] (leaf (RV.tup [RV.agg [RV.x (Value.int IntKind.i64 (dyLo (fun k => z0 (↑k : Int)) N)), RV.x (Value.int IntKind.i64 (dyHi (fun k => z0 (↑k : Int)) N))], RV.x (Value.bool (decide (dyHi (fun k => z0 (↑k : Int)) N ≥ (0 : Int))))]))))) (by kernel_rfl) ?_
 simp only [Tree.sat, allP, fitP, fitL, valEq, true_and, and_true]
 exact ⟨rfl, rfl, rfl⟩
def nD : Nat := 10001
def keD (c : Int) (f : Nat → Int) (u0 u1 wi : Int) (k : Nat) : Bool := keB c f u0 u1 wi k
def S_days : Sx.Spec := fun l => match l with
 | [.roI [.x (.int .i64 c), .x (.int .i64 T), .x (.int .i64 lo), .x (.int .i64 hi), A, B] 26 f 0, .agg [.x (.int .i64 u0), .x (.int .i64 u1), .x (.int .i64 wi)]] => some ([drB f, bdB f, 1 ≤ c ∧ c ≤ 10, 0 ≤ u0 ∧ u0 ≤ u1 ∧ u1 ≤ 10, 0 ≤ wi ∧ wi ≤ 1000000], .tup [.agg [i (dyLo (keD c f u0 u1 wi) nD), i (dyHi (keD c f u0 u1 wi) nD)], bl (decide (dyHi (keD c f u0 u1 wi) nD ≥ 0))])
 | _ => none
theorem days_ok : SoundSpec Tryz.prog 80 S_days := by
 refine ⟨⟨_, Tryz.func80, by kernel_rfl, by kernel_rfl⟩, ?_⟩
 intro avs ns res h hn
 unfold S_days at h
 split at h
 ·cases h
  exact days_at _ _ _ _ _ _ _ _ _ _ nD (hn _ (by simp)) (hn _ (by simp)) (hn _ (by simp)) (hn _ (by simp)) (hn _ (by simp)) rfl
 ·cases h
end Go.Proofs.YtlinbkmpkcmniaaGreat
namespace Go.Proofs.YtlinbkmpkcmniaaGreat.Bo
open Go Go.Sx Go.RowKit
open Go.Sx.Tree (need branch leaf)
open Go.Sx.AV (lst ptr agg roI tup top)
theorem needSp_soundN {P : Program} {c : Code} {ps : List Prop} {sp : LSpec} (h : allP ps → LSoundN P c sp) : LSoundN P c (needSp ps sp) := fun cx hf => needSp_soundC (fun hp => h hp cx hf)
theorem rdM_congr {c : Nat} {T lo hi : Int} {a b u v a' b' u' v' : Nat → Int} : ∀ {n : Nat}, (∀ j, j < n → a j = a' j ∧ b j = b' j ∧ u j = u' j ∧ v j = v' j) → rdM c T lo hi a b u v n = rdM c T lo hi a' b' u' v' n
 | 0, _ => rfl
 | n + 1, h => by
  obtain ⟨h1, h2, h3, h4⟩ := h n (by omega)
  show rdS c (rdM c T lo hi a b u v n) _ _ _ _ = rdS c (rdM c T lo hi a' b' u' v' n) _ _ _ _
  rw [rdM_congr (fun j hj => h j (by omega)), h1, h2, h3, h4]
theorem fwM_congr {c : Nat} {T lo hi : Int} {a b u v a' b' u' v' : Nat → Int} {n : Nat} (h : ∀ j, j < n → a j = a' j ∧ b j = b' j ∧ u j = u' j ∧ v j = v' j) : fwM c T lo hi n a b u v = fwM c T lo hi n a' b' u' v' := by
 unfold fwM
 rw [rdM_congr h]
theorem okR_congr {c : Nat} {T lo hi : Int} {a b u v a' b' u' v' : Nat → Int} {n : Nat} (h : ∀ j, j < n → a j = a' j ∧ b j = b' j ∧ u j = u' j ∧ v j = v' j) : okR c T lo hi n a b u v = okR c T lo hi n a' b' u' v' := by
 unfold okR
 rw [fwM_congr h]
theorem rdB_of {c a b u v : Int} (h : (0 ≤ a ∧ a ≤ c - 1) ∧ (a ≤ b ∧ b ≤ c) ∧ 0 ≤ u ∧ u ≤ v ∧ v ≤ 2000) : rdB c a b u v = true := by
 simp only [rdB, Bool.and_eq_true, bt_iff, insB_iff]
 omega
end Go.Proofs.YtlinbkmpkcmniaaGreat.Bo
namespace Go.Proofs.YtlinbkmpkcmniaaGreat.Bo
open Go Go.Sx Go.RowKit
open Go.Sx.Tree (need branch leaf)
open Go.Sx.AV (lst ptr agg roI tup top)
end Go.Proofs.YtlinbkmpkcmniaaGreat.Bo
namespace Go.Proofs.YtlinbkmpkcmniaaGreat.Bo
open Go Go.Sx Go.RowKit
open Go.Sx.Tree (need branch leaf)
open Go.Sx.AV (lst ptr agg roI tup top)
def Tr (c : Nat) (T lo hi : Int) (n : Nat) (a b u v : Nat → Int) (h : Nat → Int) : Prop :=
 h 0 = 0 ∧ h c = T ∧ (∀ k, k < c → lo ≤ h (k + 1) - h k ∧ h (k + 1) - h k ≤ hi) ∧ ∀ j, j < n → h (b j).toNat - h (a j).toNat ≤ v j ∧ (b j < c → u j + 1 ≤ h (b j + 1).toNat - h (a j).toNat)
def ob (c : Nat) (M : Nat → Nat → Int) (h : Nat → Int) : Prop := ∀ x y, x ≤ c → y ≤ c → h y - h x ≤ M x y
theorem ob_bnd {c : Nat} {M : Nat → Nat → Int} {h : Nat → Int} {p q : Nat} {v : Int} (hp : p ≤ c) (hq : q ≤ c) : ob c (bnd M p q v) h ↔ ob c M h ∧ h q - h p ≤ v := by
 constructor
 ·intro k
  refine ⟨fun x y hx hy => Int.le_trans (k x y hx hy) (bnd_le _ _ _ _ _ _), Int.le_trans (k p q hp hq) (bnd_at _ _ _ _)⟩
 ·rintro ⟨k1, k2⟩ x y hx hy
  have h1 := k1 x y hx hy
  unfold bnd set2
  split
  ·rename_i e
   rw [e.1, e.2] at h1 ⊢
   omega
  ·exact h1
theorem ob_mono {c : Nat} {M N : Nat → Nat → Int} {h : Nat → Int} (hm : ∀ x y, M x y ≤ N x y) (k : ob c M h) : ob c N h := fun x y hx hy => Int.le_trans (k x y hx hy) (hm x y)
theorem fwS_le (M : Nat → Nat → Int) (o f t x y : Nat) : fwS M o f t x y ≤ M x y := bnd_le _ _ _ _ _ _
theorem fwT_le (M : Nat → Nat → Int) (o f : Nat) : ∀ t x y, fwT M o f t x y ≤ M x y
 | 0, _, _ => Int.le_refl _
 | t + 1, x, y => Int.le_trans (fwS_le _ _ _ _ _ _) (fwT_le M o f t x y)
theorem fwF_le (c : Nat) (M : Nat → Nat → Int) (o : Nat) : ∀ f x y, fwF c M o f x y ≤ M x y
 | 0, _, _ => Int.le_refl _
 | f + 1, x, y => Int.le_trans (fwT_le _ _ _ _ _ _) (fwF_le c M o f x y)
theorem fwO_le1 (c : Nat) (M : Nat → Nat → Int) (o x y : Nat) : fwO c M (o + 1) x y ≤ fwO c M o x y := fwF_le _ _ _ _ _ _
theorem fwO_le2 (c : Nat) (M : Nat → Nat → Int) (o : Nat) : ∀ d x y, fwO c M (o + d) x y ≤ fwO c M o x y
 | 0, _, _ => Int.le_refl _
 | d + 1, x, y => Int.le_trans (fwO_le1 c M (o + d) x y) (fwO_le2 c M o d x y)
theorem fwO_le (c : Nat) (M : Nat → Nat → Int) (o x y : Nat) : fwO c M o x y ≤ M x y := by
 have := fwO_le2 c M 0 o x y
 rwa [Nat.zero_add] at this
theorem ob_T {c : Nat} {M : Nat → Nat → Int} {h : Nat → Int} {o f : Nat} (ho : o ≤ c) (hf : f ≤ c) (k : ob c M h) : ∀ t, t ≤ c + 1 → ob c (fwT M o f t) h
 | 0, _ => k
 | t + 1, ht => by
  have ih := ob_T ho hf k t (by omega)
  refine (ob_bnd hf (by omega)).2 ⟨ih, ?_⟩
  have h1 := ih f o hf ho
  have h2 := ih o t ho (by omega)
  omega
theorem ob_F {c : Nat} {M : Nat → Nat → Int} {h : Nat → Int} {o : Nat} (ho : o ≤ c) (k : ob c M h) : ∀ f, f ≤ c + 1 → ob c (fwF c M o f) h
 | 0, _ => k
 | f + 1, hf => ob_T ho (by omega) (ob_F ho k f (by omega)) (c + 1) (Nat.le_refl _)
theorem ob_O {c : Nat} {M : Nat → Nat → Int} {h : Nat → Int} (k : ob c M h) : ∀ o, o ≤ c + 1 → ob c (fwO c M o) h
 | 0, _ => k
 | o + 1, ho => ob_F (by omega) (ob_O k o (by omega)) (c + 1) (Nat.le_refl _)
theorem fwT_eq {c : Nat} {M N : Nat → Nat → Int} {o f : Nat} (h0 : 0 ≤ M o o) (hN : ∀ x y, N x y = if x < f ∧ y ≤ c then min (M x y) (M x o + M o y) else M x y) : ∀ t, t ≤ c + 1 → ∀ x y, fwT N o f t x y = if (x < f ∧ y ≤ c) ∨ (x = f ∧ y < t) then min (M x y) (M x o + M o y) else M x y
 | 0, _, x, y => by
  show N x y = _
  rw [hN]
  by_cases h : x < f ∧ y ≤ c
  ·rw [if_pos h, if_pos (.inl h)]
  ·rw [if_neg h, if_neg (by omega)]
 | t + 1, ht, x, y => by
  have ih := fwT_eq h0 hN t (by omega)
  show bnd (fwT N o f t) f t (fwT N o f t f o + fwT N o f t o t) x y = _
  have e1 : fwT N o f t f o = M f o := by
   rw [ih]
   split <;> omega
  have e2 : fwT N o f t o t = M o t := by
   rw [ih]
   split <;> omega
  have e3 : fwT N o f t f t = M f t := by
   rw [ih, if_neg (by omega)]
  unfold bnd set2
  rw [e1, e2, e3]
  by_cases hxy : x = f ∧ y = t
  ·rw [if_pos hxy, if_pos (by omega), hxy.1, hxy.2]
  ·rw [if_neg hxy, ih]
   by_cases h : (x < f ∧ y ≤ c) ∨ (x = f ∧ y < t)
   ·rw [if_pos h, if_pos (by omega)]
   ·rw [if_neg h, if_neg (by omega)]
theorem fwF_eq {c : Nat} {M : Nat → Nat → Int} {o : Nat} (h0 : 0 ≤ M o o) : ∀ f x y, fwF c M o f x y = if x < f ∧ y ≤ c then min (M x y) (M x o + M o y) else M x y
 | 0, x, y => by
  rw [if_neg (by omega)]
  rfl
 | f + 1, x, y => by
  show fwT (fwF c M o f) o f (c + 1) x y = _
  rw [fwT_eq h0 (fwF_eq h0 f) (c + 1) (Nat.le_refl _)]
  by_cases h : (x < f ∧ y ≤ c) ∨ (x = f ∧ y < c + 1)
  ·rw [if_pos h, if_pos (by omega)]
  ·rw [if_neg h, if_neg (by omega)]
theorem fwO_closed {c : Nat} {M : Nat → Nat → Int} : ∀ k, k ≤ c + 1 → (∀ o, o < k → 0 ≤ fwO c M o o o) → ∀ p x y, p < k → x ≤ c → y ≤ c → fwO c M k x y ≤ fwO c M k x p + fwO c M k p y
 | 0, _, _, p, x, y, hp, _, _ => absurd hp (Nat.not_lt_zero _)
 | k + 1, hk, hd, p, x, y, hp, hx, hy => by
  have ih := fwO_closed k (by omega) (fun o ho => hd o (by omega))
  have h0 := hd k (by omega)
  have eq := fwF_eq (c := c) h0 (c + 1)
  show fwF c (fwO c M k) k (c + 1) x y ≤ fwF c (fwO c M k) k (c + 1) x p + fwF c (fwO c M k) k (c + 1) p y
  rw [eq x y, eq x p, eq p y, if_pos (by omega), if_pos (by omega), if_pos (by omega)]
  rcases (show p = k ∨ p < k by omega) with rfl | hpk
  ·omega
  ·have i1 := ih p x y hpk hx hy
   have i2 := ih p x k hpk hx (by omega)
   have i3 := ih p k y hpk (by omega) hy
   have i4 := ih p k k hpk (by omega) (by omega)
   omega
theorem ob_ini {c : Nat} {h : Nat → Int} : ob c (ini c (c + 1) 0) h ↔ ∀ x y, x ≤ c → y ≤ c → h y - h x ≤ 2000 := by
 constructor
 ·intro k x y hx hy
  have := k x y hx hy
  unfold ini at this
  split at this <;> omega
 ·intro k x y hx hy
  unfold ini
  by_cases e : x = y
  ·subst e
   rw [if_neg (by omega)]
   omega
  ·rw [if_pos (by omega)]
   exact k x y hx hy
theorem ob_cel {c : Nat} {lo hi : Int} {h : Nat → Int} : ∀ k, k ≤ c → (ob c (cel c lo hi k) h ↔ ob c (ini c (c + 1) 0) h ∧ ∀ j, j < k → lo ≤ h (j + 1) - h j ∧ h (j + 1) - h j ≤ hi)
 | 0, _ => ⟨fun k => ⟨k, fun j hj => absurd hj (Nat.not_lt_zero _)⟩, fun k => k.1⟩
 | k + 1, hk => by
  have ih := ob_cel (c := c) (lo := lo) (hi := hi) (h := h) k (by omega)
  show ob c (bnd (bnd (cel c lo hi k) k (k + 1) hi) (k + 1) k (-lo)) h ↔ _
  rw [ob_bnd (by omega) (by omega), ob_bnd (by omega) (by omega), ih]
  constructor
  ·rintro ⟨⟨⟨h1, h2⟩, h3⟩, h4⟩
   refine ⟨h1, fun j hj => ?_⟩
   rcases (show j < k ∨ j = k by omega) with h | rfl
   ·exact h2 j h
   ·omega
  ·rintro ⟨h1, h2⟩
   have h3 := h2 k (by omega)
   exact ⟨⟨⟨h1, fun j hj => h2 j (by omega)⟩, by omega⟩, by omega⟩
def rdOk (c : Nat) (n : Nat) (a b u v : Nat → Int) : Prop := ∀ j, j < n → (0 ≤ a j ∧ a j ≤ (c : Int) - 1) ∧ (a j ≤ b j ∧ b j ≤ c) ∧ 0 ≤ u j ∧ u j ≤ v j ∧ v j ≤ 2000
theorem ob_rd {c : Nat} {T lo hi : Int} {a b u v : Nat → Int} {h : Nat → Int} : ∀ n, rdOk c n a b u v → (ob c (rdM c T lo hi a b u v n) h ↔ ob c (cel c lo hi c) h ∧ h c - h 0 = T ∧ ∀ j, j < n → h (b j).toNat - h (a j).toNat ≤ v j ∧ (b j < c → u j + 1 ≤ h (b j + 1).toNat - h (a j).toNat))
 | 0, _ => by
  show ob c (bnd (bnd (cel c lo hi c) 0 c T) c 0 (-T)) h ↔ _
  rw [ob_bnd (by omega) (by omega), ob_bnd (by omega) (by omega)]
  constructor
  ·rintro ⟨⟨h1, h2⟩, h3⟩
   exact ⟨h1, by omega, fun j hj => absurd hj (Nat.not_lt_zero _)⟩
  ·rintro ⟨h1, h2, _⟩
   exact ⟨⟨h1, by omega⟩, by omega⟩
 | n + 1, hr => by
  have ih := ob_rd (c := c) (T := T) (lo := lo) (hi := hi) (a := a) (b := b) (u := u) (v := v) (h := h) n (fun j hj => hr j (by omega))
  have hn := hr n (by omega)
  have key : ob c (rdM c T lo hi a b u v (n + 1)) h ↔ ob c (rdM c T lo hi a b u v n) h ∧ h (b n).toNat - h (a n).toNat ≤ v n ∧ (b n < c → u n + 1 ≤ h (b n + 1).toNat - h (a n).toNat) := by
   show ob c (rdS c (rdM c T lo hi a b u v n) _ _ _ _) h ↔ _
   unfold rdS
   split
   ·rename_i hb
    rw [ob_bnd (by omega) (by omega), ob_bnd (by omega) (by omega)]
    constructor
    ·rintro ⟨⟨h1, h2⟩, h3⟩
     exact ⟨h1, h2, fun _ => by omega⟩
    ·rintro ⟨h1, h2, h3⟩
     have := h3 hb
     exact ⟨⟨h1, h2⟩, by omega⟩
   ·rename_i hb
    rw [ob_bnd (by omega) (by omega)]
    constructor
    ·rintro ⟨h1, h2⟩
     exact ⟨h1, h2, fun h => absurd h hb⟩
    ·rintro ⟨h1, h2, _⟩
     exact ⟨h1, h2⟩
  rw [key, ih]
  constructor
  ·rintro ⟨⟨h1, h2, h3⟩, h4⟩
   refine ⟨h1, h2, fun j hj => ?_⟩
   rcases (show j < n ∨ j = n by omega) with h | rfl
   ·exact h3 j h
   ·exact h4
  ·rintro ⟨h1, h2, h3⟩
   exact ⟨⟨h1, h2, fun j hj => h3 j (by omega)⟩, h3 n (by omega)⟩
theorem step_mono {lo : Int} {h : Nat → Int} {c : Nat} (hl : 0 ≤ lo) (hs : ∀ k, k < c → lo ≤ h (k + 1) - h k) (x : Nat) : ∀ d, x + d ≤ c → h x ≤ h (x + d)
 | 0, _ => Int.le_refl _
 | d + 1, hd => by
  have ih := step_mono hl hs x d (by omega)
  have := hs (x + d) (by omega)
  rw [← Nat.add_assoc]
  omega
theorem tr_ob {c : Nat} {T lo hi : Int} {n : Nat} {a b u v : Nat → Int} {h : Nat → Int} (hb : 1 ≤ lo ∧ lo ≤ hi ∧ hi ≤ 200 ∧ 1 ≤ T ∧ T ≤ 2000) (hr : rdOk c n a b u v) (h0 : h 0 = 0) : Tr c T lo hi n a b u v h ↔ ob c (rdM c T lo hi a b u v n) h := by
 rw [ob_rd n hr, ob_cel c (Nat.le_refl _), ob_ini]
 constructor
 ·rintro ⟨_, h1, h2, h3⟩
  refine ⟨⟨fun x y hx hy => ?_, h2⟩, by omega, h3⟩
  have m := fun x d => step_mono (lo := lo) (h := h) (c := c) (by omega) (fun k hk => (h2 k hk).1) x d
  have m1 := m 0 x (by omega)
  have m2 := m y (c - y) (by omega)
  rw [Nat.zero_add] at m1
  rw [show y + (c - y) = c by omega] at m2
  omega
 ·rintro ⟨⟨_, h2⟩, h3, h4⟩
  exact ⟨h0, by omega, h2, h4⟩
theorem rdOk_of {c : Int} {n : Nat} {a b u v : Nat → Int} (hc : 1 ≤ c ∧ c ≤ 10) (h : allI (fun k => rdB c (a k) (b k) (u k) (v k)) n = true) : rdOk c.toNat n a b u v := fun j hj => by
 have := rdB_v (allI_iff.1 h j hj)
 omega
theorem okR_iff {c : Nat} {T lo hi : Int} {n : Nat} {a b u v : Nat → Int} : okR c T lo hi n a b u v = true ↔ ∀ k, k ≤ c → 0 ≤ fwM c T lo hi n a b u v k k := by
 unfold okR
 rw [allI_iff]
 constructor
 ·intro h k hk
  simpa using h k (by omega)
 ·intro h k hk
  simpa using h k (by omega)
theorem tr_fw {c : Nat} {T lo hi : Int} {n : Nat} {a b u v : Nat → Int} {h : Nat → Int} (hb : 1 ≤ lo ∧ lo ≤ hi ∧ hi ≤ 200 ∧ 1 ≤ T ∧ T ≤ 2000) (hr : rdOk c n a b u v) (h0 : h 0 = 0) : Tr c T lo hi n a b u v h ↔ ob c (fwM c T lo hi n a b u v) h := by
 rw [tr_ob hb hr h0]
 exact ⟨fun k => ob_O k (c + 1) (Nat.le_refl _), fun k => ob_mono (fun x y => fwO_le c _ (c + 1) x y) k⟩
theorem ok_of_tr {c : Nat} {T lo hi : Int} {n : Nat} {a b u v : Nat → Int} {h : Nat → Int} (hb : 1 ≤ lo ∧ lo ≤ hi ∧ hi ≤ 200 ∧ 1 ≤ T ∧ T ≤ 2000) (hr : rdOk c n a b u v) (k : Tr c T lo hi n a b u v h) : okR c T lo hi n a b u v = true := by
 have k1 := (tr_fw hb hr k.1).1 k
 refine okR_iff.2 fun x hx => ?_
 have := k1 x x hx hx
 omega
theorem tr_bd {c : Nat} {T lo hi : Int} {n : Nat} {a b u v : Nat → Int} {h : Nat → Int} (hb : 1 ≤ lo ∧ lo ≤ hi ∧ hi ≤ 200 ∧ 1 ≤ T ∧ T ≤ 2000) (hr : rdOk c n a b u v) (k : Tr c T lo hi n a b u v h) {x : Nat} (hx : x ≤ c) : -(fwM c T lo hi n a b u v x 0) ≤ h x ∧ h x ≤ fwM c T lo hi n a b u v 0 x := by
 have k1 := (tr_fw hb hr k.1).1 k
 have h1 := k1 x 0 hx (by omega)
 have h2 := k1 0 x (by omega) hx
 have := k.1
 omega
theorem fw_closed {c : Nat} {T lo hi : Int} {n : Nat} {a b u v : Nat → Int} (h : okR c T lo hi n a b u v = true) {p x y : Nat} (hp : p ≤ c) (hx : x ≤ c) (hy : y ≤ c) : fwM c T lo hi n a b u v x y ≤ fwM c T lo hi n a b u v x p + fwM c T lo hi n a b u v p y := by
 refine fwO_closed (c + 1) (Nat.le_refl _) (fun o ho => ?_) p x y (by omega) hx hy
 have h1 := okR_iff.1 h o (by omega)
 have h2 := fwO_le2 c (rdM c T lo hi a b u v n) o (c + 1 - o) o o
 rw [show o + (c + 1 - o) = c + 1 by omega] at h2
 exact Int.le_trans h1 h2
theorem rdM_00 {c : Nat} {T lo hi : Int} {a b u v : Nat → Int} (n : Nat) : rdM c T lo hi a b u v n 0 0 ≤ 0 := by
 have h1 := rdM_mono c T lo hi a b u v 0 n (Nat.zero_le _) 0 0
 have h2 : rdM c T lo hi a b u v 0 0 0 ≤ cel c lo hi c 0 0 := Int.le_trans (bnd_le _ _ _ _ _ _) (bnd_le _ _ _ _ _ _)
 have h3 : ∀ k, cel c lo hi k 0 0 ≤ 0 := by
  intro k
  induction k with
  | zero => unfold cel ini; rw [if_neg (by omega)]; exact Int.le_refl _
  | succ k ih => exact Int.le_trans (Int.le_trans (bnd_le _ _ _ _ _ _) (bnd_le _ _ _ _ _ _)) ih
 exact Int.le_trans h1 (Int.le_trans h2 (h3 c))
theorem fw_00 {c : Nat} {T lo hi : Int} {n : Nat} {a b u v : Nat → Int} (h : okR c T lo hi n a b u v = true) : fwM c T lo hi n a b u v 0 0 = 0 := by
 have h1 := okR_iff.1 h 0 (Nat.zero_le _)
 have h2 : fwM c T lo hi n a b u v 0 0 ≤ 0 := Int.le_trans (fwO_le c _ (c + 1) 0 0) (rdM_00 n)
 omega
theorem tr_hi {c : Nat} {T lo hi : Int} {n : Nat} {a b u v : Nat → Int} (hb : 1 ≤ lo ∧ lo ≤ hi ∧ hi ≤ 200 ∧ 1 ≤ T ∧ T ≤ 2000) (hr : rdOk c n a b u v) (h : okR c T lo hi n a b u v = true) : Tr c T lo hi n a b u v (fun k => fwM c T lo hi n a b u v 0 k) := by
 refine (tr_fw hb hr (fw_00 h)).2 fun x y hx hy => ?_
 have := fw_closed h hx (Nat.zero_le _) hy
 show fwM c T lo hi n a b u v 0 y - fwM c T lo hi n a b u v 0 x ≤ _
 omega
theorem tr_lo {c : Nat} {T lo hi : Int} {n : Nat} {a b u v : Nat → Int} (hb : 1 ≤ lo ∧ lo ≤ hi ∧ hi ≤ 200 ∧ 1 ≤ T ∧ T ≤ 2000) (hr : rdOk c n a b u v) (h : okR c T lo hi n a b u v = true) : Tr c T lo hi n a b u v (fun k => -(fwM c T lo hi n a b u v k 0)) := by
 refine (tr_fw hb hr (by rw [fw_00 h]; rfl)).2 fun x y hx hy => ?_
 have := fw_closed h hy hx (Nat.zero_le _)
 show -(fwM c T lo hi n a b u v y 0) - -(fwM c T lo hi n a b u v x 0) ≤ _
 omega
end Go.Proofs.YtlinbkmpkcmniaaGreat.Bo
namespace Go.Proofs.YtlinbkmpkcmniaaGreat.Bo
open Go Go.Sx Go.RowKit
open Go.Sx.Tree (need branch leaf)
open Go.Sx.AV (lst ptr agg roI tup top)
noncomputable def E_lr (n : Nat) (a b u v : Nat → Int) : St := (some { σ := [lst 4 n fun k => [iI (a k), iI (b k), iI (u k), iI (v k)], top, AV.x (Value.slice none 0 0)] ++ tpL 29 [], m := [(900, Res.row 155 4 0 fun x => [])], nx := 901 } : Option St).getD { σ := [], m := [], nx := 0 }
noncomputable def B_lr : Code := loopBody (loopAt (bodyOf Tryz.f50) 0)
noncomputable def inv_lr (n : Nat) (a b u v : Nat → Int) (k : Nat) : St := { σ := ovrS [(3, .row 900), (4, i k)] (E_lr n a b u v).σ, m := [(900, .row 155 4 (k) (fun k => [i (a k), i (b k), i (u k), i (v k)]))], nx := (E_lr n a b u v).nx }
noncomputable def out_lr (n : Nat) (a b u v : Nat → Int) (k : Nat) : AEx → Option St := fun ex => match ex with
 | .exit 0 => some { σ := ovrS [(3, .row 900)] (E_lr n a b u v).σ, m := [(900, .row 155 4 (n) (fun k => [i (a k), i (b k), i (u k), i (v k)]))], nx := (E_lr n a b u v).nx }
 | _ => none
noncomputable def T_lr (n : Nat) (a b u v : Nat → Int) : CT := .leaf (.exit 0, ( out_lr n a b u v 0 (.exit 0)).getD (E_lr n a b u v))
noncomputable def LS_lr (n : Nat) (a b u v : Nat → Int) : LSpec := normSp [(.slot 3, 900, 155, 4)] (sumL (inv_lr n a b u v (0)) (T_lr n a b u v))
theorem lr_ls (n : Nat) (a b u v : Nat → Int) (pre0 : n ≤ 100000) : LSound Tryz.prog (.loop B_lr) (LS_lr n a b u v) := by
 refine loop_roundsN [(.slot 3, 900, 155, 4)] (G := [(90, S_lto)]) (L := []) (SoundG.cons lto_ok (SoundG.nil _)) mixed noLoops (X := Nat) (inv_lr n a b u v) (fun k => k ≤ n) (fun k => n - k) (out_lr n a b u v) (x0 := 0) (by simp) ?_ ?_ ?_
 ·rintro k
  kernel_rfl
 ·rintro k y E h
  unfold out_lr at h
  split at h
  ·cases h; kernel_rfl
  ·cases h
 ·rintro Q hQ k hx
  refine ⟨(k + 1), ?_⟩
  have e : roundN Tryz.prog [(90, S_lto)] [] [(.slot 3, 900, 155, 4)] B_lr (inv_lr n a b u v k) (inv_lr n a b u v ((k + 1))) (out_lr n a b u v k) = (let z0 := (lst 4 n (rq4 a b u v)); (branch (decide ((↑k : Int) < (↑n : Int))) (need [(0 : Int) ≤ (↑k : Int) ∧ (↑k : Int) < (↑n : Int)] (need [(0 : Int) ≤ (↑k : Int) ∧ (↑k : Int) < (↑n : Int)] (need [(0 : Int) ≤ (↑k : Int) ∧ (↑k : Int) < (↑n : Int)] (need [(k + 1) * 32 ≤ 140737488355328, ∀ (i : Nat), i < 1 → ∀ (a_2 : AV), a_2 ∈ chunk 4 [iI (a k), iI (b k), iI (u k), iI (v k)] i → AV.one a_2 = true] (need [inI64 ((↑k : Int) + 1)] (need [z0 = lst 4 n (rq4 a b u v), Eq1 (AV.x (Value.slice none 0 0)), Eq1 (AV.row 900), (↑k : Int) + 1 = (↑(k + 1) : Int), k + 1 = k + 1, ∀ (i : Nat), i < k + 1 → catF k (fun k => [Bo.i (a k), Bo.i (b k), Bo.i (u k), Bo.i (v k)]) (chunk 4 [iI (a k), iI (b k), iI (u k), iI (v k)]) i = [Bo.i (a i), Bo.i (b i), Bo.i (u i), Bo.i (v i)]] (leaf AEx.normal))))))) (need [z0 = lst 4 n (rq4 a b u v), Eq1 (AV.x (Value.slice none 0 0)), Eq1 (AV.row 900), k = n, ∀ (i : Nat), i < n → [Bo.i (a i), Bo.i (b i), Bo.i (u i), Bo.i (v i)] = [Bo.i (a i), Bo.i (b i), Bo.i (u i), Bo.i (v i)]] (leaf (AEx.exit 0))))) := by kernel_rfl
  rw [e]
  simp only [T_lr, out_lr, Tree.sat, Option.getD_some] at hQ
  simp only [Tree.sat, allP, fitP, fitL, valEq, inI64, true_and, and_true, decide_eq_true_eq, decide_eq_false_iff_not, Int.natCast_zero, Int.toNat_natCast, List.length_cons, List.length_nil, updL_one, out_lr]
  clear e
  
  refine ⟨fun h => ?_, fun h => ?_⟩
  ·(repeat' first | with_reducible apply And.intro | with_reducible intro _)
   all_goals first | exact True.intro | omega | with_reducible rfl | exact one_of (by assumption) (by simp [AV.one, Value.oneCell']) | exact catF4 (by assumption) rfl rfl rfl rfl | exact catF2 (by assumption) rfl rfl | (rename_i E hE; cases hE; exact hQ) | rfl | assumption
  ·obtain rfl : k = n := by omega
   (repeat' first | with_reducible apply And.intro | with_reducible intro _)
   all_goals first | exact True.intro | omega | with_reducible rfl | exact one_of (by assumption) (by simp [AV.one, Value.oneCell']) | exact catF4 (by assumption) rfl rfl rfl rfl | exact catF2 (by assumption) rfl rfl | (rename_i E hE; cases hE; exact hQ) | rfl | assumption
theorem lReadings_at (n : Nat) (a b u v : Nat → Int) (pre0 : n ≤ 100000) : SoundAt Tryz.prog 50 [rds n a b u v] (rds n a b u v) := by
 refine soundAt_fin (G := [(90, S_lto)]) (L := [LS_lr n a b u v]) (SoundG.cons lto_ok (SoundG.nil _)) mixed Tryz.func50 (show Tryz.f50.body = some (bodyOf Tryz.f50) by kernel_rfl) (one_loop (lpE (b := .loop B_lr) (by kernel_rfl) <| lr_ls n a b u v pre0)) (t := (need [(lst 4 n (rq4 a b u v)) = lst 4 n (rq4 a b u v), AV.x (Value.slice none 0 0) = AV.x (Value.slice none 0 0), AV.row 900 = AV.row 900, (0 : Int) = (↑(0 : Nat) : Int), 0 = 0, ∀ (i : Nat), i < 0 → [] = [Bo.i (a i), Bo.i (b i), Bo.i (u i), Bo.i (v i)]] (leaf (RV.lst 4 n (rq4 a b u v))))) (by kernel_rfl) ?_
 simp only [Tree.sat, allP, fitP, fitL, valEq, inI64, true_and, and_true]
 (repeat' first | with_reducible apply And.intro | with_reducible intro _)
 all_goals first | exact True.intro | with_reducible rfl | omega | rfl | (simp [*]; done) | (rename_i hm; simp only [List.mem_cons, List.not_mem_nil, or_false] at hm; rcases hm with rfl | rfl | rfl | rfl <;> exact True.intro) | (rename_i hm; cases List.mem_singleton.1 hm; exact True.intro)
def S_lReadings : Sx.Spec := fun l => match l with
 | [.lst 4 n f] => some ([isRec 4 n f, n ≤ 100000], rds n (col 0 f) (col 1 f) (col 2 f) (col 3 f))
 | [.x (.slice none 0 0)] => some ([], rds 0 (fun _ => 0) (fun _ => 0) (fun _ => 0) (fun _ => 0))
 | _ => none
theorem lReadings_ok : SoundSpec Tryz.prog 50 S_lReadings := by
 refine ⟨⟨_, Tryz.func50, by kernel_rfl, by kernel_rfl⟩, ?_⟩
 intro avs ns res h hn
 unfold S_lReadings at h
 split at h
 ·rename_i n f
  cases h
  have hr0 : isRec 4 n f := hn _ (by simp)
  exact (lReadings_at n (col 0 f) (col 1 f) (col 2 f) (col 3 f) (hn _ (by simp))).same (.cons (.lst 4 n _ _ hr0) .nil)
 ·cases h
  exact (lReadings_at 0 (fun _ => 0) (fun _ => 0) (fun _ => 0) (fun _ => 0) (Nat.zero_le _)).same (.cons (.nil 4 _) .nil)
 ·cases h
def sumF (f : Nat → Int) : Nat → Int
 | 0 => 0
 | k + 1 => sumF f k + f k
theorem sumF_bd {f : Nat → Int} {n : Nat} {N : Int} (hN : 0 ≤ N) (h : ∀ k, k < n → -N ≤ f k ∧ f k ≤ N) : ∀ k, k ≤ n → -(k * N) ≤ sumF f k ∧ sumF f k ≤ k * N
 | 0, _ => by simp [sumF]
 | k + 1, hk => by
  have ih := sumF_bd hN h k (by omega)
  have := h k (by omega)
  have e : (((k + 1 : Nat) : Int)) * N = k * N + N := by rw [Int.natCast_add, Int.add_mul]; simp
  rw [e]
  unfold sumF
  omega
end Go.Proofs.YtlinbkmpkcmniaaGreat.Bo
namespace Go.Proofs.YtlinbkmpkcmniaaGreat.Bo
open Go Go.Sx Go.RowKit
open Go.Sx.Tree (need branch leaf)
open Go.Sx.AV (lst ptr agg roI tup top)
end Go.Proofs.YtlinbkmpkcmniaaGreat.Bo
namespace Go.Proofs.YtlinbkmpkcmniaaGreat.Bo
open Go Go.Sx Go.RowKit
open Go.Sx.Tree (need branch leaf)
open Go.Sx.AV (lst ptr agg roI tup top)
noncomputable def E_fa (c T lo hi : Int) (n : Nat) (a b u v : Nat → Int) : St := (some { σ := [agg [iI c, iI T, iI lo, iI hi], lst 4 n fun k => [iI (a k), iI (b k), iI (u k), iI (v k)], ptr 0 0] ++ tpL 43 [], m := [(0, Res.cells 25 [iI c, iI T, iI lo, iI hi])], nx := 9 } : Option St).getD { σ := [], m := [], nx := 0 }
noncomputable def B_fa : Code := loopBody (loopAt (bodyOf Tryz.f83) 0)
noncomputable def inv_fa (c T lo hi : Int) (n : Nat) (a b u v : Nat → Int) (k : Nat) : St := { σ := ovrS [(5, i k)] (E_fa c T lo hi n a b u v).σ, m := (E_fa c T lo hi n a b u v).m, nx := (E_fa c T lo hi n a b u v).nx }
noncomputable def out_fa (c T lo hi : Int) (n : Nat) (a b u v : Nat → Int) (k : Nat) : AEx → Option St := fun ex => match ex with
 | .exit 0 => some { σ := ovrS [] (E_fa c T lo hi n a b u v).σ, m := (E_fa c T lo hi n a b u v).m, nx := (E_fa c T lo hi n a b u v).nx }
 | .ret => some { σ := ovrS [(4, i 2)] (E_fa c T lo hi n a b u v).σ, m := (E_fa c T lo hi n a b u v).m, nx := (E_fa c T lo hi n a b u v).nx }
 | _ => none
noncomputable def T_fa (c T lo hi : Int) (n : Nat) (a b u v : Nat → Int) : CT := .branch (allI ((fun k => rdB c (a k) (b k) (u k) (v k))) n) (.leaf (.exit 0, ( out_fa c T lo hi n a b u v 0 (.exit 0)).getD (E_fa c T lo hi n a b u v))) (.leaf (.ret, ( out_fa c T lo hi n a b u v 0 .ret).getD (E_fa c T lo hi n a b u v)))
noncomputable def LS_fa (c T lo hi : Int) (n : Nat) (a b u v : Nat → Int) : LSpec := (sumL (inv_fa c T lo hi n a b u v (0)) (T_fa c T lo hi n a b u v))
theorem fa_ls (c T lo hi : Int) (n : Nat) (a b u v : Nat → Int) (pre0 : n ≤ 100000) (pre1 : 1 ≤ c ∧ c ≤ 10) : LSound Tryz.prog (.loop B_fa) (LS_fa c T lo hi n a b u v) := by
 refine loop_rounds (G := [(91, S_rIn), (119, S_rSpan), (118, S_rIsTube)]) (L := []) (SoundG.cons rIn_ok (SoundG.cons rSpan_ok (SoundG.cons rIsTube_ok (SoundG.nil _)))) mixed noLoops (X := Nat) (inv_fa c T lo hi n a b u v) (fun k => k ≤ n ∧ ∀ j, j < k → ((fun k => rdB c (a k) (b k) (u k) (v k))) j = true) (fun k => n - k) (out_fa c T lo hi n a b u v) (x0 := 0) ⟨by omega, fun j hj => by omega⟩ ?_ ?_ ?_
 ·rintro k
  kernel_rfl
 ·rintro k y E h
  unfold out_fa at h
  split at h
  ·cases h; kernel_rfl
  ·cases h; kernel_rfl
  ·cases h
 ·rintro Q hQ k hx
  refine ⟨(k + 1), ?_⟩
  have e : roundT Tryz.prog [(91, S_rIn), (119, S_rSpan), (118, S_rIsTube)] [] B_fa (inv_fa c T lo hi n a b u v k) (inv_fa c T lo hi n a b u v ((k + 1))) (out_fa c T lo hi n a b u v k) = (let z2 := (agg [iI c, iI T, iI lo, iI hi]); let z1 := (lst 4 n (rq4 a b u v)); let z0 := (need [Eq1 z2, z1 = lst 4 n (rq4 a b u v), Eq1 (ptr 0 0), Eq1 (2 : Int), c = c, T = T, lo = lo, hi = hi] (leaf AEx.ret)); (branch (decide ((↑k : Int) < (↑n : Int))) (need [(0 : Int) ≤ (↑k : Int) ∧ (↑k : Int) < (↑n : Int)] (need [inI64 (c - (1 : Int))] (branch (!bt (0 : Int) (a k) (c - (1 : Int))) z0 (branch (!bt (a k) (b k) c) z0 (branch (!insB (0 : Int) (u k) (v k) (2000 : Int)) z0 (need [inI64 ((↑k : Int) + 1)] (need [Eq1 z2, z1 = lst 4 n (rq4 a b u v), Eq1 (ptr 0 0), (↑k : Int) + 1 = (↑(k + 1) : Int), c = c, T = T, lo = lo, hi = hi] (leaf AEx.normal)))))))) (need [Eq1 z2, z1 = lst 4 n (rq4 a b u v), Eq1 (ptr 0 0), c = c, T = T, lo = lo, hi = hi] (leaf (AEx.exit 0))))) := by kernel_rfl
  rw [e]
  simp only [T_fa, out_fa, Tree.sat, Option.getD_some] at hQ
  have hbad : k < n → ((fun k => rdB c (a k) (b k) (u k) (v k))) k = false → allI ((fun k => rdB c (a k) (b k) (u k) (v k))) n = false := by
   intro h1 h2
   rw [← Bool.not_eq_true]
   intro h3
   have := allI_iff.1 h3 k h1
   exact Bool.noConfusion (h2.symm.trans this)
  have hgood : ((fun k => rdB c (a k) (b k) (u k) (v k))) k = true → ∀ j, j < k + 1 → ((fun k => rdB c (a k) (b k) (u k) (v k))) j = true := by
   intro h1 j hj
   rcases (show j < k ∨ j = k by omega) with h | rfl
   ·exact hx.2 j h
   ·exact h1
  have hend : ¬ k < n → allI ((fun k => rdB c (a k) (b k) (u k) (v k))) n = true := fun h => allI_iff.2 (fun j hj => hx.2 j (by omega))
  have hQ1 : ∀ E, out_fa c T lo hi n a b u v k .ret = some E → allI ((fun k => rdB c (a k) (b k) (u k) (v k))) n = false → Q (.ret, E) := by
   intro E hE hf
   cases hE
   exact hQ.2 hf
  have hQ2 : ∀ E, out_fa c T lo hi n a b u v k (.exit 0) = some E → allI ((fun k => rdB c (a k) (b k) (u k) (v k))) n = true → Q (.exit 0, E) := by
   intro E hE hf
   cases hE
   exact hQ.1 hf
  simp only [Tree.sat, allP, true_and, and_true, decide_eq_true_eq, decide_eq_false_iff_not, inI64, Int.toNat_natCast]
  
  clear e
  repeat' first | with_reducible apply And.intro | with_reducible intro _
  all_goals first | exact True.intro | omega | exact hQ1 _ (by assumption) (hbad (by omega) (by simp_all [rdB])) | exact hQ2 _ (by assumption) (hend (by omega)) | exact hgood (by simp_all [rdB]) _ (by assumption)
theorem rFault_at (c T lo hi : Int) (n : Nat) (a b u v : Nat → Int) : SoundAt Tryz.prog 83 [.agg [i c, i T, i lo, i hi], rds n a b u v] (i (flt c T lo hi n a b u v)) := by
 refine soundAt_fin (G := [(91, S_rIn), (119, S_rSpan), (118, S_rIsTube)]) (L := [needSp [n ≤ 100000, 1 ≤ c ∧ c ≤ 10] (LS_fa c T lo hi n a b u v)]) (SoundG.cons rIn_ok (SoundG.cons rSpan_ok (SoundG.cons rIsTube_ok (SoundG.nil _)))) mixed Tryz.func83 (show Tryz.f83.body = some (bodyOf Tryz.f83) by kernel_rfl) (one_loop (lpE (b := .loop B_fa) (by kernel_rfl) <| needSp_sound (fun h => fa_ls c T lo hi n a b u v h.1 h.2))) (t := (branch (!tubeB c T lo hi) (leaf (RV.x (Value.int IntKind.i64 (1 : Int)))) (branch (decide ((↑n : Int) > (12 : Int))) (leaf (RV.x (Value.int IntKind.i64 (3 : Int)))) (need [n ≤ 100000, (1 : Int) ≤ c ∧ c ≤ (10 : Int)] (need [Eq1 (agg [iI c, iI T, iI lo, iI hi]), (lst 4 n (rq4 a b u v)) = lst 4 n (rq4 a b u v), Eq1 (ptr 0 0), (0 : Int) = (↑(0 : Nat) : Int), c = c, T = T, lo = lo, hi = hi] (branch (allI (fun k => rdB c (a k) (b k) (u k) (v k)) n) (leaf (RV.x (Value.int IntKind.i64 (0 : Int)))) (leaf (RV.x (Value.int IntKind.i64 (2 : Int)))))))))) (by kernel_rfl) ?_
 simp only [Tree.sat, allP, fitP, fitL, valEq, inI64, true_and, and_true, Bool.not_eq_true', Bool.not_eq_false', decide_eq_true_eq, decide_eq_false_iff_not]
 unfold flt allR
 refine ⟨fun h1 => ?_, fun h1 => ⟨fun h2 => ?_, fun h2 => ⟨?_, rfl, fun h3 => ?_, fun h3 => ?_⟩⟩⟩
 ·rw [h1]; rfl
 ·rw [h1]; simp; omega
 ·have hb := tube_bd h1
  omega
 ·rw [h1, h3]; simp; omega
 ·rw [h1, h3]; simp; omega
def S_rFault : Sx.Spec := fun l => match l with
 | [.agg [.x (.int .i64 c), .x (.int .i64 T), .x (.int .i64 lo), .x (.int .i64 hi)], .lst 4 n f] => some ([isRec 4 n f], i (flt c T lo hi n (col 0 f) (col 1 f) (col 2 f) (col 3 f)))
 | _ => none
theorem rFault_ok : SoundSpec Tryz.prog 83 S_rFault := by
 refine ⟨⟨_, Tryz.func83, by kernel_rfl, by kernel_rfl⟩, ?_⟩
 intro avs ns res h hn
 unfold S_rFault at h
 split at h
 ·rename_i c T lo hi n f
  cases h
  have hr0 : isRec 4 n f := hn _ (by simp)
  exact (rFault_at c T lo hi n (col 0 f) (col 1 f) (col 2 f) (col 3 f)).same (.cons (.refl _) (.cons (.lst 4 n _ _ hr0) .nil))
 ·cases h
noncomputable def E_he (n : Nat) (f : Nat → Int) (k : Int) : St := (some { σ := [lst 1 n fun k => [iI (f k)], iI k, top, top, iI (0 : Int)] ++ tpL 14 [], m := [], nx := 3 } : Option St).getD { σ := [], m := [], nx := 0 }
noncomputable def B_he : Code := loopBody (loopAt (bodyOf Tryz.f33) 0)
noncomputable def inv_he (n : Nat) (f : Nat → Int) (k : Int) (j : Nat) : St := { σ := ovrS [(6, i j), (5, i (sumF f j))] (E_he n f k).σ, m := (E_he n f k).m, nx := (E_he n f k).nx }
noncomputable def out_he (n : Nat) (f : Nat → Int) (k : Int) (j : Nat) : AEx → Option St := fun ex => match ex with
 | .exit 0 => some { σ := ovrS [(6, i k.toNat), (5, i (sumF f k.toNat))] (E_he n f k).σ, m := (E_he n f k).m, nx := (E_he n f k).nx }
 | _ => none
noncomputable def T_he (n : Nat) (f : Nat → Int) (k : Int) : CT := .leaf (.exit 0, ( out_he n f k 0 (.exit 0)).getD (E_he n f k))
noncomputable def LS_he (n : Nat) (f : Nat → Int) (k : Int) : LSpec := normSp [] (sumL (inv_he n f k (0)) (T_he n f k))
theorem he_ls (n : Nat) (f : Nat → Int) (k : Int) (pre0 : k ≤ n) (pre1 : n ≤ 100) (pre2 : ∀ k, k < n → -1000000 ≤ f k ∧ f k ≤ 1000000) : LSound Tryz.prog (.loop B_he) (LS_he n f k) := by
 refine loop_roundsX [] (E := {}) (G := []) (L := []) (SoundG.nil _) (SoundX.of (SoundRL.nil _) (SoundHL.nil _)) mixed noLoops (X := Nat) (inv_he n f k) (fun j => j ≤ k.toNat) (fun j => k.toNat - j) (out_he n f k) (x0 := 0) (by simp) ?_ ?_ ?_
 ·rintro j
  kernel_rfl
 ·rintro j y E h
  unfold out_he at h
  split at h
  ·cases h; kernel_rfl
  ·cases h
 ·rintro Q hQ j hx
  refine ⟨(j + 1), ?_⟩
  have e : roundX Tryz.prog [] {} [] [] B_he (inv_he n f k j) (inv_he n f k ((j + 1))) (out_he n f k j) = (branch (decide ((↑j : Int) < k)) (need [(0 : Int) ≤ (↑j : Int) ∧ (↑j : Int) < (↑n : Int)] (need [inI64 (sumF f j + f j)] (need [inI64 ((↑j : Int) + 1)] (need [(lst 1 n fun k => [iI (f k)]) = lst 1 n fun k => [iI (f k)], k = k, Eq1 (0 : Int), sumF f j + f j = sumF f (j + 1), (↑j : Int) + 1 = (↑(j + 1) : Int)] (leaf AEx.normal))))) (need [(lst 1 n fun k => [iI (f k)]) = lst 1 n fun k => [iI (f k)], k = k, Eq1 (0 : Int), sumF f j = sumF f (Int.toNat k), (↑j : Int) = (↑(Int.toNat k) : Int)] (leaf (AEx.exit 0)))) := by kernel_rfl
  rw [e]
  simp only [T_he, out_he, Tree.sat, Option.getD_some] at hQ
  simp only [Tree.sat, allP, fitP, fitL, valEq, inI64, true_and, and_true, decide_eq_true_eq, decide_eq_false_iff_not, Int.natCast_zero, Int.toNat_natCast, List.length_cons, List.length_nil, updL_one, out_he]
  clear e
  have hf := pre2 j
  have hs := sumF_bd (f := f) (n := n) (N := 1000000) (by omega) pre2 j (by omega)
  have hs2 := sumF_bd (f := f) (n := n) (N := 1000000) (by omega) pre2 (j + 1)
  have he : sumF f (j + 1) = sumF f j + f j := rfl
  refine ⟨fun h => ?_, fun h => ?_⟩
  ·(repeat' first | with_reducible apply And.intro | with_reducible intro _)
   all_goals first | exact True.intro | omega | with_reducible rfl | exact one_of (by assumption) (by simp [AV.one, Value.oneCell']) | exact catF4 (by assumption) rfl rfl rfl rfl | exact catF2 (by assumption) rfl rfl | (rename_i E hE; cases hE; exact hQ) | rfl | assumption
  ·obtain rfl : j = k.toNat := by omega
   (repeat' first | with_reducible apply And.intro | with_reducible intro _)
   all_goals first | exact True.intro | omega | with_reducible rfl | exact one_of (by assumption) (by simp [AV.one, Value.oneCell']) | exact catF4 (by assumption) rfl rfl rfl rfl | exact catF2 (by assumption) rfl rfl | (rename_i E hE; cases hE; exact hQ) | rfl | assumption
theorem rHeight_at (n : Nat) (f : Nat → Int) (k : Int) (pre0 : k ≤ n) (pre1 : n ≤ 100) (pre2 : ∀ k, k < n → -1000000 ≤ f k ∧ f k ≤ 1000000) : SoundAt Tryz.prog 33 [.lst 1 n (fun k => [i (f k)]), i k] (i (sumF f k.toNat)) := by
 refine soundAt_fin (G := []) (L := [LS_he n f k]) (SoundG.nil _) mixed Tryz.func33 (show Tryz.f33.body = some (bodyOf Tryz.f33) by kernel_rfl) (one_loop (lpE (b := .loop B_he) (by kernel_rfl) <| he_ls n f k pre0 pre1 pre2)) (t := (need [(lst 1 n fun k => [iI (f k)]) = lst 1 n fun k => [iI (f k)], k = k, (0 : Int) = 0, (0 : Int) = sumF f 0, (0 : Int) = (↑(0 : Nat) : Int)] (leaf (RV.x (Value.int IntKind.i64 (sumF f (Int.toNat k))))))) (by kernel_rfl) ?_
 simp only [Tree.sat, allP, fitP, fitL, valEq, inI64, true_and, and_true]
 (repeat' first | with_reducible apply And.intro | with_reducible intro _)
 all_goals first | exact True.intro | omega | with_reducible rfl | rfl
def S_rHeight : Sx.Spec := fun l => match l with
 | [.lst 1 n f, .x (.int .i64 k)] => some ([isRec 1 n f, k ≤ n, n ≤ 100, ∀ k, k < n → -1000000 ≤ col 0 f k ∧ col 0 f k ≤ 1000000], i (sumF (col 0 f) k.toNat))
 | _ => none
theorem rHeight_ok : SoundSpec Tryz.prog 33 S_rHeight := by
 refine ⟨⟨_, Tryz.func33, by kernel_rfl, by kernel_rfl⟩, ?_⟩
 intro avs ns res h hn
 unfold S_rHeight at h
 split at h
 ·rename_i n f k
  cases h
  have hr0 : isRec 1 n f := hn _ (by simp)
  exact (rHeight_at n (col 0 f) k (hn _ (by simp)) (hn _ (by simp)) (hn _ (by simp))).same (.cons (.lst 1 n _ _ hr0) (.cons (.refl _) .nil))
 ·cases h
end Go.Proofs.YtlinbkmpkcmniaaGreat.Bo
namespace Go.Proofs.YtlinbkmpkcmniaaGreat.Bo
open Go Go.Sx Go.RowKit
open Go.Sx.Tree (need branch leaf)
open Go.Sx.AV (lst ptr agg roI tup top)
theorem catF1 {k j : Nat} {a : Nat → Int} {x : Int} (h : j < k + 1) (hx : x = a k) : catF k (fun k => [i (a k)]) (chunk 1 [i x]) j = [i (a j)] := by
 have e : j - k = 0 := by omega
 show mergeL (decide (j < k)) [i (a j)] (chunk 1 [i x] (j - k)) = _
 rw [e]
 by_cases hj : j < k
 ·rw [show decide (j < k) = true by simp [hj]]
  rfl
 ·have hk : j = k := by omega
  rw [show decide (j < k) = false by simp [hj], hk, hx]
  rfl
end Go.Proofs.YtlinbkmpkcmniaaGreat.Bo
namespace Go.Proofs.YtlinbkmpkcmniaaGreat.Bo
open Go Go.Sx Go.RowKit
open Go.Sx.Tree (need branch leaf)
open Go.Sx.AV (lst ptr agg roI tup top)
abbrev wds (n : Nat) (w : Nat → Int) : AV := .lst 1 n (fun k => [.x (.int .u16 (w k))])
def wAt (l : List AV) : Int := match l with
 | [.x (.int _ n)] => n
 | _ => 0
def isW (n : Nat) (f : Nat → List AV) : Prop := ∀ k, k < n → f k = [.x (.int .u16 (wAt (f k)))]
def wOk (n : Nat) (w : Nat → Int) : Prop := ∀ k, k < n → 0 ≤ w k ∧ w k ≤ 65535
def wdF (n : Nat) (w : Nat → Int) (k : Nat) : Int := if n = 0 then 0 else w (k % n)
def volF (lo hi r left x : Int) : Int := max lo (left - r * hi) + x.tmod (min hi (left - r * lo) - max lo (left - r * hi) + 1)
def trL (c T lo hi : Int) (n : Nat) (w : Nat → Int) : Nat → Int
 | 0 => T
 | k + 1 => trL c T lo hi n w k - volF lo hi (c - 1 - k) (trL c T lo hi n w k) (wdF n w k)
def trV (c T lo hi : Int) (n : Nat) (w : Nat → Int) (k : Nat) : Int := volF lo hi (c - 1 - k) (trL c T lo hi n w k) (wdF n w k)
def seA (c : Int) (w : Int) : Int := w.tmod c
def seT (c T : Int) (f : Nat → Int) (w : Int) : Int := (((w.tdiv 16).tmod 256) * (T - sumF f (seA c w).toNat + 5)).tdiv 256
def seI (c T : Int) (f : Nat → Int) (w : Int) : Nat := fstI (fun j => !decide (sumF f ((seA c w).toNat + j + 1) - sumF f (seA c w).toNat ≤ seT c T f w)) (c - seA c w).toNat
def seB (c T : Int) (f : Nat → Int) (w : Int) : Int := seA c w + seI c T f w
def seU (c T : Int) (f : Nat → Int) (w : Int) : Int := max 0 (seT c T f w - (w.tdiv 4096).tmod 4)
def seV (c T : Int) (f : Nat → Int) (w : Int) : Int := min 2000 (seT c T f w + (w.tdiv 8192).tmod 3)
theorem word_at (n : Nat) (w : Nat → Int) (k : Nat) (pre0 : n ≤ 10000000000000000000) (pre1 : k ≤ 1000) (pre2 : wOk n w) : SoundAt Tryz.prog 108 [wds n w, i k] (i (wdF n w k)) := by
 refine soundAt_fin (G := []) (L := []) (SoundG.nil _) mixed Tryz.func108 (show Tryz.f108.body = some (bodyOf Tryz.f108) by kernel_rfl) noLoops (t := (branch ((↑n : Int) == (0 : Int)) (leaf (RV.x (Value.int IntKind.i64 (0 : Int)))) (need [(↑n : Int) ≠ (0 : Int)] (need [(0 : Int) ≤ Int.tmod (↑k : Int) (↑n : Int) ∧ Int.tmod (↑k : Int) (↑n : Int) < (↑n : Int)] (need [inI64 (w (Int.toNat (Int.tmod (↑k : Int) (↑n : Int))))] (leaf (RV.x (Value.int IntKind.i64 (w (Int.toNat (Int.tmod (↑k : Int) (↑n : Int)))))))))))) (by kernel_rfl) ?_
 have e : ((k : Int).tmod (n : Int)) = ((k % n : Nat) : Int) := (Int.ofNat_tmod k n).symm
 simp only [Tree.sat, allP, fitP, fitL, valEq, inI64, true_and, and_true, beq_iff_eq, beq_eq_false_iff_ne, ne_eq, e, Int.toNat_natCast, wdF]
 refine ⟨fun h => ?_, fun h => ⟨h, ?_⟩⟩
 ·rw [if_pos (by omega)]
 ·have hn : 0 < n := by omega
  have h1 := Nat.mod_lt k hn
  have h2 := pre2 (k % n) h1
  rw [if_neg (by omega)]
  exact ⟨by omega, by omega, rfl⟩
theorem isWn (n : Nat) (w : Nat → Int) : isW n (fun k => [.x (.int .u16 (w k))]) := fun _ _ => rfl
theorem wc (w : Nat → Int) : (fun k => wAt [AV.x (.int .u16 (w k))]) = w := rfl
def S_word : Sx.Spec := fun l => match l with
 | [.lst 1 n f, .x (.int .i64 k)] => some ([isW n f, n ≤ 10000000000000000000, 0 ≤ k ∧ k ≤ 1000, wOk n (fun j => wAt (f j))], i (wdF n (fun j => wAt (f j)) k.toNat))
 | _ => none
theorem word_ok : SoundSpec Tryz.prog 108 S_word := by
 refine ⟨⟨_, Tryz.func108, by kernel_rfl, by kernel_rfl⟩, ?_⟩
 intro avs ns res h hn
 unfold S_word at h
 split at h
 ·rename_i n f k
  cases h
  have hr : isW n f := hn _ (by simp)
  have hk : 0 ≤ k ∧ k ≤ 1000 := hn _ (by simp)
  have e : ((k.toNat : Nat) : Int) = k := by omega
  have h0 := word_at n (fun j => wAt (f j)) k.toNat (hn _ (by simp)) (by omega) (hn _ (by simp))
  rw [e] at h0
  exact h0.same (.cons (.lst 1 n _ _ hr) (.cons (.refl _) .nil))
 ·cases h
theorem tmod_bd {x d : Int} (hx : 0 ≤ x) (hd : 0 < d) : 0 ≤ x.tmod d ∧ x.tmod d < d := ⟨Int.tmod_nonneg _ hx, Int.tmod_lt_of_pos _ hd⟩
theorem tdiv_bd {x d : Int} (hx : 0 ≤ x) (hd : 0 < d) : 0 ≤ x.tdiv d ∧ x.tdiv d ≤ x := by
 refine ⟨Int.tdiv_nonneg hx (by omega), ?_⟩
 rw [Int.tdiv_eq_ediv_of_nonneg hx]
 exact Int.ediv_le_self _ hx
theorem wd_bd {n : Nat} {w : Nat → Int} (h : wOk n w) (k : Nat) : 0 ≤ wdF n w k ∧ wdF n w k ≤ 65535 := by
 unfold wdF
 split
 ·omega
 ·exact h _ (Nat.mod_lt k (by omega))
theorem vol_bd {lo hi r left x : Int} (hl : 1 ≤ lo ∧ lo ≤ hi) (hr : 0 ≤ r) (h : (r + 1) * lo ≤ left ∧ left ≤ (r + 1) * hi) (hx : 0 ≤ x) : lo ≤ volF lo hi r left x ∧ volF lo hi r left x ≤ hi ∧ r * lo ≤ left - volF lo hi r left x ∧ left - volF lo hi r left x ≤ r * hi ∧ 1 ≤ min hi (left - r * lo) - max lo (left - r * hi) + 1 := by
 rw [Int.add_mul, Int.add_mul, Int.one_mul, Int.one_mul] at h
 have hm : r * lo ≤ r * hi := Int.mul_le_mul_of_nonneg_left hl.2 hr
 have hd : 0 < min hi (left - r * lo) - max lo (left - r * hi) + 1 := by omega
 have ht := tmod_bd hx hd
 unfold volF
 omega
theorem trL_bd {c T lo hi : Int} {n : Nat} {w : Nat → Int} (hl : 1 ≤ lo ∧ lo ≤ hi) (ht : c * lo ≤ T ∧ T ≤ c * hi) (hw : wOk n w) : ∀ k : Nat, (k : Int) ≤ c → (c - k) * lo ≤ trL c T lo hi n w k ∧ trL c T lo hi n w k ≤ (c - k) * hi
 | 0, _ => by
  have e : c - ((0 : Nat) : Int) = c := by omega
  rw [e]
  exact ht
 | k + 1, hk => by
  have ih := trL_bd (n := n) hl ht hw k (by omega)
  have hwd := wd_bd hw k
  have hv := vol_bd (r := c - 1 - k) (left := trL c T lo hi n w k) (x := wdF n w k) hl (by omega) (by rw [show c - 1 - (k : Int) + 1 = c - k by omega]; exact ih) hwd.1
  have e : c - ((k + 1 : Nat) : Int) = c - 1 - k := by omega
  rw [e]
  unfold trL
  omega
theorem trV_bd {c T lo hi : Int} {n : Nat} {w : Nat → Int} (hl : 1 ≤ lo ∧ lo ≤ hi) (ht : c * lo ≤ T ∧ T ≤ c * hi) (hw : wOk n w) (k : Nat) (hk : (k : Int) < c) : lo ≤ trV c T lo hi n w k ∧ trV c T lo hi n w k ≤ hi ∧ 1 ≤ min hi (trL c T lo hi n w k - (c - 1 - k) * lo) - max lo (trL c T lo hi n w k - (c - 1 - k) * hi) + 1 := by
 have ih := trL_bd (n := n) hl ht hw k (by omega)
 have hv := vol_bd (r := c - 1 - k) (left := trL c T lo hi n w k) (x := wdF n w k) hl (by omega) (by rw [show c - 1 - (k : Int) + 1 = c - k by omega]; exact ih) (wd_bd hw k).1
 exact ⟨hv.1, hv.2.1, hv.2.2.2.2⟩
noncomputable def E_tr (c T lo hi : Int) (n : Nat) (w : Nat → Int) : St := (some { σ := [agg [iI c, iI T, iI lo, iI hi], lst 1 n fun k => [AV.x (Value.int IntKind.u16 (w k))], ptr 0 0, top, AV.x (Value.slice none 0 0)] ++ tpL 60 [], m := [(900, Res.row 3 1 0 fun x => []), (0, Res.cells 25 [iI c, iI T, iI lo, iI hi])], nx := 901 } : Option St).getD { σ := [], m := [], nx := 0 }
noncomputable def B_tr : Code := loopBody (loopAt (bodyOf Tryz.f76) 0)
noncomputable def inv_tr (c T lo hi : Int) (n : Nat) (w : Nat → Int) (k : Nat) : St := { σ := ovrS [(5, .row 900), (6, i (trL c T lo hi n w k)), (7, i k)] (E_tr c T lo hi n w).σ, m := [(900, .row 3 1 (k) (fun k => [i (trV c T lo hi n w k)])), (0, .cells 25 [i c, i T, i lo, i hi])], nx := (E_tr c T lo hi n w).nx }
noncomputable def out_tr (c T lo hi : Int) (n : Nat) (w : Nat → Int) (k : Nat) : AEx → Option St := fun ex => match ex with
 | .exit 0 => some { σ := ovrS [(5, .row 900)] (E_tr c T lo hi n w).σ, m := [(900, .row 3 1 (c.toNat) (fun k => [i (trV c T lo hi n w k)])), (0, .cells 25 [i c, i T, i lo, i hi])], nx := (E_tr c T lo hi n w).nx }
 | _ => none
noncomputable def T_tr (c T lo hi : Int) (n : Nat) (w : Nat → Int) : CT := .leaf (.exit 0, ( out_tr c T lo hi n w 0 (.exit 0)).getD (E_tr c T lo hi n w))
noncomputable def LS_tr (c T lo hi : Int) (n : Nat) (w : Nat → Int) : LSpec := normSp [(.slot 5, 900, 3, 1)] (sumL (inv_tr c T lo hi n w (0)) (T_tr c T lo hi n w))
theorem tr_ls (c T lo hi : Int) (n : Nat) (w : Nat → Int) (pre0 : tubeB c T lo hi = true) (pre1 : n ≤ 10000000000000000000) (pre2 : wOk n w) : LSound Tryz.prog (.loop B_tr) (LS_tr c T lo hi n w) := by
 refine loop_roundsN [(.slot 5, 900, 3, 1)] (G := [(108, S_word)]) (L := []) (SoundG.cons word_ok (SoundG.nil _)) mixed noLoops (X := Nat) (inv_tr c T lo hi n w) (fun k => k ≤ c.toNat) (fun k => c.toNat - k) (out_tr c T lo hi n w) (x0 := 0) (by simp) ?_ ?_ ?_
 ·rintro k
  kernel_rfl
 ·rintro k y E h
  unfold out_tr at h
  split at h
  ·cases h; kernel_rfl
  ·cases h
 ·rintro Q hQ k hx
  refine ⟨(k + 1), ?_⟩
  have e : roundN Tryz.prog [(108, S_word)] [] [(.slot 5, 900, 3, 1)] B_tr (inv_tr c T lo hi n w k) (inv_tr c T lo hi n w ((k + 1))) (out_tr c T lo hi n w k) = (let z0 := trL c T lo hi n w k; let z1 := (wdF n (fun j => wAt [AV.x (Value.int IntKind.u16 (w j))]) k); let z2 := (lst 1 n fun k => [AV.x (Value.int IntKind.u16 (w k))]); (branch (decide ((↑k : Int) < c)) (need [inI64 (c - (1 : Int))] (need [inI64 (c - (1 : Int) - (↑k : Int))] (need [inI64 ((c - (1 : Int) - (↑k : Int)) * hi)] (need [inI64 (z0 - (c - (1 : Int) - (↑k : Int)) * hi)] (need [inI64 ((c - (1 : Int) - (↑k : Int)) * lo)] (need [inI64 (z0 - (c - (1 : Int) - (↑k : Int)) * lo)] (need [isW n fun k => [AV.x (Value.int IntKind.u16 (w k))], n ≤ 10000000000000000000, (0 : Int) ≤ (↑k : Int) ∧ (↑k : Int) ≤ 1000, wOk n fun j => wAt [AV.x (Value.int IntKind.u16 (w j))]] (need [inI64 (min hi (z0 - (c - (1 : Int) - (↑k : Int)) * lo) - max lo (z0 - (c - (1 : Int) - (↑k : Int)) * hi))] (need [inI64 (min hi (z0 - (c - (1 : Int) - (↑k : Int)) * lo) - max lo (z0 - (c - (1 : Int) - (↑k : Int)) * hi) + (1 : Int))] (need [min hi (z0 - (c - (1 : Int) - (↑k : Int)) * lo) - max lo (z0 - (c - (1 : Int) - (↑k : Int)) * hi) + (1 : Int) ≠ (0 : Int)] (need [inI64 (max lo (z0 - (c - (1 : Int) - (↑k : Int)) * hi) + Int.tmod z1 (min hi (z0 - (c - (1 : Int) - (↑k : Int)) * lo) - max lo (z0 - (c - (1 : Int) - (↑k : Int)) * hi) + (1 : Int)))] (need [(k + 1) * 8 ≤ 140737488355328, ∀ (i : Nat), i < 1 → ∀ (a : AV), a ∈ chunk 1 [iI (max lo (z0 - (c - (1 : Int) - (↑k : Int)) * hi) + Int.tmod z1 (min hi (z0 - (c - (1 : Int) - (↑k : Int)) * lo) - max lo (z0 - (c - (1 : Int) - (↑k : Int)) * hi) + (1 : Int)))] i → AV.one a = true] (need [inI64 (z0 - (max lo (z0 - (c - (1 : Int) - (↑k : Int)) * hi) + Int.tmod z1 (min hi (z0 - (c - (1 : Int) - (↑k : Int)) * lo) - max lo (z0 - (c - (1 : Int) - (↑k : Int)) * hi) + (1 : Int))))] (need [inI64 ((↑k : Int) + 1)] (need [Eq1 (agg [iI c, iI T, iI lo, iI hi]), z2 = lst 1 n fun k => [AV.x (Value.int IntKind.u16 (w k))], Eq1 (ptr 0 0), Eq1 (AV.x (Value.slice none 0 0)), Eq1 (AV.row 900), z0 - (max lo (z0 - (c - (1 : Int) - (↑k : Int)) * hi) + Int.tmod z1 (min hi (z0 - (c - (1 : Int) - (↑k : Int)) * lo) - max lo (z0 - (c - (1 : Int) - (↑k : Int)) * hi) + (1 : Int))) = trL c T lo hi n w (k + 1), (↑k : Int) + 1 = (↑(k + 1) : Int), k + 1 = k + 1, ∀ (i : Nat), i < k + 1 → catF k (fun k => [Bo.i (trV c T lo hi n w k)]) (chunk 1 [iI (max lo (z0 - (c - (1 : Int) - (↑k : Int)) * hi) + Int.tmod z1 (min hi (z0 - (c - (1 : Int) - (↑k : Int)) * lo) - max lo (z0 - (c - (1 : Int) - (↑k : Int)) * hi) + (1 : Int)))]) i = [Bo.i (trV c T lo hi n w i)], c = c, T = T, lo = lo, hi = hi] (leaf AEx.normal)))))))))))))))) (need [Eq1 (agg [iI c, iI T, iI lo, iI hi]), z2 = lst 1 n fun k => [AV.x (Value.int IntKind.u16 (w k))], Eq1 (ptr 0 0), Eq1 (AV.x (Value.slice none 0 0)), Eq1 (AV.row 900), k = Int.toNat c, ∀ (i : Nat), i < Int.toNat c → [Bo.i (trV c T lo hi n w i)] = [Bo.i (trV c T lo hi n w i)], c = c, T = T, lo = lo, hi = hi] (leaf (AEx.exit 0))))) := by kernel_rfl
  rw [e]
  simp only [T_tr, out_tr, Tree.sat, Option.getD_some] at hQ
  simp only [Tree.sat, allP, fitP, fitL, valEq, inI64, true_and, and_true, decide_eq_true_eq, decide_eq_false_iff_not, Int.natCast_zero, Int.toNat_natCast, List.length_cons, List.length_nil, updL_one, out_tr]
  clear e
  have hb := tube_bd pre0
  have e0 : trL c T lo hi n w (k + 1) = trL c T lo hi n w k - trV c T lo hi n w k := rfl
  have hL := trL_bd (n := n) ⟨hb.2.1.1, hb.2.1.2.1⟩ hb.2.2 pre2 k (by omega)
  have hV := trV_bd (T := T) (n := n) ⟨hb.2.1.1, hb.2.1.2.1⟩ hb.2.2 pre2 k
  have hw := wd_bd pre2 k
  have m1 := mul_bd (x := c - 1 - k) (y := lo) (X := 10) (Y := 200) (by omega) (by omega)
  have m2 := mul_bd (x := c - 1 - k) (y := hi) (X := 10) (Y := 200) (by omega) (by omega)
  have m3 := mul_bd (x := c - k) (y := lo) (X := 10) (Y := 200) (by omega) (by omega)
  have m4 := mul_bd (x := c - k) (y := hi) (X := 10) (Y := 200) (by omega) (by omega)
  have eV : max lo (trL c T lo hi n w k - (c - 1 - (k : Int)) * hi) + (wdF n w k).tmod (min hi (trL c T lo hi n w k - (c - 1 - (k : Int)) * lo) - max lo (trL c T lo hi n w k - (c - 1 - (k : Int)) * hi) + 1) = trV c T lo hi n w k := rfl
  simp only [wc, eV]
  refine ⟨fun h => ?_, fun h => ?_⟩
  ·(repeat' first | with_reducible apply And.intro | with_reducible intro _)
   all_goals first | exact True.intro | omega | with_reducible rfl | exact one_of (by assumption) (by simp [AV.one, Value.oneCell']) | exact catF4 (by assumption) rfl rfl rfl rfl | exact catF2 (by assumption) rfl rfl | (rename_i E hE; cases hE; exact hQ) | rfl | assumption | (first | exact catF1 (by assumption) rfl | exact isWn _ _ | exact pre2)
  ·obtain rfl : k = c.toNat := by omega
   (repeat' first | with_reducible apply And.intro | with_reducible intro _)
   all_goals first | exact True.intro | omega | with_reducible rfl | exact one_of (by assumption) (by simp [AV.one, Value.oneCell']) | exact catF4 (by assumption) rfl rfl rfl rfl | exact catF2 (by assumption) rfl rfl | (rename_i E hE; cases hE; exact hQ) | rfl | assumption | (first | exact catF1 (by assumption) rfl | exact isWn _ _ | exact pre2)
theorem Truly_at (c T lo hi : Int) (n : Nat) (w : Nat → Int) (pre0 : tubeB c T lo hi = true) (pre1 : n ≤ 10000000000000000000) (pre2 : wOk n w) : SoundAt Tryz.prog 76 [.agg [i c, i T, i lo, i hi], wds n w] (.lst 1 c.toNat (fun k => [i (trV c T lo hi n w k)])) := by
 refine soundAt_fin (G := [(108, S_word)]) (L := [LS_tr c T lo hi n w]) (SoundG.cons word_ok (SoundG.nil _)) mixed Tryz.func76 (show Tryz.f76.body = some (bodyOf Tryz.f76) by kernel_rfl) (one_loop (lpE (b := .loop B_tr) (by kernel_rfl) <| tr_ls c T lo hi n w pre0 pre1 pre2)) (t := (need [Eq1 (agg [iI c, iI T, iI lo, iI hi]), (lst 1 n fun k => [AV.x (Value.int IntKind.u16 (w k))]) = lst 1 n fun k => [AV.x (Value.int IntKind.u16 (w k))], Eq1 (ptr 0 0), Eq1 (AV.x (Value.slice none 0 0)), Eq1 (AV.row 900), T = trL c T lo hi n w 0, (0 : Int) = (↑(0 : Nat) : Int), 0 = 0, ∀ (i : Nat), i < 0 → [] = [Bo.i (trV c T lo hi n w i)], c = c, T = T, lo = lo, hi = hi] (leaf (RV.lst 1 (Int.toNat c) fun k => [iI (trV c T lo hi n w k)])))) (by kernel_rfl) ?_
 simp only [Tree.sat, allP, fitP, fitL, valEq, inI64, true_and, and_true]
 (repeat' first | with_reducible apply And.intro | with_reducible intro _)
 all_goals first | exact True.intro | omega | with_reducible rfl | rfl | (rename_i hm; cases List.mem_singleton.1 hm; exact True.intro)
def S_Truly : Sx.Spec := fun l => match l with
 | [.agg [.x (.int .i64 c), .x (.int .i64 T), .x (.int .i64 lo), .x (.int .i64 hi)], .lst 1 n f] => some ([isW n f, tubeB c T lo hi = true, n ≤ 10000000000000000000, wOk n (fun j => wAt (f j))], .lst 1 c.toNat (fun k => [i (trV c T lo hi n (fun j => wAt (f j)) k)]))
 | _ => none
theorem Truly_ok : SoundSpec Tryz.prog 76 S_Truly := by
 refine ⟨⟨_, Tryz.func76, by kernel_rfl, by kernel_rfl⟩, ?_⟩
 intro avs ns res h hn
 unfold S_Truly at h
 split at h
 ·rename_i c T lo hi n f
  cases h
  have hr : isW n f := hn _ (by simp)
  exact (Truly_at c T lo hi n (fun j => wAt (f j)) (hn _ (by simp)) (hn _ (by simp)) (hn _ (by simp))).same (.cons (.refl _) (.cons (.lst 1 n _ _ hr) .nil))
 ·cases h
theorem words_w {n : Nat} {f : Nat → List Value} (h : ∀ i, i < n → AllSc [.int .u16] (f i)) : isW n (fun k => (f k).map .x) ∧ wOk n (fun j => wAt ((fun k => (f k).map .x) j)) := by
 have key : ∀ i, i < n → ∃ x : Int, f i = [.int .u16 x] ∧ 0 ≤ x ∧ x ≤ 65535 := by
  intro i hi
  obtain ⟨v, vs, hv, ⟨x, rfl, hx⟩, h2⟩ := (h i hi).cons
  cases h2.nil
  refine ⟨x, hv, ?_⟩
  have hw : IntKind.u16.min ≤ x ∧ x ≤ IntKind.u16.max := by simpa [Lit.wf] using hx
  have e1 : IntKind.u16.min = 0 := by decide
  have e2 : IntKind.u16.max = 65535 := by decide
  rw [e1, e2] at hw
  exact hw
 refine ⟨fun i hi => ?_, fun i hi => ?_⟩
 ·obtain ⟨x, hx, _⟩ := key i hi
  show (f i).map AV.x = [AV.x (.int .u16 (wAt ((f i).map AV.x)))]
  rw [hx]
  rfl
 ·obtain ⟨x, hx, hb⟩ := key i hi
  show 0 ≤ wAt ((f i).map AV.x) ∧ wAt ((f i).map AV.x) ≤ 65535
  rw [hx]
  exact hb
end Go.Proofs.YtlinbkmpkcmniaaGreat.Bo
namespace Go.Proofs.YtlinbkmpkcmniaaGreat.Bo
open Go Go.Sx Go.RowKit
open Go.Sx.Tree (need branch leaf)
open Go.Sx.AV (lst ptr agg roI tup top)
theorem vsum_bd {f : Nat → Int} {m : Nat} {lo hi : Int} (hl : 1 ≤ lo ∧ lo ≤ hi ∧ hi ≤ 200) (hm : m ≤ 10) (hf : ∀ j, j < m → lo ≤ f j ∧ f j ≤ hi) (j : Nat) (hj : j ≤ m) : 0 ≤ sumF f j ∧ sumF f j ≤ 2000 := by
 have h1 := sumF_bd (f := f) (n := m) (N := 200) (by omega) (fun k hk => by have := hf k hk; omega) j hj
 have h2 : ∀ q, q ≤ m → 0 ≤ sumF f q := by
  intro q
  induction q with
  | zero => intro _; exact Int.le_refl _
  | succ q ih =>
   intro hq
   have := ih (by omega)
   have := hf q (by omega)
   show 0 ≤ sumF f q + f q
   omega
 have h3 := h2 j hj
 omega
theorem seA_bd {c w : Int} (hc : 1 ≤ c) (hw : 0 ≤ w) : 0 ≤ seA c w ∧ seA c w < c := tmod_bd hw (by omega)
theorem seQ_bd {w : Int} (hw : 0 ≤ w ∧ w ≤ 65535) : 0 ≤ w.tdiv 16 ∧ 0 ≤ (w.tdiv 16).tmod 256 ∧ (w.tdiv 16).tmod 256 < 256 ∧ w.tdiv 16 ≤ 65535 ∧ 0 ≤ (w.tdiv 4096).tmod 4 ∧ (w.tdiv 4096).tmod 4 < 4 ∧ 0 ≤ (w.tdiv 8192).tmod 3 ∧ (w.tdiv 8192).tmod 3 < 3 := by
 have h1 := tdiv_bd hw.1 (show (0 : Int) < 16 by omega)
 have h2 := tdiv_bd hw.1 (show (0 : Int) < 4096 by omega)
 have h3 := tdiv_bd hw.1 (show (0 : Int) < 8192 by omega)
 have h4 := tmod_bd h1.1 (show (0 : Int) < 256 by omega)
 have h5 := tmod_bd h2.1 (show (0 : Int) < 4 by omega)
 have h6 := tmod_bd h3.1 (show (0 : Int) < 3 by omega)
 omega
theorem seT_bd {c T lo hi : Int} {m : Nat} {f : Nat → Int} {w : Int} (ht : tubeB c T lo hi = true) (hm : (m : Int) = c) (hf : ∀ j, j < m → lo ≤ f j ∧ f j ≤ hi) (hw : 0 ≤ w ∧ w ≤ 65535) : -1000000 ≤ seT c T f w ∧ seT c T f w ≤ 1000000 ∧ -1000000 ≤ (w.tdiv 16).tmod 256 * (T - sumF f (seA c w).toNat + 5) ∧ (w.tdiv 16).tmod 256 * (T - sumF f (seA c w).toNat + 5) ≤ 1000000 := by
 have hb := tube_bd ht
 have ha := seA_bd (c := c) (w := w) (by omega) hw.1
 have hs := vsum_bd (by omega) (by omega) hf (seA c w).toNat (by omega)
 have hq := seQ_bd hw
 have m1 := mul_bd (x := (w.tdiv 16).tmod 256) (y := T - sumF f (seA c w).toNat + 5) (X := 256) (Y := 2100) (by omega) (by omega)
 have h1 := tdiv_le (b := 256) (N := 537600) (a := (w.tdiv 16).tmod 256 * (T - sumF f (seA c w).toNat + 5)) (by omega)
 unfold seT
 omega
noncomputable def E_se (c T lo hi : Int) (m : Nat) (f : Nat → Int) (n : Nat) (w : Nat → Int) : St := (some { σ := [agg [iI c, iI T, iI lo, iI hi], lst 1 m fun k => [iI (f k)], lst 1 n fun k => [AV.x (Value.int IntKind.u16 (w k))], ptr 0 0, top, top, AV.x (Value.slice none 0 0)] ++ tpL 76 [], m := [(900, Res.row 99 4 0 fun x => []), (0, Res.cells 25 [iI c, iI T, iI lo, iI hi])], nx := 901 } : Option St).getD { σ := [], m := [], nx := 0 }
noncomputable def B_se : Code := loopBody (loopAt (bodyOf Tryz.f77) 0)
noncomputable def inv_se (c T lo hi : Int) (m : Nat) (f : Nat → Int) (n : Nat) (w : Nat → Int) (k : Nat) : St := { σ := ovrS [(7, .row 900), (8, i k)] (E_se c T lo hi m f n w).σ, m := [(900, .row 99 4 (k) (fun k => [i (seA c (w k)), i (seB c T f (w k)), i (seU c T f (w k)), i (seV c T f (w k))])), (0, .cells 25 [i c, i T, i lo, i hi])], nx := (E_se c T lo hi m f n w).nx }
noncomputable def out_se (c T lo hi : Int) (m : Nat) (f : Nat → Int) (n : Nat) (w : Nat → Int) (k : Nat) : AEx → Option St := fun ex => match ex with
 | .exit 0 => some { σ := ovrS [(7, .row 900)] (E_se c T lo hi m f n w).σ, m := [(900, .row 99 4 (min n 12) (fun k => [i (seA c (w k)), i (seB c T f (w k)), i (seU c T f (w k)), i (seV c T f (w k))])), (0, .cells 25 [i c, i T, i lo, i hi])], nx := (E_se c T lo hi m f n w).nx }
 | _ => none
noncomputable def T_se (c T lo hi : Int) (m : Nat) (f : Nat → Int) (n : Nat) (w : Nat → Int) : CT := .leaf (.exit 0, ( out_se c T lo hi m f n w 0 (.exit 0)).getD (E_se c T lo hi m f n w))
noncomputable def LS_se (c T lo hi : Int) (m : Nat) (f : Nat → Int) (n : Nat) (w : Nat → Int) : LSpec := normSp [(.slot 7, 900, 99, 4)] (sumL (inv_se c T lo hi m f n w (0)) (T_se c T lo hi m f n w))
noncomputable def E_si (c T lo hi : Int) (m : Nat) (f : Nat → Int) (n : Nat) (w : Nat → Int) (k : Nat) : St := (some { σ := [agg [iI c, iI T, iI lo, iI hi], lst 1 m fun k => [iI (f k)], lst 1 n fun k => [AV.x (Value.int IntKind.u16 (w k))], ptr 0 0, top, top, AV.x (Value.slice none 0 0), AV.row 900, iI (↑k : Int), iI (w k), iI (Int.tmod (w k) c), iI (Int.tdiv (Int.tmod (Int.tdiv (w k) (16 : Int)) (256 : Int) * (T - sumF f (Int.toNat (Int.tmod (w k) c)) + (5 : Int))) (256 : Int))] ++ tpL 71 [], m := [(900, Res.row 99 4 k fun k => [iI (seA c (w k)), iI (seB c T f (w k)), iI (seU c T f (w k)), iI (seV c T f (w k))]), (0, Res.cells 25 [iI c, iI T, iI lo, iI hi])], nx := 935 } : Option St).getD { σ := [], m := [], nx := 0 }
noncomputable def B_si : Code := loopBody (loopAt B_se 0)
noncomputable def inv_si (c T lo hi : Int) (m : Nat) (f : Nat → Int) (n : Nat) (w : Nat → Int) (k : Nat) (j : Nat) : St := { σ := ovrS [(12, i (seA c (w k) + j))] (E_si c T lo hi m f n w k).σ, m := (E_si c T lo hi m f n w k).m, nx := (E_si c T lo hi m f n w k).nx }
noncomputable def out_si (c T lo hi : Int) (m : Nat) (f : Nat → Int) (n : Nat) (w : Nat → Int) (k : Nat) (j : Nat) : AEx → Option St := fun ex => match ex with
 | .exit 2 => some { σ := ovrS [(12, i (seB c T f (w k)))] (E_si c T lo hi m f n w k).σ, m := (E_si c T lo hi m f n w k).m, nx := (E_si c T lo hi m f n w k).nx }
 | _ => none
noncomputable def T_si (c T lo hi : Int) (m : Nat) (f : Nat → Int) (n : Nat) (w : Nat → Int) (k : Nat) : CT := .leaf (.exit 2, ( out_si c T lo hi m f n w k 0 (.exit 2)).getD (E_si c T lo hi m f n w k))
noncomputable def LS_si (c T lo hi : Int) (m : Nat) (f : Nat → Int) (n : Nat) (w : Nat → Int) (k : Nat) : LSpec := normSp [] (sumL (inv_si c T lo hi m f n w k (0)) (T_si c T lo hi m f n w k))
theorem si_ls (c T lo hi : Int) (m : Nat) (f : Nat → Int) (n : Nat) (w : Nat → Int) (k : Nat) (pre0 : tubeB c T lo hi = true) (pre1 : (m : Int) = c) (pre2 : ∀ j, j < m → lo ≤ f j ∧ f j ≤ hi) (pre3 : n ≤ 10000000000000000000) (pre4 : wOk n w) (pre5 : k < min n 12) : LSound Tryz.prog (.loop B_si) (LS_si c T lo hi m f n w k) := by
 refine loop_roundsX [] (E := {}) (G := [(33, S_rHeight)]) (L := []) (SoundG.cons rHeight_ok (SoundG.nil _)) (SoundX.of (SoundRL.nil _) (SoundHL.nil _)) mixed noLoops (X := Nat) (inv_si c T lo hi m f n w k) (fun j => j ≤ (c - seA c (w k)).toNat ∧ ∀ q, q < j → (fun j => !decide (sumF f ((seA c (w k)).toNat + j + 1) - sumF f (seA c (w k)).toNat ≤ seT c T f (w k))) q = false) (fun j => (c - seA c (w k)).toNat - j) (out_si c T lo hi m f n w k) (x0 := 0) ⟨by omega, fun j hj => by omega⟩ ?_ ?_ ?_
 ·rintro j
  kernel_rfl
 ·rintro j y E h
  unfold out_si at h
  split at h
  ·cases h; kernel_rfl
  ·cases h
 ·rintro Q hQ j hx
  refine ⟨(j + 1), ?_⟩
  have e : roundX Tryz.prog [(33, S_rHeight)] {} [] [] B_si (inv_si c T lo hi m f n w k j) (inv_si c T lo hi m f n w k ((j + 1))) (out_si c T lo hi m f n w k j) = (let z1 := (Int.toNat (Int.tmod (w k) c)); let z0 := (need [Eq1 (agg [iI c, iI T, iI lo, iI hi]), (lst 1 m fun k => [iI (f k)]) = lst 1 m fun k => [iI (f k)], (lst 1 n fun k => [AV.x (Value.int IntKind.u16 (w k))]) = lst 1 n fun k => [AV.x (Value.int IntKind.u16 (w k))], Eq1 (ptr 0 0), Eq1 (AV.x (Value.slice none 0 0)), Eq1 (AV.row 900), Eq1 (↑k : Int), w k = w k, Eq1 (Int.tmod (w k) c), Eq1 (Int.tdiv (Int.tmod (Int.tdiv (w k) (16 : Int)) (256 : Int) * (T - sumF f z1 + (5 : Int))) (256 : Int)), seA c (w k) + (↑j : Int) = seB c T f (w k), k = k, ∀ (i : Nat), i < k → [iI (seA c (w i)), iI (seB c T f (w i)), iI (seU c T f (w i)), iI (seV c T f (w i))] = [iI (seA c (w i)), iI (seB c T f (w i)), iI (seU c T f (w i)), iI (seV c T f (w i))], c = c, T = T, lo = lo, hi = hi] (leaf (AEx.exit 2))); let z2 := (Int.toNat (seA c (w k) + (↑j : Int) + 1)); (branch (decide (seA c (w k) + (↑j : Int) < c)) (need [inI64 (seA c (w k) + (↑j : Int) + 1)] (need [isRec 1 m fun k => [iI (f k)], seA c (w k) + (↑j : Int) + 1 ≤ (↑m : Int), m ≤ 100, ∀ (k : Nat), k < m → (-1000000 : Int) ≤ f k ∧ f k ≤ (1000000 : Int)] (need [isRec 1 m fun k => [iI (f k)], Int.tmod (w k) c ≤ (↑m : Int), m ≤ 100, ∀ (k : Nat), k < m → (-1000000 : Int) ≤ f k ∧ f k ≤ (1000000 : Int)] (need [inI64 (sumF f z2 - sumF f z1)] (branch (decide (sumF f z2 - sumF f z1 ≤ Int.tdiv (Int.tmod (Int.tdiv (w k) (16 : Int)) (256 : Int) * (T - sumF f z1 + (5 : Int))) (256 : Int))) (need [inI64 (seA c (w k) + (↑j : Int) + 1)] (need [Eq1 (agg [iI c, iI T, iI lo, iI hi]), (lst 1 m fun k => [iI (f k)]) = lst 1 m fun k => [iI (f k)], (lst 1 n fun k => [AV.x (Value.int IntKind.u16 (w k))]) = lst 1 n fun k => [AV.x (Value.int IntKind.u16 (w k))], Eq1 (ptr 0 0), Eq1 (AV.x (Value.slice none 0 0)), Eq1 (AV.row 900), Eq1 (↑k : Int), w k = w k, Eq1 (Int.tmod (w k) c), Eq1 (Int.tdiv (Int.tmod (Int.tdiv (w k) (16 : Int)) (256 : Int) * (T - sumF f z1 + (5 : Int))) (256 : Int)), seA c (w k) + (↑j : Int) + 1 = seA c (w k) + (↑(j + 1) : Int), k = k, ∀ (i : Nat), i < k → [iI (seA c (w i)), iI (seB c T f (w i)), iI (seU c T f (w i)), iI (seV c T f (w i))] = [iI (seA c (w i)), iI (seB c T f (w i)), iI (seU c T f (w i)), iI (seV c T f (w i))], c = c, T = T, lo = lo, hi = hi] (leaf AEx.normal))) z0))))) z0)) := by kernel_rfl
  rw [e]
  simp only [T_si, out_si, Tree.sat, Option.getD_some] at hQ
  have hb := tube_bd pre0
  have hw := pre4 k (by omega)
  have eA : (w k).tmod c = seA c (w k) := rfl
  have ha := seA_bd (c := c) (w := w k) (by omega) hw.1
  have eT : (((w k).tdiv 16).tmod 256 * (T - sumF f (seA c (w k)).toNat + 5)).tdiv 256 = seT c T f (w k) := rfl
  have e1 : (seA c (w k) + (j : Int) + 1).toNat = (seA c (w k)).toNat + j + 1 := by omega
  have hs := fun q h => vsum_bd (lo := lo) (hi := hi) (by omega) (by omega) pre2 q h
  have hs1 := hs (seA c (w k)).toNat (by omega)
  have hfb : ∀ q, q < m → -1000000 ≤ f q ∧ f q ≤ 1000000 := fun q hq => by have := pre2 q hq; omega
  simp only [Tree.sat, allP, fitP, fitL, valEq, inI64, true_and, and_true, decide_eq_true_eq, decide_eq_false_iff_not, Int.natCast_zero, Int.toNat_natCast, out_si, eA]
  simp only [eT, e1]
  clear e
  have hgood : sumF f ((seA c (w k)).toNat + j + 1) - sumF f (seA c (w k)).toNat ≤ seT c T f (w k) → ∀ q, q < j + 1 → (!decide (sumF f ((seA c (w k)).toNat + q + 1) - sumF f (seA c (w k)).toNat ≤ seT c T f (w k))) = false := fun h2 q hq => by
   rcases (show q < j ∨ q = j by omega) with h3 | rfl
   ·exact hx.2 q h3
   ·simp [h2]
  have hBx : seA c (w k) + j < c → ¬ sumF f ((seA c (w k)).toNat + j + 1) - sumF f (seA c (w k)).toNat ≤ seT c T f (w k) → seB c T f (w k) = seA c (w k) + j := fun h1 h2 => by
   have hf : fstI (fun j => !decide (sumF f ((seA c (w k)).toNat + j + 1) - sumF f (seA c (w k)).toNat ≤ seT c T f (w k))) (c - seA c (w k)).toNat = j := fstI_eq (by omega) (by simp; omega) hx.2
   unfold seB
   rw [show seI c T f (w k) = j from hf]
  have hBy : ¬ seA c (w k) + j < c → seB c T f (w k) = seA c (w k) + j := fun h1 => by
   have hf : fstI (fun j => !decide (sumF f ((seA c (w k)).toNat + j + 1) - sumF f (seA c (w k)).toNat ≤ seT c T f (w k))) (c - seA c (w k)).toNat = (c - seA c (w k)).toNat := fstI_none (fun q hq => hx.2 q (by omega))
   unfold seB
   rw [show seI c T f (w k) = (c - seA c (w k)).toNat from hf]
   omega
  refine ⟨fun h => ?_, fun h => ?_⟩
  ·have hs2 := hs ((seA c (w k)).toNat + j + 1) (by omega)
   (repeat' first | with_reducible apply And.intro | with_reducible intro _)
   all_goals first | exact True.intro | omega | with_reducible rfl | exact isRec1 _ _ | rfl | exact hgood (by assumption) _ (by assumption) | (have := hfb _ (by assumption); omega) | (have := hBx h (by assumption); omega) | (rename_i E hE; cases hE; exact hQ)
  ·have hB := hBy h
   (repeat' first | with_reducible apply And.intro | with_reducible intro _)
   all_goals first | exact True.intro | omega | with_reducible rfl | rfl | (rename_i E hE; cases hE; exact hQ)
theorem se_ls (c T lo hi : Int) (m : Nat) (f : Nat → Int) (n : Nat) (w : Nat → Int) (pre0 : tubeB c T lo hi = true) (pre1 : (m : Int) = c) (pre2 : ∀ j, j < m → lo ≤ f j ∧ f j ≤ hi) (pre3 : n ≤ 10000000000000000000) (pre4 : wOk n w) : LSound Tryz.prog (.loop B_se) (LS_se c T lo hi m f n w) := by
 refine loop_roundsX [(.slot 7, 900, 99, 4)] (E := {}) (G := [(33, S_rHeight)]) (L := [depSp 8 (fun k => needSp [tubeB c T lo hi = true, (m : Int) = c, ∀ j, j < m → lo ≤ f j ∧ f j ≤ hi, n ≤ 10000000000000000000, wOk n w, k < min n 12] (LS_si c T lo hi m f n w k))]) (SoundG.cons rHeight_ok (SoundG.nil _)) (SoundX.of (SoundRL.nil _) (SoundHL.nil _)) mixed (one_loop (fun cj hcj => by
  have e : loopAt B_se 0 = some (.loop B_si) := by kernel_rfl
  rw [e] at hcj; cases hcj
  exact depSp_sound (fun k => needSp_sound (fun h => si_ls c T lo hi m f n w k h.1 h.2.1 h.2.2.1 h.2.2.2.1 h.2.2.2.2.1 h.2.2.2.2.2)))) (X := Nat) (inv_se c T lo hi m f n w) (fun k => k ≤ min n 12) (fun k => min n 12 - k) (out_se c T lo hi m f n w) (x0 := 0) (by simp) ?_ ?_ ?_
 ·rintro k
  kernel_rfl
 ·rintro k y E h
  unfold out_se at h
  split at h
  ·cases h; kernel_rfl
  ·cases h
 ·rintro Q hQ k hx
  refine ⟨(k + 1), ?_⟩
  have e : roundX Tryz.prog [(33, S_rHeight)] {} [depSp 8 (fun k => needSp [tubeB c T lo hi = true, (m : Int) = c, ∀ j, j < m → lo ≤ f j ∧ f j ≤ hi, n ≤ 10000000000000000000, wOk n w, k < min n 12] (LS_si c T lo hi m f n w k))] [(.slot 7, 900, 99, 4)] B_se (inv_se c T lo hi m f n w k) (inv_se c T lo hi m f n w ((k + 1))) (out_se c T lo hi m f n w k) = (let z4 := (agg [iI c, iI T, iI lo, iI hi]); let z5 := (lst 1 m fun k => [iI (f k)]); let z6 := (AV.x (Value.slice none 0 0)); let z0 := (need [Eq1 z4, z5 = lst 1 m fun k => [iI (f k)], (lst 1 n fun k => [AV.x (Value.int IntKind.u16 (w k))]) = lst 1 n fun k => [AV.x (Value.int IntKind.u16 (w k))], Eq1 (ptr 0 0), Eq1 z6, Eq1 (AV.row 900), k = min n 12, ∀ (i : Nat), i < min n 12 → [Bo.i (seA c (w i)), Bo.i (seB c T f (w i)), Bo.i (seU c T f (w i)), Bo.i (seV c T f (w i))] = [Bo.i (seA c (w i)), Bo.i (seB c T f (w i)), Bo.i (seU c T f (w i)), Bo.i (seV c T f (w i))], c = c, T = T, lo = lo, hi = hi] (leaf (AEx.exit 0))); let z1 := (Int.toNat (Int.tmod (w k) c)); let z2 := (Int.tdiv (w k) (16 : Int)); let z3 := (Int.tdiv (Int.tmod z2 (256 : Int) * (T - sumF f z1 + (5 : Int))) (256 : Int)); let z7 := (Int.tdiv (w k) (4096 : Int)); let z8 := (max (0 : Int) (Int.tdiv (Int.tmod z2 (256 : Int) * (T - sumF f z1 + (5 : Int))) (256 : Int) - Int.tmod z7 (4 : Int))); let z9 := (Int.tdiv (w k) (8192 : Int)); let z10 := (min (2000 : Int) (Int.tdiv (Int.tmod z2 (256 : Int) * (T - sumF f z1 + (5 : Int))) (256 : Int) + Int.tmod z9 (3 : Int))); (branch (decide ((↑k : Int) < (↑n : Int))) (branch (decide ((↑k : Int) < 12)) (need [(0 : Int) ≤ (↑k : Int) ∧ (↑k : Int) < (↑n : Int)] (need [inI64 (w k)] (need [c ≠ (0 : Int)] (need [(16 : Int) ≠ (0 : Int), inI64 z2] (need [(256 : Int) ≠ (0 : Int)] (need [isRec 1 m fun k => [iI (f k)], Int.tmod (w k) c ≤ (↑m : Int), m ≤ 100, ∀ (k : Nat), k < m → (-1000000 : Int) ≤ f k ∧ f k ≤ (1000000 : Int)] (need [inI64 (T - sumF f z1)] (need [inI64 (T - sumF f z1 + (5 : Int))] (need [inI64 (Int.tmod z2 (256 : Int) * (T - sumF f z1 + (5 : Int)))] (need [(256 : Int) ≠ (0 : Int), inI64 z3] (need [tubeB c T lo hi = true, (↑m : Int) = c, ∀ (j : Nat), j < m → lo ≤ f j ∧ f j ≤ hi, n ≤ 10000000000000000000, wOk n w, k < min n 12] (need [Eq1 z4, z5 = lst 1 m fun k => [iI (f k)], (lst 1 n fun k => [AV.x (Value.int IntKind.u16 (w k))]) = lst 1 n fun k => [AV.x (Value.int IntKind.u16 (w k))], Eq1 (ptr 0 0), Eq1 z6, Eq1 (AV.row 900), Eq1 (↑k : Int), w k = w k, Eq1 (Int.tmod (w k) c), Eq1 z3, Int.tmod (w k) c = seA c (w k) + (↑(0 : Nat) : Int), k = k, ∀ (i : Nat), i < k → [Bo.i (seA c (w i)), Bo.i (seB c T f (w i)), Bo.i (seU c T f (w i)), Bo.i (seV c T f (w i))] = [iI (seA c (w i)), iI (seB c T f (w i)), iI (seU c T f (w i)), iI (seV c T f (w i))], c = c, T = T, lo = lo, hi = hi] (need [(4096 : Int) ≠ (0 : Int), inI64 z7] (need [(4 : Int) ≠ (0 : Int)] (need [inI64 (Int.tdiv (Int.tmod z2 (256 : Int) * (T - sumF f z1 + (5 : Int))) (256 : Int) - Int.tmod z7 (4 : Int))] (need [(8192 : Int) ≠ (0 : Int), inI64 z9] (need [(3 : Int) ≠ (0 : Int)] (need [inI64 (Int.tdiv (Int.tmod z2 (256 : Int) * (T - sumF f z1 + (5 : Int))) (256 : Int) + Int.tmod z9 (3 : Int))] (need [(k + 1) * 32 ≤ 140737488355328, ∀ (i : Nat), i < 1 → ∀ (a : AV), a ∈ chunk 4 [iI (Int.tmod (w k) c), iI (seB c T f (w k)), iI z8, iI z10] i → AV.one a = true] (need [inI64 ((↑k : Int) + 1)] (need [Eq1 z4, z5 = lst 1 m fun k => [iI (f k)], (lst 1 n fun k => [AV.x (Value.int IntKind.u16 (w k))]) = lst 1 n fun k => [AV.x (Value.int IntKind.u16 (w k))], Eq1 (ptr 0 0), Eq1 z6, Eq1 (AV.row 900), (↑k : Int) + 1 = (↑(k + 1) : Int), k + 1 = k + 1, ∀ (i : Nat), i < k + 1 → catF k (fun k => [iI (seA c (w k)), iI (seB c T f (w k)), iI (seU c T f (w k)), iI (seV c T f (w k))]) (chunk 4 [iI (Int.tmod (w k) c), iI (seB c T f (w k)), iI z8, iI z10]) i = [Bo.i (seA c (w i)), Bo.i (seB c T f (w i)), Bo.i (seU c T f (w i)), Bo.i (seV c T f (w i))], c = c, T = T, lo = lo, hi = hi] (leaf AEx.normal)))))))))))))))))))))) z0) z0)) := by kernel_rfl
  rw [e]
  simp only [T_se, out_se, Tree.sat, Option.getD_some] at hQ
  have hb := tube_bd pre0
  have eA : (w k).tmod c = seA c (w k) := rfl
  have eT : (((w k).tdiv 16).tmod 256 * (T - sumF f (seA c (w k)).toNat + 5)).tdiv 256 = seT c T f (w k) := rfl
  have eU : max 0 (seT c T f (w k) - ((w k).tdiv 4096).tmod 4) = seU c T f (w k) := rfl
  have eV : min 2000 (seT c T f (w k) + ((w k).tdiv 8192).tmod 3) = seV c T f (w k) := rfl
  have hfb : ∀ q, q < m → -1000000 ≤ f q ∧ f q ≤ 1000000 := fun q hq => by have := pre2 q hq; omega
  simp only [Tree.sat, allP, fitP, fitL, valEq, inI64, true_and, and_true, decide_eq_true_eq, decide_eq_false_iff_not, Int.natCast_zero, Int.toNat_natCast, out_se, eA]
  simp only [eT, eU, eV]
  clear e
  have key : k < n → k < 12 → (0 ≤ w k ∧ w k ≤ 65535) ∧ (0 ≤ seA c (w k) ∧ seA c (w k) < c) ∧ (0 ≤ sumF f (seA c (w k)).toNat ∧ sumF f (seA c (w k)).toNat ≤ 2000) ∧ (-1000000 ≤ seT c T f (w k) ∧ seT c T f (w k) ≤ 1000000 ∧ -1000000 ≤ ((w k).tdiv 16).tmod 256 * (T - sumF f (seA c (w k)).toNat + 5) ∧ ((w k).tdiv 16).tmod 256 * (T - sumF f (seA c (w k)).toNat + 5) ≤ 1000000) := fun h1 _ => by
   have hw := pre4 k h1
   have ha := seA_bd (c := c) (w := w k) (by omega) hw.1
   exact ⟨hw, ha, vsum_bd (by omega) (by omega) pre2 (seA c (w k)).toNat (by omega), seT_bd pre0 pre1 pre2 hw⟩
  have kq : k < n → 0 ≤ (w k).tdiv 16 ∧ 0 ≤ ((w k).tdiv 16).tmod 256 ∧ ((w k).tdiv 16).tmod 256 < 256 ∧ (w k).tdiv 16 ≤ 65535 ∧ 0 ≤ ((w k).tdiv 4096).tmod 4 ∧ ((w k).tdiv 4096).tmod 4 < 4 ∧ 0 ≤ ((w k).tdiv 8192).tmod 3 ∧ ((w k).tdiv 8192).tmod 3 < 3 := fun h1 => seQ_bd (pre4 k h1)
  have kd : k < n → (0 ≤ (w k).tdiv 4096 ∧ (w k).tdiv 4096 ≤ w k) ∧ 0 ≤ (w k).tdiv 8192 ∧ (w k).tdiv 8192 ≤ w k := fun h1 => ⟨tdiv_bd (pre4 k h1).1 (by omega), tdiv_bd (pre4 k h1).1 (by omega)⟩
  refine ⟨fun h => ⟨fun h2 => ?_, fun h2 => ?_⟩, fun h => ?_⟩
  ·have hk := key (by omega) (by omega)
   have hq := kq (by omega)
   have hd := kd (by omega)
   (repeat' first | with_reducible apply And.intro | with_reducible intro _)
   all_goals first | exact True.intro | omega | with_reducible rfl | exact isRec1 _ _ | exact catF4 (by assumption) rfl rfl rfl rfl | exact one_of (by assumption) (by simp [AV.one, Value.oneCell']) | rfl | (have := hfb _ (by assumption); omega) | exact pre0 | exact pre4 | (have := pre2 _ (by assumption); omega) | exact pre4 _ (by assumption)
  ·obtain rfl : k = min n 12 := by omega
   (repeat' first | with_reducible apply And.intro | with_reducible intro _)
   all_goals first | exact True.intro | omega | with_reducible rfl | rfl | (rename_i E hE; cases hE; exact hQ)
  ·obtain rfl : k = min n 12 := by omega
   (repeat' first | with_reducible apply And.intro | with_reducible intro _)
   all_goals first | exact True.intro | omega | with_reducible rfl | rfl | (rename_i E hE; cases hE; exact hQ)
theorem Seen_at (c T lo hi : Int) (m : Nat) (f : Nat → Int) (n : Nat) (w : Nat → Int) (pre0 : tubeB c T lo hi = true) (pre1 : (m : Int) = c) (pre2 : ∀ j, j < m → lo ≤ f j ∧ f j ≤ hi) (pre3 : n ≤ 10000000000000000000) (pre4 : wOk n w) : SoundAt Tryz.prog 77 [.agg [i c, i T, i lo, i hi], .lst 1 m (fun k => [i (f k)]), wds n w] (.lst 4 (min n 12) (fun k => [i (seA c (w k)), i (seB c T f (w k)), i (seU c T f (w k)), i (seV c T f (w k))])) := by
 refine soundAt_fin (G := [(33, S_rHeight)]) (L := [LS_se c T lo hi m f n w]) (SoundG.cons rHeight_ok (SoundG.nil _)) mixed Tryz.func77 (show Tryz.f77.body = some (bodyOf Tryz.f77) by kernel_rfl) (one_loop (lpE (b := .loop B_se) (by kernel_rfl) <| se_ls c T lo hi m f n w pre0 pre1 pre2 pre3 pre4)) (t := (need [Eq1 (agg [iI c, iI T, iI lo, iI hi]), (lst 1 m fun k => [iI (f k)]) = lst 1 m fun k => [iI (f k)], (lst 1 n fun k => [AV.x (Value.int IntKind.u16 (w k))]) = lst 1 n fun k => [AV.x (Value.int IntKind.u16 (w k))], Eq1 (ptr 0 0), Eq1 (AV.x (Value.slice none 0 0)), Eq1 (AV.row 900), (0 : Int) = (↑(0 : Nat) : Int), 0 = 0, ∀ (i : Nat), i < 0 → [] = [Bo.i (seA c (w i)), Bo.i (seB c T f (w i)), Bo.i (seU c T f (w i)), Bo.i (seV c T f (w i))], c = c, T = T, lo = lo, hi = hi] (leaf (RV.lst 4 (min n 12) fun k => [iI (seA c (w k)), iI (seB c T f (w k)), iI (seU c T f (w k)), iI (seV c T f (w k))])))) (by kernel_rfl) ?_
 simp only [Tree.sat, allP, fitP, fitL, valEq, inI64, true_and, and_true]
 (repeat' first | with_reducible apply And.intro | with_reducible intro _)
 all_goals first | exact True.intro | omega | with_reducible rfl | rfl | (rename_i hm; simp only [List.mem_cons, List.not_mem_nil, or_false] at hm; rcases hm with rfl | rfl | rfl | rfl <;> exact True.intro)
def S_Seen : Sx.Spec := fun l => match l with
 | [.agg [.x (.int .i64 c), .x (.int .i64 T), .x (.int .i64 lo), .x (.int .i64 hi)], .lst 1 m g, .lst 1 n f] => some ([isRec 1 m g, isW n f, tubeB c T lo hi = true, (m : Int) = c, ∀ j, j < m → lo ≤ col 0 g j ∧ col 0 g j ≤ hi, n ≤ 10000000000000000000, wOk n (fun j => wAt (f j))], rds (min n 12) (fun k => seA c (wAt (f k))) (fun k => seB c T (col 0 g) (wAt (f k))) (fun k => seU c T (col 0 g) (wAt (f k))) (fun k => seV c T (col 0 g) (wAt (f k))))
 | _ => none
theorem Seen_ok : SoundSpec Tryz.prog 77 S_Seen := by
 refine ⟨⟨_, Tryz.func77, by kernel_rfl, by kernel_rfl⟩, ?_⟩
 intro avs ns res h hn
 unfold S_Seen at h
 split at h
 ·rename_i c T lo hi m g n f
  cases h
  have hg : isRec 1 m g := hn _ (by simp)
  have hr : isW n f := hn _ (by simp)
  exact (Seen_at c T lo hi m (col 0 g) n (fun j => wAt (f j)) (hn _ (by simp)) (hn _ (by simp)) (hn _ (by simp)) (hn _ (by simp)) (hn _ (by simp))).same (.cons (.refl _) (.cons (.lst 1 m _ _ hg) (.cons (.lst 1 n _ _ hr) .nil)))
 ·cases h
end Go.Proofs.YtlinbkmpkcmniaaGreat.Bo
namespace Go.Proofs.YtlinbkmpkcmniaaGreat.Bo
open Go Go.Sx Go.RowKit
open Go.Sx.Tree (need branch leaf)
open Go.Sx.AV (lst ptr agg roI tup top)
theorem fltB_ok {c T lo hi : Int} {n : Nat} {a b u v : Nat → Int} (h1 : flt c T lo hi n a b u v = 0) (h2 : okB c T lo hi n a b u v = true) : eB c T lo hi n a b u v = 0 := fltB_iff.2 ⟨h1, rfl, h2⟩
theorem flt_ok {c T lo hi : Int} {n : Nat} {a b u v : Nat → Int} (h1 : tubeB c T lo hi = true) (hn : n ≤ 12) (h2 : allI (fun k => rdB c (a k) (b k) (u k) (v k)) n = true) : flt c T lo hi n a b u v = 0 := flt_iff.2 ⟨h1, hn, h2⟩
theorem trL_sum (c T lo hi : Int) (n : Nat) (w : Nat → Int) : ∀ k, trL c T lo hi n w k = T - sumF (trV c T lo hi n w) k
 | 0 => by simp [trL, sumF]
 | k + 1 => by
  have ih := trL_sum c T lo hi n w k
  show trL c T lo hi n w k - trV c T lo hi n w k = T - (sumF (trV c T lo hi n w) k + trV c T lo hi n w k)
  omega
theorem seen_rd {c T lo hi : Int} {m : Nat} {f : Nat → Int} {w : Int} (ht : tubeB c T lo hi = true) (hm : (m : Int) = c) (hf : ∀ j, j < m → lo ≤ f j ∧ f j ≤ hi) (hs : sumF f m = T) (hw : 0 ≤ w ∧ w ≤ 65535) : rdB c (seA c w) (seB c T f w) (seU c T f w) (seV c T f w) = true ∧ sumF f (seB c T f w).toNat - sumF f (seA c w).toNat ≤ seV c T f w ∧ (seB c T f w < c → seU c T f w + 1 ≤ sumF f (seB c T f w + 1).toNat - sumF f (seA c w).toNat) := by
 have hb := tube_bd ht
 have ha := seA_bd (c := c) (w := w) (by omega) hw.1
 have hq := seQ_bd hw
 have mono : ∀ x d, x + d ≤ m → sumF f x ≤ sumF f (x + d) := fun x d h => step_mono (lo := lo) (h := sumF f) (c := m) (by omega) (fun k hk => by have := hf k hk; show lo ≤ sumF f k + f k - sumF f k; omega) x d h
 have hA := mono 0 (seA c w).toNat (by omega)
 have hA2 := mono (seA c w).toNat (m - (seA c w).toNat) (by omega)
 rw [Nat.zero_add] at hA
 rw [show (seA c w).toNat + (m - (seA c w).toNat) = m by omega, hs] at hA2
 have h0 : sumF f 0 = 0 := rfl
 have hp : 0 ≤ (w.tdiv 16).tmod 256 * (T - sumF f (seA c w).toNat + 5) ∧ (w.tdiv 16).tmod 256 * (T - sumF f (seA c w).toNat + 5) ≤ 255 * 2005 := by
  refine ⟨Int.mul_nonneg hq.2.1 (by omega), Int.le_trans (Int.mul_le_mul_of_nonneg_right (show (w.tdiv 16).tmod 256 ≤ 255 by omega) (show 0 ≤ T - sumF f (seA c w).toNat + 5 by omega)) (Int.mul_le_mul_of_nonneg_left (by omega) (by omega))⟩
 have hT : 0 ≤ seT c T f w ∧ seT c T f w ≤ 1997 := by
  unfold seT
  rw [Int.tdiv_eq_ediv_of_nonneg hp.1]
  omega
 have hI := fstI_spec (fun j => !decide (sumF f ((seA c w).toNat + j + 1) - sumF f (seA c w).toNat ≤ seT c T f w)) (c - seA c w).toNat
 have hI0 : seI c T f w = fstI (fun j => !decide (sumF f ((seA c w).toNat + j + 1) - sumF f (seA c w).toNat ≤ seT c T f w)) (c - seA c w).toNat := rfl
 rw [← hI0] at hI
 have hB : seB c T f w = seA c w + seI c T f w := rfl
 have hU : seU c T f w = max 0 (seT c T f w - (w.tdiv 4096).tmod 4) := rfl
 have hV : seV c T f w = min 2000 (seT c T f w + (w.tdiv 8192).tmod 3) := rfl
 have eB : (seB c T f w).toNat = (seA c w).toNat + seI c T f w := by omega
 have hle : seI c T f w ≤ (c - seA c w).toNat := hI.1
 have hmB := mono ((seA c w).toNat + seI c T f w) (m - ((seA c w).toNat + seI c T f w)) (by omega)
 rw [show (seA c w).toNat + seI c T f w + (m - ((seA c w).toNat + seI c T f w)) = m by omega, hs] at hmB
 refine ⟨rdB_of (by omega), ?_, fun hlt => ?_⟩
 ·rw [eB]
  rcases Nat.eq_zero_or_pos (seI c T f w) with h | h
  ·rw [h, Nat.add_zero]
   omega
  ·have h1 := hI.2.1 (seI c T f w - 1) (by omega)
   simp only [Bool.not_eq_false', decide_eq_true_eq] at h1
   rw [show (seA c w).toNat + (seI c T f w - 1) + 1 = (seA c w).toNat + seI c T f w by omega] at h1
   omega
 ·have h1 := hI.2.2 (by omega)
  simp only [Bool.not_eq_true', decide_eq_false_iff_not] at h1
  have e2 : (seB c T f w + 1).toNat = (seA c w).toNat + seI c T f w + 1 := by omega
  rw [e2]
  omega
end Go.Proofs.YtlinbkmpkcmniaaGreat.Bo
namespace Go.Proofs.YtlinbkmpkcmniaaGreat.Bo
open Go Go.Sx Go.RowKit
open Go.Sx.Tree (need branch leaf)
open Go.Sx.AV (lst ptr agg roI tup top)
end Go.Proofs.YtlinbkmpkcmniaaGreat.Bo
namespace Go.Proofs.YtlinbkmpkcmniaaGreat.Bo
open Go Go.Sx Go.RowKit
open Go.Sx.Tree (need branch leaf)
open Go.Sx.AV (lst ptr agg roI tup top)
abbrev tF (c T lo hi : Int) (n : Nat) (w : Nat → Int) : Nat → Int := fun k => trV c T lo hi n w k
abbrev zA (c : Int) (z : Nat → Int) : Nat → Int := fun k => seA c (z k)
abbrev zB (c T lo hi : Int) (n : Nat) (w z : Nat → Int) : Nat → Int := fun k => seB c T (tF c T lo hi n w) (z k)
abbrev zU (c T lo hi : Int) (n : Nat) (w z : Nat → Int) : Nat → Int := fun k => seU c T (tF c T lo hi n w) (z k)
abbrev zV (c T lo hi : Int) (n : Nat) (w z : Nat → Int) : Nat → Int := fun k => seV c T (tF c T lo hi n w) (z k)
theorem tF_bd {c T lo hi : Int} {n : Nat} {w : Nat → Int} (h : tubeB c T lo hi = true) (hw : wOk n w) : (∀ j, j < c.toNat → lo ≤ tF c T lo hi n w j ∧ tF c T lo hi n w j ≤ hi) ∧ sumF (tF c T lo hi n w) c.toNat = T := by
 have hb := tube_bd h
 have hl := trL_bd (n := n) ⟨hb.2.1.1, hb.2.1.2.1⟩ hb.2.2 hw c.toNat (by omega)
 rw [trL_sum, show c - ((c.toNat : Nat) : Int) = 0 by omega, Int.zero_mul, Int.zero_mul] at hl
 refine ⟨fun j hj => ?_, ?_⟩
 ·have := trV_bd (T := T) (n := n) ⟨hb.2.1.1, hb.2.1.2.1⟩ hb.2.2 hw j (by omega)
  exact ⟨this.1, this.2.1⟩
 ·have : sumF (trV c T lo hi n w) c.toNat = T := by omega
  exact this
theorem seen_all {c T lo hi : Int} {n : Nat} {w : Nat → Int} {m : Nat} {z : Nat → Int} (h : tubeB c T lo hi = true) (hw : wOk n w) (hz : wOk m z) : flt c T lo hi (min m 12) (zA c z) (zB c T lo hi n w z) (zU c T lo hi n w z) (zV c T lo hi n w z) = 0 ∧ Tr c.toNat T lo hi (min m 12) (zA c z) (zB c T lo hi n w z) (zU c T lo hi n w z) (zV c T lo hi n w z) (sumF (tF c T lo hi n w)) ∧ okB c T lo hi (min m 12) (zA c z) (zB c T lo hi n w z) (zU c T lo hi n w z) (zV c T lo hi n w z) = true ∧ eB c T lo hi (min m 12) (zA c z) (zB c T lo hi n w z) (zU c T lo hi n w z) (zV c T lo hi n w z) = 0 ∧ lenB c T lo hi (min m 12) (zA c z) (zB c T lo hi n w z) (zU c T lo hi n w z) (zV c T lo hi n w z) = c.toNat + 1 := by
 have hb := tube_bd h
 have hf := tF_bd (n := n) h hw
 have hs := fun k (hk : k < min m 12) => seen_rd (w := z k) h (show ((c.toNat : Nat) : Int) = c by omega) hf.1 hf.2 (hz k (by omega))
 have h1 : flt c T lo hi (min m 12) (zA c z) (zB c T lo hi n w z) (zU c T lo hi n w z) (zV c T lo hi n w z) = 0 := flt_ok h (Nat.min_le_right _ _) (allI_iff.2 fun k hk => (hs k hk).1)
 have hr := rdOk_of hb.1 (flt_iff.1 h1).2.2
 have e0 : ((c.toNat : Nat) : Int) = c := by omega
 have ht : Tr c.toNat T lo hi (min m 12) (zA c z) (zB c T lo hi n w z) (zU c T lo hi n w z) (zV c T lo hi n w z) (sumF (tF c T lo hi n w)) := by
  refine ⟨rfl, hf.2, fun k hk => ?_, fun j hj => ?_⟩
  ·have := hf.1 k hk
   have e : sumF (tF c T lo hi n w) (k + 1) = sumF (tF c T lo hi n w) k + tF c T lo hi n w k := rfl
   rw [e]
   omega
  ·have := (hs j hj).2
   rw [e0]
   exact ⟨this.1, this.2⟩
 have hok : okB c T lo hi (min m 12) (zA c z) (zB c T lo hi n w z) (zU c T lo hi n w z) (zV c T lo hi n w z) = true := ok_of_tr hb.2.1 hr ht
 have he := fltB_ok h1 hok
 exact ⟨h1, ht, hok, he, if_pos he⟩
end Go.Proofs.YtlinbkmpkcmniaaGreat.Bo
namespace Go.Proofs.YtlinbkmpkcmniaaGreat.Bo
open Go Go.Sx Go.RowKit
open Go.Sx.Tree (need branch leaf)
open Go.Sx.AV (lst ptr agg roI tup top)
end Go.Proofs.YtlinbkmpkcmniaaGreat.Bo
namespace Go.Proofs.YtlinbkmpkcmniaaGreat.Bo
open Go Go.Sx Go.RowKit
open Go.Sx.Tree (need branch leaf)
open Go.Sx.AV (lst ptr agg roI tup top)
def rdyB (c T lo hi : Int) (n : Nat) (a b u v : Nat → Int) : Bool := decide ((n : Int) ≤ 15) && decide (flt c T lo hi n a b u v = 0)
end Go.Proofs.YtlinbkmpkcmniaaGreat.Bo
namespace Go.Proofs.YtlinbkmpkcmniaaGreat.Bo
open Go Go.Sx Go.RowKit
open Go.Sx.Tree (need branch leaf)
open Go.Sx.AV (lst ptr agg roI tup top)
theorem allI_congr {p q : Nat → Bool} : ∀ {n : Nat}, (∀ j, j < n → p j = q j) → allI p n = allI q n
 | 0, _ => rfl
 | n + 1, h => by
  rw [Bool.eq_iff_iff, allI_iff, allI_iff]
  exact ⟨fun k j hj => by rw [← h j hj]; exact k j hj, fun k j hj => by rw [h j hj]; exact k j hj⟩
theorem flt_congr {c T lo hi : Int} {n : Nat} {a b u v a' b' u' v' : Nat → Int} (h : ∀ j, j < n → a j = a' j ∧ b j = b' j ∧ u j = u' j ∧ v j = v' j) : flt c T lo hi n a b u v = flt c T lo hi n a' b' u' v' := by
 unfold flt allR
 rw [allI_congr (q := fun k => rdB c (a' k) (b' k) (u' k) (v' k)) (fun j hj => by
  obtain ⟨h1, h2, h3, h4⟩ := h j hj
  rw [h1, h2, h3, h4])]
theorem eB_congr {c T lo hi : Int} {n : Nat} {a b u v a' b' u' v' : Nat → Int} (h : ∀ j, j < n → a j = a' j ∧ b j = b' j ∧ u j = u' j ∧ v j = v' j) : eB c T lo hi n a b u v = eB c T lo hi n a' b' u' v' ∧ lenB c T lo hi n a b u v = lenB c T lo hi n a' b' u' v' ∧ fwB c T lo hi n a b u v = fwB c T lo hi n a' b' u' v' ∧ dtB c T lo hi n a b u v = dtB c T lo hi n a' b' u' v' ∧ rdyB c T lo hi n a b u v = rdyB c T lo hi n a' b' u' v' := by
 have h1 : eB c T lo hi n a b u v = eB c T lo hi n a' b' u' v' := by
  unfold eB fltB okB
  rw [flt_congr h, okR_congr h]
 have h2 : fwB c T lo hi n a b u v = fwB c T lo hi n a' b' u' v' := by
  unfold fwB
  rw [fwM_congr h]
 refine ⟨h1, ?_, h2, ?_, ?_⟩
 ·unfold lenB
  rw [h1]
 ·unfold dtB sfB
  rw [h1, h2]
 ·unfold rdyB
  rw [flt_congr h]
theorem eB_or {c T lo hi : Int} {n : Nat} {a b u v : Nat → Int} (h : flt c T lo hi n a b u v = 0) : eB c T lo hi n a b u v = if okB c T lo hi n a b u v then 0 else 9 := by
 unfold eB fltB
 rw [if_pos h]
 rfl
end Go.Proofs.YtlinbkmpkcmniaaGreat.Bo
namespace Go.Proofs.YtlinbkmpkcmniaaGreat
open Go Go.Sx Go.RowKit Bo
open Go.Sx.Tree (need branch leaf)
open Go.Sx.AV (lst ptr agg roI tup top)
def usB (c u0 u1 wi : Int) : Bool := bt 0 u0 u1 && decide (u1 ≤ c) && bt 0 wi 1000
def vaB (c T lo hi : Int) (m : Nat) (p q : Nat → Int) (pl ph dl dh : Int) : Bool := decide (Pt.blE m p q pl ph = 0) && tubeB c T lo hi && insB 0 dl dh 100
def rdE (c T lo hi : Int) (n : Nat) (a b u v : Nat → Int) (m : Nat) (p q : Nat → Int) (pl ph dl dh : Int) : Int := if n > 12 ∨ m > 8 then 3 else if vaB c T lo hi m p q pl ph dl dh = true ∧ (eB c T lo hi n a b u v = 0 ∨ eB c T lo hi n a b u v = 9) then eB c T lo hi n a b u v else 1
def bdL (c T lo hi : Int) (n : Nat) (a b u v : Nat → Int) (m : Nat) (p q : Nat → Int) (pl ph : Int) (k : Nat) : Int := dnI (-(fwB c T lo hi n a b u v k 0) * Pt.boilI m p q pl) T
def bdH (c T lo hi : Int) (n : Nat) (a b u v : Nat → Int) (m : Nat) (p q : Nat → Int) (pl ph : Int) (k : Nat) : Int := upI (fwB c T lo hi n a b u v 0 k * Pt.boilI m p q ph) T
def wkF (pl ph dl dh : Int) (L H : Nat → Int) (k j : Nat) : Int := if j = 0 then pl else if j = 1 then ph else if j = 2 then dl else if j = 3 then dh else if j < 4 + 2 * k then (if j % 2 = 0 then L ((j - 4) / 2) else H ((j - 4) / 2)) else 0
def wkA (c T lo hi : Int) (n : Nat) (a b u v : Nat → Int) (m : Nat) (p q : Nat → Int) (pl ph dl dh : Int) : Nat → Int := wkF pl ph dl dh (bdL c T lo hi n a b u v m p q pl ph) (bdH c T lo hi n a b u v m p q pl ph) (c.toNat + 1)
theorem usB_iff {c u0 u1 wi : Int} : usB c u0 u1 wi = true ↔ (0 ≤ u0 ∧ u0 ≤ u1) ∧ u1 ≤ c ∧ 0 ≤ wi ∧ wi ≤ 1000 := by
 simp only [usB, Bool.and_eq_true, decide_eq_true_eq, bt_iff, and_assoc]
theorem tr_in {c : Nat} {T lo hi : Int} {n : Nat} {a b u v : Nat → Int} {h : Nat → Int} (hl : 0 ≤ lo) (k : Tr c T lo hi n a b u v h) {x : Nat} (hx : x ≤ c) : 0 ≤ h x ∧ h x ≤ T := by
 obtain ⟨h0, h1, h2, _⟩ := k
 have up : ∀ y, y ≤ c → 0 ≤ h y := by
  intro y
  induction y with
  | zero => intro _; omega
  | succ y ih =>
   intro hy
   have := h2 y (by omega)
   have := ih (by omega)
   omega
 have dn : ∀ d, d ≤ c → h (c - d) ≤ T := by
  intro d
  induction d with
  | zero => intro _; rw [Nat.sub_zero, h1]; exact Int.le_refl _
  | succ d ih =>
   intro hd
   have := h2 (c - (d + 1)) (by omega)
   rw [show c - (d + 1) + 1 = c - d by omega] at this
   have := ih (by omega)
   omega
 refine ⟨up x hx, ?_⟩
 have := dn (c - x) (by omega)
 rw [show c - (c - x) = x by omega] at this
 exact this
theorem ht_bd {c T lo hi : Int} {n : Nat} {a b u v : Nat → Int} (h : eB c T lo hi n a b u v = 0) {k : Nat} (hk : (k : Int) ≤ c) : 0 ≤ -(fwB c T lo hi n a b u v k 0) ∧ -(fwB c T lo hi n a b u v k 0) ≤ fwB c T lo hi n a b u v 0 k ∧ fwB c T lo hi n a b u v 0 k ≤ T := by
 obtain ⟨h1, _, h3⟩ := fltB_iff.1 h
 have hf := flt_iff.1 h1
 have hb := tube_bd hf.1
 have hr := rdOk_of hb.1 hf.2.2
 have tl := tr_lo hb.2.1 hr h3
 have th := tr_hi hb.2.1 hr h3
 have g1 := tr_in (by omega) tl (x := k) (by omega)
 have g2 := tr_in (by omega) th (x := k) (by omega)
 have g3 := tr_bd hb.2.1 hr tl (x := k) (by omega)
 unfold fwB
 omega
theorem va_iff {c T lo hi : Int} {m : Nat} {p q : Nat → Int} {pl ph dl dh : Int} : vaB c T lo hi m p q pl ph dl dh = true ↔ Pt.blE m p q pl ph = 0 ∧ tubeB c T lo hi = true ∧ 0 ≤ dl ∧ dl ≤ dh ∧ dh ≤ 100 := by
 simp only [vaB, Bool.and_eq_true, decide_eq_true_eq, insB_iff, and_assoc]
theorem st_bd {m : Nat} {p q : Nat → Int} {pl ph : Int} (h : Pt.blE m p q pl ph = 0) : (1 ≤ Pt.boilI m p q pl ∧ Pt.boilI m p q pl ≤ 2000) ∧ (1 ≤ Pt.boilI m p q ph ∧ Pt.boilI m p q ph ≤ 2000) ∧ Pt.boilI m p q pl ≤ Pt.boilI m p q ph ∧ Pt.blLo m p q pl ph = Pt.boilI m p q pl ∧ Pt.blHi m p q pl ph = Pt.boilI m p q ph := by
 obtain ⟨h1, h2, h3, h4, h5, h6⟩ := Pt.blE_ok h
 have a1 := Pt.boil_spec (x := pl) h1 h3 (by omega)
 have a2 := Pt.boil_spec (x := ph) h1 h3 (by omega)
 have a3 := Pt.boil_mono h1 h3 h4 h5 h6
 exact ⟨by omega, by omega, a3, if_pos h, if_pos h⟩
theorem pr_bd {x y X Y : Int} (hx : 0 ≤ x ∧ x ≤ X) (hy : 0 ≤ y ∧ y ≤ Y) : 0 ≤ x * y ∧ x * y ≤ X * Y := by
 have h1 := Int.mul_nonneg hx.1 hy.1
 have h2 := Int.mul_le_mul hx.2 hy.2 hy.1 (show 0 ≤ X by omega)
 omega
theorem use_at (c T lo hi : Int) (n : Nat) (a b u v : Nat → Int) (m : Nat) (p q : Nat → Int) (pl ph dl dh u0 u1 wi : Int) : SoundAt Tryz.prog 110 [.agg [i c, i T, i lo, i hi, rds n a b u v, Pt.scs m p q, i pl, i ph, i dl, i dh], .agg [i u0, i u1, i wi]] (bl (usB c u0 u1 wi)) := by
 refine soundAt_fin (G := [(66, S_within)]) (L := []) (SoundG.cons within_ok (SoundG.nil _)) mixed Tryz.func110 (show Tryz.f110.body = some (bodyOf Tryz.f110) by kernel_rfl) noLoops (t := (branch (bt (0 : Int) u0 u1) (branch (decide (u1 ≤ c)) (leaf (RV.x (Value.bool (bt (0 : Int) wi (1000 : Int))))) (leaf (RV.x (Value.bool false)))) (leaf (RV.x (Value.bool false))))) (by kernel_rfl) ?_
 simp only [Tree.sat, allP, fitP, fitL, valEq, true_and, and_true]
 all_goals (simp +contextual [usB, Bool.and_assoc])
 all_goals omega
def S_use : Sx.Spec := fun l => match l with
 | [.agg [.x (.int .i64 c), .x (.int .i64 T), .x (.int .i64 lo), .x (.int .i64 hi), .lst 4 n fr, .lst 2 m ft, .x (.int .i64 pl), .x (.int .i64 ph), .x (.int .i64 dl), .x (.int .i64 dh)], .agg [.x (.int .i64 u0), .x (.int .i64 u1), .x (.int .i64 wi)]] => some ([isRec 4 n fr, isRec 2 m ft], bl (usB c u0 u1 wi))
 | _ => none
theorem use_ok : SoundSpec Tryz.prog 110 S_use := by
 refine ⟨⟨_, Tryz.func110, by kernel_rfl, by kernel_rfl⟩, ?_⟩
 intro avs ns res h hn
 unfold S_use at h
 split at h
 ·cases h
  have hr : isRec 4 _ _ := hn _ List.mem_cons_self
  have ht : isRec 2 _ _ := hn _ (List.mem_cons_of_mem _ List.mem_cons_self)
  exact (use_at _ _ _ _ _ _ _ _ _ _ _ _ _ _ _ _ _ _ _ ).same (.cons (Sames.same (.cons (.refl _) (.cons (.refl _) (.cons (.refl _) (.cons (.refl _) (.cons (.lst 4 _ _ _ hr) (.cons (.lst 2 _ _ _ ht) (.cons (.refl _) (.cons (.refl _) (.cons (.refl _) (.cons (.refl _) .nil))))))))))) (.cons (.refl _) .nil))
 ·cases h
theorem valid_at (c T lo hi : Int) (n : Nat) (a b u v : Nat → Int) (m : Nat) (p q : Nat → Int) (pl ph dl dh : Int) (pre0 : m ≤ 100000) : SoundAt Tryz.prog 98 [.agg [i c, i T, i lo, i hi, rds n a b u v, Pt.scs m p q, i pl, i ph, i dl, i dh]] (.tup [.agg [i (Pt.blLo m p q pl ph), i (Pt.blHi m p q pl ph)], bl (vaB c T lo hi m p q pl ph dl dh)]) := by
 refine soundAt_finX (G := [(124, Pt.S_Boils), (125, Bo.S_CheckTube), (117, S_inside)]) (X := {}) (L := []) (SoundG.cons Pt.Boils_ok (SoundG.cons Bo.CheckTube_ok (SoundG.cons inside_ok (SoundG.nil _)))) (SoundX.of (SoundRL.nil _) (SoundHL.nil _)) mixed Tryz.func98 (show Tryz.f98.body = some (bodyOf Tryz.f98) by kernel_rfl) noLoopsS (t := (let z0 := (leaf (RV.tup [RV.agg [RV.x (Value.int IntKind.i64 (Pt.blLo m p q pl ph)), RV.x (Value.int IntKind.i64 (Pt.blHi m p q pl ph))], RV.x (Value.bool false)])); (need [isRec 2 m fun k => [Pt.i (p k), Pt.i (q k)], m ≤ 100000] (branch (Pt.blE m p q pl ph == (0 : Int)) (branch ((if tubeB c T lo hi = true then (0 : Int) else (1 : Int)) == (0 : Int)) (leaf (RV.tup [RV.agg [RV.x (Value.int IntKind.i64 (Pt.blLo m p q pl ph)), RV.x (Value.int IntKind.i64 (Pt.blHi m p q pl ph))], RV.x (Value.bool (insB (0 : Int) dl dh (100 : Int)))])) z0) z0)))) (by kernel_rfl) ?_
 simp only [Tree.sat, allP, fitP, fitL, valEq, true_and, and_true, beq_iff_eq, beq_eq_false_iff_ne]
 refine ⟨⟨Pt.isRec2 m p q, pre0⟩, fun h1 => ⟨fun h2 => ?_, fun h2 => ?_⟩, fun h1 => ?_⟩
 ·cases ht : tubeB c T lo hi
  ·rw [ht] at h2; simp at h2
  ·simp [vaB, h1, ht]
 ·cases ht : tubeB c T lo hi
  ·simp [vaB, ht]
  ·rw [ht] at h2; simp at h2
 ·simp [vaB, h1]
def S_valid : Sx.Spec := fun l => match l with
 | [.agg [.x (.int .i64 c), .x (.int .i64 T), .x (.int .i64 lo), .x (.int .i64 hi), .lst 4 n fr, .lst 2 m ft, .x (.int .i64 pl), .x (.int .i64 ph), .x (.int .i64 dl), .x (.int .i64 dh)]] => some ([isRec 4 n fr, isRec 2 m ft, m ≤ 100000], .tup [.agg [i (Pt.blLo m (Pt.col 0 ft) (Pt.col 1 ft) pl ph), i (Pt.blHi m (Pt.col 0 ft) (Pt.col 1 ft) pl ph)], bl (vaB c T lo hi m (Pt.col 0 ft) (Pt.col 1 ft) pl ph dl dh)])
 | _ => none
theorem valid_ok : SoundSpec Tryz.prog 98 S_valid := by
 refine ⟨⟨_, Tryz.func98, by kernel_rfl, by kernel_rfl⟩, ?_⟩
 intro avs ns res h hn
 unfold S_valid at h
 split at h
 ·cases h
  have hr : isRec 4 _ _ := hn _ List.mem_cons_self
  have ht : isRec 2 _ _ := hn _ (List.mem_cons_of_mem _ List.mem_cons_self)
  exact (valid_at _ _ _ _ _ _ _ _ _ _ _ _ _ _ _ _  (hn _ (by simp))).same (.cons (Sames.same (.cons (.refl _) (.cons (.refl _) (.cons (.refl _) (.cons (.refl _) (.cons (.lst 4 _ _ _ hr) (.cons (.lst 2 _ _ _ ht) (.cons (.refl _) (.cons (.refl _) (.cons (.refl _) (.cons (.refl _) .nil))))))))))) .nil)
 ·cases h
end Go.Proofs.YtlinbkmpkcmniaaGreat
namespace Go.Proofs.YtlinbkmpkcmniaaGreat
open Go Go.Sx Go.RowKit Bo
open Go.Sx.Tree (need branch leaf)
open Go.Sx.AV (lst ptr agg roI tup top)
theorem wk_step {pl ph dl dh : Int} {L H : Nat → Int} {k j : Nat} : updL (4 + 2 * k) [L k, H k] (wkF pl ph dl dh L H k) j = wkF pl ph dl dh L H (k + 1) j := by
 simp only [updL, updI]
 unfold wkF
 by_cases h1 : j = 4 + 2 * k + 1
 ·rw [if_pos h1, if_neg (by omega), if_neg (by omega), if_neg (by omega), if_neg (by omega), if_pos (by omega), if_neg (by omega), show (j - 4) / 2 = k by omega]
 ·rw [if_neg h1]
  by_cases h2 : j = 4 + 2 * k
  ·rw [if_pos h2, if_neg (by omega), if_neg (by omega), if_neg (by omega), if_neg (by omega), if_pos (by omega), if_pos (by omega), show (j - 4) / 2 = k by omega]
  ·rw [if_neg h2]
   by_cases h3 : j < 4 + 2 * k
   ·rw [if_pos h3, if_pos (show j < 4 + 2 * (k + 1) by omega)]
   ·rw [if_neg h3, if_neg (show ¬ j < 4 + 2 * (k + 1) by omega)]
theorem wk_zero {pl ph dl dh : Int} {L H : Nat → Int} {j : Nat} (hj : j < 26) : nthJ [pl, ph, dl, dh, 0, 0, 0, 0, 0, 0, 0, 0, 0, 0, 0, 0, 0, 0, 0, 0, 0, 0, 0, 0, 0, 0] j = wkF pl ph dl dh L H 0 j := by
 rcases (show j = 0 ∨ j = 1 ∨ j = 2 ∨ j = 3 ∨ j = 4 ∨ j = 5 ∨ j = 6 ∨ j = 7 ∨ j = 8 ∨ j = 9 ∨ j = 10 ∨ j = 11 ∨ j = 12 ∨ j = 13 ∨ j = 14 ∨ j = 15 ∨ j = 16 ∨ j = 17 ∨ j = 18 ∨ j = 19 ∨ j = 20 ∨ j = 21 ∨ j = 22 ∨ j = 23 ∨ j = 24 ∨ j = 25 by omega) with rfl | rfl | rfl | rfl | rfl | rfl | rfl | rfl | rfl | rfl | rfl | rfl | rfl | rfl | rfl | rfl | rfl | rfl | rfl | rfl | rfl | rfl | rfl | rfl | rfl | rfl <;> rfl
noncomputable def E_rl (c T lo hi : Int) (n : Nat) (a b u v : Nat → Int) (m : Nat) (p q : Nat → Int) (pl ph dl dh : Int) : St := (some { σ := [agg [iI c, iI T, iI lo, iI hi, lst 4 n fun k => [iI (a k), iI (b k), iI (u k), iI (v k)], lst 2 m fun k => [iI (p k), iI (q k)], iI pl, iI ph, iI dl, iI dh], ptr 0 0, AV.x (Value.pointer none), iI (0 : Int), ptr 18 0, AV.x (Value.bool (vaB c T lo hi m p q pl ph dl dh)), lst 2 (lenB c T lo hi n a b u v) fun k => [iI (-fwB c T lo hi n a b u v k 0), iI (fwB c T lo hi n a b u v 0 k)], iI (eB c T lo hi n a b u v), ptr 45 0] ++ tpL 43 [lst 2 (lenB c T lo hi n a b u v) fun k => [iI (-fwB c T lo hi n a b u v k 0), iI (fwB c T lo hi n a b u v 0 k)], iI (↑(lenB c T lo hi n a b u v) : Int)] ++ tpL 31 [], m := [(45, Res.ints 173 [iI c, iI T, iI lo, iI hi, lst 4 n fun k => [iI (a k), iI (b k), iI (u k), iI (v k)], lst 2 m fun k => [iI (p k), iI (q k)]] 26 fun a => nthJ [pl, ph, dl, dh, 0, 0, 0, 0, 0, 0, 0, 0, 0, 0, 0, 0, 0, 0, 0, 0, 0, 0, 0, 0, 0, 0] a), (18, Res.cells 36 [iI (Pt.blLo m p q pl ph), iI (Pt.blHi m p q pl ph)]), (0, Res.cells 47 [iI c, iI T, iI lo, iI hi, lst 4 n fun k => [iI (a k), iI (b k), iI (u k), iI (v k)], lst 2 m fun k => [iI (p k), iI (q k)], iI pl, iI ph, iI dl, iI dh])], nx := 50 } : Option St).getD { σ := [], m := [], nx := 0 }
noncomputable def B_rl : Code := loopBody (loopAt (bodyOf Tryz.f64) 0)
noncomputable def inv_rl (c T lo hi : Int) (n : Nat) (a b u v : Nat → Int) (m : Nat) (p q : Nat → Int) (pl ph dl dh : Int) (k : Nat) : St := { σ := ovrS [(54, i k)] (E_rl c T lo hi n a b u v m p q pl ph dl dh).σ, m := [(45, .ints 173 [i c, i T, i lo, i hi, rds n a b u v, Pt.scs m p q] 26 (wkF pl ph dl dh (bdL c T lo hi n a b u v m p q pl ph) (bdH c T lo hi n a b u v m p q pl ph) k)), (18, .cells 36 [i (Pt.boilI m p q pl), i (Pt.boilI m p q ph)]), (0, .cells 47 [i c, i T, i lo, i hi, rds n a b u v, Pt.scs m p q, i pl, i ph, i dl, i dh])], nx := (E_rl c T lo hi n a b u v m p q pl ph dl dh).nx }
noncomputable def out_rl (c T lo hi : Int) (n : Nat) (a b u v : Nat → Int) (m : Nat) (p q : Nat → Int) (pl ph dl dh : Int) (k : Nat) : AEx → Option St := fun ex => match ex with
 | .exit 1 => some { σ := ovrS [(54, i ((c.toNat + 1 : Nat) : Int))] (E_rl c T lo hi n a b u v m p q pl ph dl dh).σ, m := [(45, .ints 173 [i c, i T, i lo, i hi, rds n a b u v, Pt.scs m p q] 26 (wkF pl ph dl dh (bdL c T lo hi n a b u v m p q pl ph) (bdH c T lo hi n a b u v m p q pl ph) (c.toNat + 1))), (18, .cells 36 [i (Pt.boilI m p q pl), i (Pt.boilI m p q ph)]), (0, .cells 47 [i c, i T, i lo, i hi, rds n a b u v, Pt.scs m p q, i pl, i ph, i dl, i dh])], nx := (E_rl c T lo hi n a b u v m p q pl ph dl dh).nx }
 | _ => none
noncomputable def T_rl (c T lo hi : Int) (n : Nat) (a b u v : Nat → Int) (m : Nat) (p q : Nat → Int) (pl ph dl dh : Int) : CT := .leaf (.exit 1, ( out_rl c T lo hi n a b u v m p q pl ph dl dh 0 (.exit 1)).getD (E_rl c T lo hi n a b u v m p q pl ph dl dh))
noncomputable def LS_rl (c T lo hi : Int) (n : Nat) (a b u v : Nat → Int) (m : Nat) (p q : Nat → Int) (pl ph dl dh : Int) : LSpec := normSp [] (sumL (inv_rl c T lo hi n a b u v m p q pl ph dl dh (0)) (T_rl c T lo hi n a b u v m p q pl ph dl dh))
theorem rl_ls (c T lo hi : Int) (n : Nat) (a b u v : Nat → Int) (m : Nat) (p q : Nat → Int) (pl ph dl dh : Int) (pre0 : n ≤ 12) (pre1 : m ≤ 8) (pre2 : vaB c T lo hi m p q pl ph dl dh = true) (pre3 : eB c T lo hi n a b u v = 0) : LSound Tryz.prog (.loop B_rl) (LS_rl c T lo hi n a b u v m p q pl ph dl dh) := by
 refine loop_roundsX [] (E := {}) (G := [(98, S_valid), (70, Bo.S_Heights), (99, S_down), (100, S_up)]) (L := []) (SoundG.cons valid_ok (SoundG.cons Bo.Heights_ok (SoundG.cons down_ok (SoundG.cons up_ok (SoundG.nil _))))) (SoundX.of (SoundRL.nil _) (SoundHL.nil _)) mixed noLoops (X := Nat) (inv_rl c T lo hi n a b u v m p q pl ph dl dh) (fun k => k ≤ c.toNat + 1) (fun k => c.toNat + 1 - k) (out_rl c T lo hi n a b u v m p q pl ph dl dh) (x0 := 0) (by simp) ?_ ?_ ?_
 ·rintro k
  kernel_rfl
 ·rintro k y E h
  unfold out_rl at h
  split at h
  ·cases h; kernel_rfl
  ·cases h
 ·rintro Q hQ k hx
  refine ⟨(k + 1), ?_⟩
  have e : roundX Tryz.prog [(98, S_valid), (70, Bo.S_Heights), (99, S_down), (100, S_up)] {} [] [] B_rl (inv_rl c T lo hi n a b u v m p q pl ph dl dh k) (inv_rl c T lo hi n a b u v m p q pl ph dl dh ((k + 1))) (out_rl c T lo hi n a b u v m p q pl ph dl dh k) = (let z0 := fwB c T lo hi n a b u v; let z1 := (lenB c T lo hi n a b u v); let z2 := (agg [iI c, iI T, iI lo, iI hi, lst 4 n (rq4 a b u v), lst 2 m fun k => [iI (p k), iI (q k)], iI pl, iI ph, iI dl, iI dh]); let z3 := (bdL c T lo hi n a b u v m p q pl ph); let z4 := (bdH c T lo hi n a b u v m p q pl ph); let z5 := Pt.boilI m p q pl; let z6 := Pt.boilI m p q ph; let z7 := wkF pl ph dl dh z3 z4; let z8 := (lst 2 z1 fun k => [iI (-z0 k 0), iI (z0 0 k)]); (branch (decide ((↑k : Int) < (↑z1 : Int))) (need [(0 : Int) ≤ (↑k : Int) ∧ (↑k : Int) < (↑z1 : Int)] (need [inI64 (-z0 k 0 * z5)] (need [(1 : Int) ≤ T ∧ T ≤ (100000 : Int), (0 : Int) ≤ -z0 k 0 * z5 ∧ -z0 k 0 * z5 ≤ (1000000000000 : Int)] (need [inI64 (z0 0 k * z6)] (need [(1 : Int) ≤ T ∧ T ≤ (100000 : Int), (0 : Int) ≤ z0 0 k * z6 ∧ z0 0 k * z6 ≤ (1000000000000 : Int)] (need [(0 : Int) ≤ (↑k : Int) ∧ (↑k : Int) < (↑(11 : Nat) : Int)] (need [k * 2 + 10 - 1 - 1 - 1 - 1 - 1 - 1 + List.length [dnI (-z0 k 0 * z5) T, upI (z0 0 k * z6) T] ≤ 26] (need [inI64 ((↑k : Int) + 1)] (need [Eq1 z2, Eq1 (ptr 0 0), Eq1 (AV.x (Value.pointer none)), Eq1 (0 : Int), Eq1 (ptr 18 0), Eq1 (vaB c T lo hi m p q pl ph dl dh), z8 = lst 2 z1 fun k => [iI (-z0 k 0), iI (z0 0 k)], Eq1 (eB c T lo hi n a b u v), Eq1 (ptr 45 0), z8 = lst 2 z1 fun k => [iI (-z0 k 0), iI (z0 0 k)], Eq1 (↑z1 : Int), (↑k : Int) + 1 = (↑(k + 1) : Int), c = c, T = T, lo = lo, hi = hi, (lst 4 n (rq4 a b u v)) = lst 4 n (rq4 a b u v), (lst 2 m fun k => [iI (p k), iI (q k)]) = lst 2 m fun k => [iI (p k), iI (q k)], 26 = 26, ∀ (k_1 : Nat), k_1 < 26 → updI (k * 2 + 10 - 1 - 1 - 1 - 1 - 1 - 1 + 1) (upI (z0 0 k * z6) T) (updI (k * 2 + 10 - 1 - 1 - 1 - 1 - 1 - 1) (dnI (-z0 k 0 * z5) T) (z7 k)) k_1 = z7 (k + 1) k_1, Eq1 (z5), Eq1 (z6), c = c, T = T, lo = lo, hi = hi, (lst 4 n (rq4 a b u v)) = lst 4 n (rq4 a b u v), (lst 2 m fun k => [iI (p k), iI (q k)]) = lst 2 m fun k => [iI (p k), iI (q k)], pl = pl, ph = ph, dl = dl, dh = dh] (leaf AEx.normal)))))))))) (need [Eq1 z2, Eq1 (ptr 0 0), Eq1 (AV.x (Value.pointer none)), Eq1 (0 : Int), Eq1 (ptr 18 0), Eq1 (vaB c T lo hi m p q pl ph dl dh), z8 = lst 2 z1 fun k => [iI (-z0 k 0), iI (z0 0 k)], Eq1 (eB c T lo hi n a b u v), Eq1 (ptr 45 0), z8 = lst 2 z1 fun k => [iI (-z0 k 0), iI (z0 0 k)], Eq1 (↑z1 : Int), (↑k : Int) = (↑(Int.toNat c + 1) : Int), c = c, T = T, lo = lo, hi = hi, (lst 4 n (rq4 a b u v)) = lst 4 n (rq4 a b u v), (lst 2 m fun k => [iI (p k), iI (q k)]) = lst 2 m fun k => [iI (p k), iI (q k)], 26 = 26, ∀ (k_1 : Nat), k_1 < 26 → z7 k k_1 = z7 (Int.toNat c + 1) k_1, Eq1 (z5), Eq1 (z6), c = c, T = T, lo = lo, hi = hi, (lst 4 n (rq4 a b u v)) = lst 4 n (rq4 a b u v), (lst 2 m fun k => [iI (p k), iI (q k)]) = lst 2 m fun k => [iI (p k), iI (q k)], pl = pl, ph = ph, dl = dl, dh = dh] (leaf (AEx.exit 1))))) := by kernel_rfl
  rw [e]
  simp only [T_rl, out_rl, Tree.sat, Option.getD_some] at hQ
  have hv := va_iff.1 pre2
  have hb := tube_bd hv.2.1
  have hs := st_bd hv.1
  have hl : lenB c T lo hi n a b u v = c.toNat + 1 := if_pos pre3
  simp only [Tree.sat, allP, fitP, fitL, valEq, inI64, true_and, and_true, decide_eq_true_eq, decide_eq_false_iff_not, Int.toNat_natCast, List.length_cons, List.length_nil, hl]
  clear e
  refine ⟨fun h => ?_, fun h => ?_⟩
  ·have hk := ht_bd pre3 (k := k) (by omega)
   have m1 := pr_bd (x := -(fwB c T lo hi n a b u v k 0)) (y := Pt.boilI m p q pl) (X := 2000) (Y := 2000) (by omega) (by omega)
   have m2 := pr_bd (x := fwB c T lo hi n a b u v 0 k) (y := Pt.boilI m p q ph) (X := 2000) (Y := 2000) (by omega) (by omega)
   have e6 : k * 2 + 10 - 1 - 1 - 1 - 1 - 1 - 1 = 4 + 2 * k := by omega
   rw [e6]
   (repeat' first | with_reducible apply And.intro | with_reducible intro _)
   all_goals first | exact True.intro | omega | with_reducible rfl | exact wk_step
  ·obtain rfl : k = c.toNat + 1 := by omega
   (repeat' first | with_reducible apply And.intro | with_reducible intro _)
   all_goals first | exact True.intro | omega | with_reducible rfl | (rename_i E hE; cases hE; exact hQ)
theorem read_at (c T lo hi : Int) (n : Nat) (a b u v : Nat → Int) (m : Nat) (p q : Nat → Int) (pl ph dl dh : Int) : SoundCAt Tryz.prog 64 [.agg [i c, i T, i lo, i hi, rds n a b u v, Pt.scs m p q, i pl, i ph, i dl, i dh]] (.branch (decide (rdE c T lo hi n a b u v m p q pl ph dl dh = 0)) (.leaf (.tup [.roI [i c, i T, i lo, i hi, rds n a b u v, Pt.scs m p q] 26 (wkA c T lo hi n a b u v m p q pl ph dl dh) 0, i 0])) (.leaf (.tup [.x (.pointer none), i (rdE c T lo hi n a b u v m p q pl ph dl dh)]))) := by
 refine soundCAt_fin (G := [(98, S_valid), (70, Bo.S_Heights), (99, S_down), (100, S_up)]) (X := {}) (L := [needSp [n ≤ 12, m ≤ 8, vaB c T lo hi m p q pl ph dl dh = true, eB c T lo hi n a b u v = 0] (LS_rl c T lo hi n a b u v m p q pl ph dl dh)]) (SoundG.cons valid_ok (SoundG.cons Bo.Heights_ok (SoundG.cons down_ok (SoundG.cons up_ok (SoundG.nil _))))) (SoundX.of (SoundRL.nil _) (SoundHL.nil _)) mixed Tryz.func64 (show Tryz.f64.body = some (bodyOf Tryz.f64) by kernel_rfl) (one_loop (lpE (b := .loop B_rl) (by kernel_rfl) <| (needSp_sound (ps := [n ≤ 12, m ≤ 8, vaB c T lo hi m p q pl ph dl dh = true, eB c T lo hi n a b u v = 0]) (fun h => rl_ls c T lo hi n a b u v m p q pl ph dl dh h.1 h.2.1 h.2.2.1 h.2.2.2)).N)) (t := (let z0 := fwB c T lo hi n a b u v; let z1 := (leaf (tup [roI [iI c, iI T, iI lo, iI hi, lst 4 n (rq4 a b u v), lst 2 m fun k => [iI (p k), iI (q k)]] 26 (fun j => wkF pl ph dl dh (bdL c T lo hi n a b u v m p q pl ph) (bdH c T lo hi n a b u v m p q pl ph) (Int.toNat c + 1) j) 0, iI (0 : Int)])); let z2 := (lenB c T lo hi n a b u v); let z3 := eB c T lo hi n a b u v; let z4 := (agg [iI c, iI T, iI lo, iI hi, lst 4 n (rq4 a b u v), lst 2 m fun k => [iI (p k), iI (q k)], iI pl, iI ph, iI dl, iI dh]); let z5 := vaB c T lo hi m p q pl ph dl dh; let z6 := (leaf (tup [AV.x (Value.pointer none), iI (3 : Int)])); let z7 := (leaf (tup [AV.x (Value.pointer none), iI (1 : Int)])); let z8 := (leaf (tup [AV.x (Value.pointer none), iI (z3)])); let z9 := (lst 2 z2 fun k => [iI (-z0 k 0), iI (z0 0 k)]); (branch (decide ((↑n : Int) > (12 : Int))) z6 (branch (decide ((↑m : Int) > (8 : Int))) z6 (need [isRec 4 n fun k => [Bo.i (a k), Bo.i (b k), Bo.i (u k), Bo.i (v k)], isRec 2 m fun k => [Pt.i (p k), Pt.i (q k)], m ≤ 100000] (need [isRec 4 n fun k => [Bo.i (a k), Bo.i (b k), Bo.i (u k), Bo.i (v k)]] (branch (!z5) z7 (branch (z3 != (0 : Int)) (branch (z3 != (9 : Int)) z7 (branch (z3 != (0 : Int)) z8 (need [n ≤ 12, m ≤ 8, z5 = true, z3 = (0 : Int)] (need [Eq1 z4, Eq1 (ptr 0 0), Eq1 (AV.x (Value.pointer none)), Eq1 (0 : Int), Eq1 (ptr 18 0), Eq1 (z5), z9 = lst 2 z2 fun k => [iI (-z0 k 0), iI (z0 0 k)], Eq1 (z3), ptr 47 0 = ptr 45 0, z9 = lst 2 z2 fun k => [iI (-z0 k 0), iI (z0 0 k)], Eq1 (↑z2 : Int), (0 : Int) = (↑(0 : Nat) : Int), False, Pt.blLo m p q pl ph = Pt.boilI m p q pl, Pt.blHi m p q pl ph = Pt.boilI m p q ph, c = c, T = T, lo = lo, hi = hi, (lst 4 n (rq4 a b u v)) = lst 4 n (rq4 a b u v), (lst 2 m fun k => [iI (p k), iI (q k)]) = lst 2 m fun k => [iI (p k), iI (q k)], pl = pl, ph = ph, dl = dl, dh = dh] z1)))) (branch (z3 != (0 : Int)) z8 (need [n ≤ 12, m ≤ 8, z5 = true, z3 = (0 : Int)] (need [Eq1 z4, Eq1 (ptr 0 0), Eq1 (AV.x (Value.pointer none)), Eq1 (0 : Int), Eq1 (ptr 18 0), Eq1 (z5), z9 = lst 2 z2 fun k => [iI (-z0 k 0), iI (z0 0 k)], Eq1 (z3), Eq1 (ptr 45 0), z9 = lst 2 z2 fun k => [iI (-z0 k 0), iI (z0 0 k)], Eq1 (↑z2 : Int), (0 : Int) = (↑(0 : Nat) : Int), c = c, T = T, lo = lo, hi = hi, (lst 4 n (rq4 a b u v)) = lst 4 n (rq4 a b u v), (lst 2 m fun k => [iI (p k), iI (q k)]) = lst 2 m fun k => [iI (p k), iI (q k)], List.length [pl, ph, dl, dh, 0, 0, 0, 0, 0, 0, 0, 0, 0, 0, 0, 0, 0, 0, 0, 0, 0, 0, 0, 0, 0, 0] = 26, ∀ (k : Nat), k < 26 → nthJ [pl, ph, dl, dh, 0, 0, 0, 0, 0, 0, 0, 0, 0, 0, 0, 0, 0, 0, 0, 0, 0, 0, 0, 0, 0, 0] k = wkF pl ph dl dh (bdL c T lo hi n a b u v m p q pl ph) (bdH c T lo hi n a b u v m p q pl ph) 0 k, Pt.blLo m p q pl ph = Pt.boilI m p q pl, Pt.blHi m p q pl ph = Pt.boilI m p q ph, c = c, T = T, lo = lo, hi = hi, (lst 4 n (rq4 a b u v)) = lst 4 n (rq4 a b u v), (lst 2 m fun k => [iI (p k), iI (q k)]) = lst 2 m fun k => [iI (p k), iI (q k)], pl = pl, ph = ph, dl = dl, dh = dh] z1))))))))))) (by kernel_rfl) ?_
 intro Q hQ
 have e3 : (n > 12 ∨ m > 8) → rdE c T lo hi n a b u v m p q pl ph dl dh = 3 := fun h => if_pos h
 have e1 : ¬ (n > 12 ∨ m > 8) → ¬ (vaB c T lo hi m p q pl ph dl dh = true ∧ (eB c T lo hi n a b u v = 0 ∨ eB c T lo hi n a b u v = 9)) → rdE c T lo hi n a b u v m p q pl ph dl dh = 1 := fun h h' => by
  unfold rdE
  rw [if_neg h, if_neg h']
 have e0 : ¬ (n > 12 ∨ m > 8) → vaB c T lo hi m p q pl ph dl dh = true → (eB c T lo hi n a b u v = 0 ∨ eB c T lo hi n a b u v = 9) → rdE c T lo hi n a b u v m p q pl ph dl dh = eB c T lo hi n a b u v := fun h h' h'' => by
  unfold rdE
  rw [if_neg h, if_pos ⟨h', h''⟩]
 simp only [Tree.sat, allP, true_and, and_true, decide_eq_true_eq, decide_eq_false_iff_not, bne_iff_ne, ne_eq, bne_eq_false_iff_eq, Bool.not_eq_true', Bool.not_eq_false'] at hQ ⊢
 have bad : ∀ k : Int, k ≠ 0 → rdE c T lo hi n a b u v m p q pl ph dl dh = k → ∃ r', repP (.tup [.x (.pointer none), i k]) r' ∧ Q r' := fun k hk he => by
  rw [he] at hQ
  exact ⟨.tup [.x (.pointer none), i k], ⟨rfl, ⟨rfl, rfl⟩, True.intro⟩, hQ.2 hk⟩
 refine ⟨fun h1 => bad 3 (by omega) (e3 (by omega)), fun h1 => ⟨fun h2 => bad 3 (by omega) (e3 (by omega)), fun h2 => ⟨⟨Bo.isRec4 n a b u v, Pt.isRec2 m p q, by omega⟩, Bo.isRec4 n a b u v, fun h3 => bad 1 (by omega) (e1 (by omega) (by rw [h3]; simp)), fun h3 => ⟨fun h4 => ⟨fun h5 => bad 1 (by omega) (e1 (by omega) (by omega)), fun h5 => ⟨fun h6 => bad _ h4 (e0 (by omega) h3 (.inr h5)), fun h6 => absurd h6 h4⟩⟩, fun h4 => ⟨fun h5 => absurd h4 h5, fun _ => ?_⟩⟩⟩⟩⟩
 have hv := va_iff.1 h3
 have hs := st_bd hv.1
 refine ⟨⟨by omega, by omega, h3, h4⟩, ⟨rfl, rfl, fun j hj => wk_zero hj, hs.2.2.2.1, hs.2.2.2.2⟩, .tup [.roI [i c, i T, i lo, i hi, rds n a b u v, Pt.scs m p q] 26 (wkA c T lo hi n a b u v m p q pl ph dl dh) 0, i 0], ⟨⟨rfl, rfl, fun _ _ => rfl, rfl⟩, ⟨rfl, rfl⟩, True.intro⟩, hQ.1 ((e0 (by omega) h3 (.inl h4)).trans h4)⟩
end Go.Proofs.YtlinbkmpkcmniaaGreat
namespace Go.Proofs.YtlinbkmpkcmniaaGreat
open Go Go.Sx Go.RowKit Bo
open Go.Sx.Tree (need branch leaf)
open Go.Sx.AV (lst ptr agg roI tup top)
noncomputable def C_read : CSpec := fun l => match l with
 | [.agg [.x (.int .i64 c), .x (.int .i64 T), .x (.int .i64 lo), .x (.int .i64 hi), .lst 4 n fr, .lst 2 m ft, .x (.int .i64 pl), .x (.int .i64 ph), .x (.int .i64 dl), .x (.int .i64 dh)]] => some (.need [isRec 4 n fr, isRec 2 m ft] (.branch (decide (rdE c T lo hi n (col 0 fr) (col 1 fr) (col 2 fr) (col 3 fr) m (Pt.col 0 ft) (Pt.col 1 ft) pl ph dl dh = 0)) (.leaf (.tup [.roI [i c, i T, i lo, i hi, rds n (col 0 fr) (col 1 fr) (col 2 fr) (col 3 fr), Pt.scs m (Pt.col 0 ft) (Pt.col 1 ft)] 26 (wkA c T lo hi n (col 0 fr) (col 1 fr) (col 2 fr) (col 3 fr) m (Pt.col 0 ft) (Pt.col 1 ft) pl ph dl dh) 0, i 0])) (.leaf (.tup [.x (.pointer none), i (rdE c T lo hi n (col 0 fr) (col 1 fr) (col 2 fr) (col 3 fr) m (Pt.col 0 ft) (Pt.col 1 ft) pl ph dl dh)]))))
 | _ => none
theorem read_okC : Sx.Enters Tryz.prog 64 ∧ ∀ avs t, C_read avs = some t → SoundCAt Tryz.prog 64 avs t := by
 refine ⟨⟨_, Tryz.func64, by kernel_rfl, by kernel_rfl⟩, ?_⟩
 intro avs t h
 unfold C_read at h
 split at h
 ·cases h
  intro Q hQ
  have hr : isRec 4 _ _ := allP_mem hQ.1 _ List.mem_cons_self
  have ht : isRec 2 _ _ := allP_mem hQ.1 _ (List.mem_cons_of_mem _ List.mem_cons_self)
  exact SoundCAt.same (read_at _ _ _ _ _ _ _ _ _ _ _ _ _ _ _ _ ) (.cons (Sames.same (.cons (.refl _) (.cons (.refl _) (.cons (.refl _) (.cons (.refl _) (.cons (.lst 4 _ _ _ hr) (.cons (.lst 2 _ _ _ ht) (.cons (.refl _) (.cons (.refl _) (.cons (.refl _) (.cons (.refl _) .nil))))))))))) .nil) Q hQ.2
 ·cases h
def asE (c T lo hi : Int) (n : Nat) (a b u v : Nat → Int) (m : Nat) (p q : Nat → Int) (pl ph dl dh : Int) (u0 u1 wi day : Int) : Int := if rdE c T lo hi n a b u v m p q pl ph dl dh = 0 then (if usB c u0 u1 wi && bt 0 day 10000 then 0 else 2) else rdE c T lo hi n a b u v m p q pl ph dl dh
def hdE (c T lo hi : Int) (n : Nat) (a b u v : Nat → Int) (m : Nat) (p q : Nat → Int) (pl ph dl dh : Int) (day : Int) : Int := if rdE c T lo hi n a b u v m p q pl ph dl dh = 0 then (if bt 0 day 10000 then 0 else 2) else rdE c T lo hi n a b u v m p q pl ph dl dh
theorem rdE_0 {c T lo hi : Int} {n : Nat} {a b u v : Nat → Int} {m : Nat} {p q : Nat → Int} {pl ph dl dh : Int} (h : rdE c T lo hi n a b u v m p q pl ph dl dh = 0) : n ≤ 12 ∧ m ≤ 8 ∧ vaB c T lo hi m p q pl ph dl dh = true ∧ eB c T lo hi n a b u v = 0 := by
 unfold rdE at h
 split at h
 ·cases h
 ·rename_i h1
  split at h
  ·rename_i h2
   exact ⟨by omega, by omega, h2.1, h⟩
  ·cases h
theorem rdE_of {c T lo hi : Int} {n : Nat} {a b u v : Nat → Int} {m : Nat} {p q : Nat → Int} {pl ph dl dh : Int} (h1 : n ≤ 12) (h2 : m ≤ 8) (h3 : vaB c T lo hi m p q pl ph dl dh = true) (h4 : eB c T lo hi n a b u v = 0) : rdE c T lo hi n a b u v m p q pl ph dl dh = 0 := by
 unfold rdE
 rw [if_neg (by omega), if_pos ⟨h3, .inl h4⟩, h4]
theorem wk_L {pl ph dl dh : Int} {L H : Nat → Int} {k j : Nat} (h : j < k) : wkF pl ph dl dh L H k (4 + 2 * j) = L j := by
 unfold wkF
 rw [if_neg (by omega), if_neg (by omega), if_neg (by omega), if_neg (by omega), if_pos (by omega), if_pos (by omega), show (4 + 2 * j - 4) / 2 = j by omega]
theorem wk_H {pl ph dl dh : Int} {L H : Nat → Int} {k j : Nat} (h : j < k) : wkF pl ph dl dh L H k (5 + 2 * j) = H j := by
 unfold wkF
 rw [if_neg (by omega), if_neg (by omega), if_neg (by omega), if_neg (by omega), if_pos (by omega), if_neg (by omega), show (5 + 2 * j - 4) / 2 = j by omega]
theorem wk_ok {c T lo hi : Int} {n : Nat} {a b u v : Nat → Int} {m : Nat} {p q : Nat → Int} {pl ph dl dh : Int} (h : rdE c T lo hi n a b u v m p q pl ph dl dh = 0) : drB (wkA c T lo hi n a b u v m p q pl ph dl dh) ∧ bdB (wkA c T lo hi n a b u v m p q pl ph dl dh) ∧ (1 ≤ c ∧ c ≤ 10) ∧ ∀ k : Nat, (k : Int) ≤ c → 0 ≤ bdL c T lo hi n a b u v m p q pl ph k ∧ bdL c T lo hi n a b u v m p q pl ph k ≤ 4000000 ∧ 0 ≤ bdH c T lo hi n a b u v m p q pl ph k ∧ bdH c T lo hi n a b u v m p q pl ph k ≤ 4000000 := by
 obtain ⟨h1, h2, h3, h4⟩ := rdE_0 h
 have hv := va_iff.1 h3
 have hb := tube_bd hv.2.1
 have hs := st_bd hv.1
 have key : ∀ k : Nat, (k : Int) ≤ c → 0 ≤ bdL c T lo hi n a b u v m p q pl ph k ∧ bdL c T lo hi n a b u v m p q pl ph k ≤ 4000000 ∧ 0 ≤ bdH c T lo hi n a b u v m p q pl ph k ∧ bdH c T lo hi n a b u v m p q pl ph k ≤ 4000000 := by
  intro k hk
  have hk := ht_bd h4 hk
  have m1 := pr_bd (x := -(fwB c T lo hi n a b u v k 0)) (y := Pt.boilI m p q pl) (X := 2000) (Y := 2000) (by omega) (by omega)
  have m2 := pr_bd (x := fwB c T lo hi n a b u v 0 k) (y := Pt.boilI m p q ph) (X := 2000) (Y := 2000) (by omega) (by omega)
  have d1 := dn_spec m1.1 (show 1 ≤ T by omega)
  have d2 := up_spec m2.1 (show 1 ≤ T by omega)
  unfold bdL bdH
  omega
 refine ⟨⟨?_, ?_⟩, fun j hj => ?_, hb.1, key⟩
 ·show 0 ≤ dl ∧ dl ≤ 100
  omega
 ·show 0 ≤ dh ∧ dh ≤ 100
  omega
 ·by_cases hk : j / 2 < c.toNat + 1
  ·have := key (j / 2) (by omega)
   rcases Nat.mod_two_eq_zero_or_one j with h0 | h0
   ·have e : wkA c T lo hi n a b u v m p q pl ph dl dh (4 + j) = bdL c T lo hi n a b u v m p q pl ph (j / 2) := by
     have := wk_L (pl := pl) (ph := ph) (dl := dl) (dh := dh) (L := bdL c T lo hi n a b u v m p q pl ph) (H := bdH c T lo hi n a b u v m p q pl ph) hk
     rw [show 4 + 2 * (j / 2) = 4 + j by omega] at this
     exact this
    rw [e]; omega
   ·have e : wkA c T lo hi n a b u v m p q pl ph dl dh (4 + j) = bdH c T lo hi n a b u v m p q pl ph (j / 2) := by
     have := wk_H (pl := pl) (ph := ph) (dl := dl) (dh := dh) (L := bdL c T lo hi n a b u v m p q pl ph) (H := bdH c T lo hi n a b u v m p q pl ph) hk
     rw [show 5 + 2 * (j / 2) = 4 + j by omega] at this
     exact this
    rw [e]; omega
  ·have e : wkA c T lo hi n a b u v m p q pl ph dl dh (4 + j) = 0 := by
    unfold wkA wkF
    rw [if_neg (by omega), if_neg (by omega), if_neg (by omega), if_neg (by omega), if_neg (by omega)]
   rw [e]; omega
theorem asked_at (c T lo hi : Int) (n : Nat) (a b u v : Nat → Int) (m : Nat) (p q : Nat → Int) (pl ph dl dh : Int) (u0 u1 wi day : Int) : SoundCAt Tryz.prog 79 [.agg [i c, i T, i lo, i hi, rds n a b u v, Pt.scs m p q, i pl, i ph, i dl, i dh], .agg [i u0, i u1, i wi], i day] (.branch (decide (asE c T lo hi n a b u v m p q pl ph dl dh u0 u1 wi day = 0)) (.leaf (.tup [.roI [i c, i T, i lo, i hi, rds n a b u v, Pt.scs m p q] 26 (wkA c T lo hi n a b u v m p q pl ph dl dh) 0, i 0])) (.leaf (.tup [.top, i (asE c T lo hi n a b u v m p q pl ph dl dh u0 u1 wi day)]))) := by
 refine soundCAt_fin (G := [(110, S_use), (66, S_within)]) (X := { R := [], H := [], C := [(64, C_read)] }) (L := []) (SoundG.cons use_ok (SoundG.cons within_ok (SoundG.nil _))) (SoundX.ofC (SoundRL.nil _) (SoundHL.nil _) (SoundCL.cons read_okC (SoundCL.nil _))) mixed Tryz.func79 (show Tryz.f79.body = some (bodyOf Tryz.f79) by kernel_rfl) noLoopsS (t := (let z0 := (leaf (tup [roI [iI c, iI T, iI lo, iI hi, lst 4 n (rq4 a b u v), lst 2 m fun k => [iI (p k), iI (q k)]] 26 (fun a_1 => wkA c T lo hi n a b u v m p q pl ph dl dh a_1) 0, iI (2 : Int)])); let z1 := (leaf (tup [roI [iI c, iI T, iI lo, iI hi, lst 4 n (rq4 a b u v), lst 2 m fun k => [iI (p k), iI (q k)]] 26 (fun a_1 => wkA c T lo hi n a b u v m p q pl ph dl dh a_1) 0, iI (0 : Int)])); let z2 := rdE c T lo hi n a b u v m p q pl ph dl dh; let z3 := (leaf (tup [AV.x (Value.pointer none), iI (2 : Int)])); let z4 := (leaf (tup [AV.x (Value.pointer none), iI (z2)])); (need [isRec 4 n fun k => [Bo.i (a k), Bo.i (b k), Bo.i (u k), Bo.i (v k)], isRec 2 m fun k => [Pt.i (p k), Pt.i (q k)]] (branch (decide (z2 = (0 : Int))) (branch ((0 : Int) == (0 : Int)) (need [isRec 4 n fun k => [Bo.i (a k), Bo.i (b k), Bo.i (u k), Bo.i (v k)], isRec 2 m fun k => [Pt.i (p k), Pt.i (q k)]] (branch (!usB c u0 u1 wi) z0 (branch (!bt (0 : Int) day (10000 : Int)) z0 z1))) z1) (branch (z2 == (0 : Int)) (need [isRec 4 n fun k => [Bo.i (a k), Bo.i (b k), Bo.i (u k), Bo.i (v k)], isRec 2 m fun k => [Pt.i (p k), Pt.i (q k)]] (branch (!usB c u0 u1 wi) z3 (branch (!bt (0 : Int) day (10000 : Int)) z3 z4))) z4))))) (by kernel_rfl) ?_
 intro Q hQ
 simp only [Tree.sat, allP, fitP, fitL, valEq, true_and, and_true, decide_eq_true_eq, decide_eq_false_iff_not, bne_iff_ne, ne_eq, bne_eq_false_iff_eq, beq_iff_eq, beq_eq_false_iff_ne, Bool.not_eq_true', Bool.not_eq_false', not_true_eq_false, false_imp_iff, true_imp_iff] at hQ ⊢
 have hr : rdE c T lo hi n a b u v m p q pl ph dl dh ≠ 0 → asE c T lo hi n a b u v m p q pl ph dl dh u0 u1 wi day = rdE c T lo hi n a b u v m p q pl ph dl dh := fun h => if_neg h
 have h2 : rdE c T lo hi n a b u v m p q pl ph dl dh = 0 → (usB c u0 u1 wi = false ∨ bt 0 day 10000 = false) → asE c T lo hi n a b u v m p q pl ph dl dh u0 u1 wi day = 2 := fun h h' => by
  unfold asE
  rw [if_pos h, if_neg (by rcases h' with h' | h' <;> simp [h'])]
 have h0 : rdE c T lo hi n a b u v m p q pl ph dl dh = 0 → usB c u0 u1 wi = true → bt 0 day 10000 = true → asE c T lo hi n a b u v m p q pl ph dl dh u0 u1 wi day = 0 := fun h h' h'' => by
  unfold asE
  rw [if_pos h, h', h'']
  rfl
 have bad : ∀ (x : AV) (k : Int), asE c T lo hi n a b u v m p q pl ph dl dh u0 u1 wi day = k → k ≠ 0 → ∃ r', repP (.tup [x, i k]) r' ∧ Q r' := fun x k he hk => by
  rw [he] at hQ
  exact ⟨.tup [.top, i k], ⟨by cases x <;> trivial, ⟨rfl, rfl⟩, True.intro⟩, hQ.2 hk⟩
 refine ⟨⟨Bo.isRec4 n a b u v, Pt.isRec2 m p q⟩, fun h => ⟨⟨Bo.isRec4 n a b u v, Pt.isRec2 m p q⟩, fun g => bad _ 2 (h2 h (.inl g)) (by omega), fun g => ⟨fun g' => bad _ 2 (h2 h (.inr g')) (by omega), fun g' => ?_⟩⟩, fun h => ⟨fun h' => absurd h' h, fun _ => ?_⟩⟩
 ·exact ⟨.tup [.roI [i c, i T, i lo, i hi, rds n a b u v, Pt.scs m p q] 26 (wkA c T lo hi n a b u v m p q pl ph dl dh) 0, i 0], ⟨⟨rfl, rfl, fun _ _ => rfl, rfl⟩, ⟨rfl, rfl⟩, True.intro⟩, hQ.1 (h0 h g g')⟩
 ·exact bad _ _ (hr h) h
noncomputable def C_asked : CSpec := fun l => match l with
 | [.agg [.x (.int .i64 c), .x (.int .i64 T), .x (.int .i64 lo), .x (.int .i64 hi), .lst 4 n fr, .lst 2 m ft, .x (.int .i64 pl), .x (.int .i64 ph), .x (.int .i64 dl), .x (.int .i64 dh)], .agg [.x (.int .i64 u0), .x (.int .i64 u1), .x (.int .i64 wi)], .x (.int .i64 day)] => some (.need [isRec 4 n fr, isRec 2 m ft] (.branch (decide (asE c T lo hi n (col 0 fr) (col 1 fr) (col 2 fr) (col 3 fr) m (Pt.col 0 ft) (Pt.col 1 ft) pl ph dl dh u0 u1 wi day = 0)) (.leaf (.tup [.roI [i c, i T, i lo, i hi, rds n (col 0 fr) (col 1 fr) (col 2 fr) (col 3 fr), Pt.scs m (Pt.col 0 ft) (Pt.col 1 ft)] 26 (wkA c T lo hi n (col 0 fr) (col 1 fr) (col 2 fr) (col 3 fr) m (Pt.col 0 ft) (Pt.col 1 ft) pl ph dl dh) 0, i 0])) (.leaf (.tup [.top, i (asE c T lo hi n (col 0 fr) (col 1 fr) (col 2 fr) (col 3 fr) m (Pt.col 0 ft) (Pt.col 1 ft) pl ph dl dh u0 u1 wi day)]))))
 | _ => none
theorem asked_okC : Sx.Enters Tryz.prog 79 ∧ ∀ avs t, C_asked avs = some t → SoundCAt Tryz.prog 79 avs t := by
 refine ⟨⟨_, Tryz.func79, by kernel_rfl, by kernel_rfl⟩, ?_⟩
 intro avs t h
 unfold C_asked at h
 split at h
 ·cases h
  intro Q hQ
  have hr : isRec 4 _ _ := allP_mem hQ.1 _ List.mem_cons_self
  have ht : isRec 2 _ _ := allP_mem hQ.1 _ (List.mem_cons_of_mem _ List.mem_cons_self)
  exact SoundCAt.same (asked_at _ _ _ _ _ _ _ _ _ _ _ _ _ _ _ _ _ _ _ _) (.cons (Sames.same (.cons (.refl _) (.cons (.refl _) (.cons (.refl _) (.cons (.refl _) (.cons (.lst 4 _ _ _ hr) (.cons (.lst 2 _ _ _ ht) (.cons (.refl _) (.cons (.refl _) (.cons (.refl _) (.cons (.refl _) .nil))))))))))) (.cons (.refl _) (.cons (.refl _) .nil))) Q hQ.2
 ·cases h
def kpB (c T lo hi : Int) (n : Nat) (a b u v : Nat → Int) (m : Nat) (p q : Nat → Int) (pl ph dl dh : Int) (u0 u1 wi day : Int) : Bool := decide (asE c T lo hi n a b u v m p q pl ph dl dh u0 u1 wi day = 0) && keB c (wkA c T lo hi n a b u v m p q pl ph dl dh) u0 u1 wi day
theorem asE_0 {c T lo hi : Int} {n : Nat} {a b u v : Nat → Int} {m : Nat} {p q : Nat → Int} {pl ph dl dh u0 u1 wi day : Int} (h : asE c T lo hi n a b u v m p q pl ph dl dh u0 u1 wi day = 0) : rdE c T lo hi n a b u v m p q pl ph dl dh = 0 ∧ usB c u0 u1 wi = true ∧ 0 ≤ day ∧ day ≤ 10000 := by
 unfold asE at h
 split at h
 ·rename_i h1
  split at h
  ·rename_i h2
   rw [Bool.and_eq_true] at h2
   exact ⟨h1, h2.1, (bt_iff _ _ _).1 h2.2⟩
  ·cases h
 ·rename_i h1
  exact absurd h h1
theorem asE_of {c T lo hi : Int} {n : Nat} {a b u v : Nat → Int} {m : Nat} {p q : Nat → Int} {pl ph dl dh u0 u1 wi day : Int} (h : rdE c T lo hi n a b u v m p q pl ph dl dh = 0) (h1 : usB c u0 u1 wi = true) (h2 : 0 ≤ day ∧ day ≤ 10000) : asE c T lo hi n a b u v m p q pl ph dl dh u0 u1 wi day = 0 := by
 unfold asE
 rw [if_pos h, h1, (bt_iff _ _ _).2 h2]
 rfl
theorem Kept_at (c T lo hi : Int) (n : Nat) (a b u v : Nat → Int) (m : Nat) (p q : Nat → Int) (pl ph dl dh : Int) (u0 u1 wi day : Int) : SoundAt Tryz.prog 43 [.agg [i c, i T, i lo, i hi, rds n a b u v, Pt.scs m p q, i pl, i ph, i dl, i dh], .agg [i u0, i u1, i wi], i day] (.tup [bl (kpB c T lo hi n a b u v m p q pl ph dl dh u0 u1 wi day), i (asE c T lo hi n a b u v m p q pl ph dl dh u0 u1 wi day)]) := by
 refine soundAt_finX (G := [(82, S_kept)]) (X := { R := [], H := [], C := [(79, C_asked)] }) (L := []) (SoundG.cons kept_ok (SoundG.nil _)) (SoundX.ofC (SoundRL.nil _) (SoundHL.nil _) (SoundCL.cons asked_okC (SoundCL.nil _))) mixed Tryz.func43 (show Tryz.f43.body = some (bodyOf Tryz.f43) by kernel_rfl) noLoopsS (t := (let z0 := asE c T lo hi n a b u v m p q pl ph dl dh u0 u1 wi day; let z1 := (wkA c T lo hi n a b u v m p q pl ph dl dh); (need [isRec 4 n fun k => [Bo.i (a k), Bo.i (b k), Bo.i (u k), Bo.i (v k)], isRec 2 m fun k => [Pt.i (p k), Pt.i (q k)]] (branch (decide (z0 = (0 : Int))) (branch ((0 : Int) == (0 : Int)) (need [drB z1, bdB z1, (1 : Int) ≤ c ∧ c ≤ (10 : Int), (0 : Int) ≤ u0 ∧ u0 ≤ u1 ∧ u1 ≤ (10 : Int), (0 : Int) ≤ wi ∧ wi ≤ (1000000 : Int), (0 : Int) ≤ day ∧ day ≤ (100000 : Int)] (leaf (RV.tup [RV.x (Value.bool (keB c z1 u0 u1 wi day)), RV.x (Value.int IntKind.i64 (0 : Int))]))) (leaf (RV.tup [RV.x (Value.bool false), RV.x (Value.int IntKind.i64 (0 : Int))]))) (branch (z0 == (0 : Int)) Tree.fail (leaf (RV.tup [RV.x (Value.bool false), RV.x (Value.int IntKind.i64 (z0))]))))))) (by kernel_rfl) ?_
 simp only [Tree.sat, allP, fitP, fitL, valEq, true_and, and_true, decide_eq_true_eq, decide_eq_false_iff_not, bne_iff_ne, ne_eq, bne_eq_false_iff_eq, beq_iff_eq, beq_eq_false_iff_ne, Bool.not_eq_true', Bool.not_eq_false', not_true_eq_false, false_imp_iff, true_imp_iff]
 refine ⟨⟨Bo.isRec4 n a b u v, Pt.isRec2 m p q⟩, fun h => ?_, fun h => ⟨fun h' => absurd h' h, fun _ => ?_⟩⟩
 ·obtain ⟨h1, h2, h3⟩ := asE_0 h
  have hw := wk_ok h1
  have hu := usB_iff.1 h2
  refine ⟨⟨hw.1, hw.2.1, hw.2.2.1, by omega, by omega, by omega⟩, ?_, h.symm⟩
  unfold kpB
  rw [h]
  rfl
 ·unfold kpB
  rw [decide_eq_false h]
  rfl
def S_Kept : Sx.Spec := fun l => match l with
 | [.agg [.x (.int .i64 c), .x (.int .i64 T), .x (.int .i64 lo), .x (.int .i64 hi), .lst 4 n fr, .lst 2 m ft, .x (.int .i64 pl), .x (.int .i64 ph), .x (.int .i64 dl), .x (.int .i64 dh)], .agg [.x (.int .i64 u0), .x (.int .i64 u1), .x (.int .i64 wi)], .x (.int .i64 day)] => some ([isRec 4 n fr, isRec 2 m ft], .tup [bl (kpB c T lo hi n (col 0 fr) (col 1 fr) (col 2 fr) (col 3 fr) m (Pt.col 0 ft) (Pt.col 1 ft) pl ph dl dh u0 u1 wi day), i (asE c T lo hi n (col 0 fr) (col 1 fr) (col 2 fr) (col 3 fr) m (Pt.col 0 ft) (Pt.col 1 ft) pl ph dl dh u0 u1 wi day)])
 | _ => none
theorem Kept_ok : SoundSpec Tryz.prog 43 S_Kept := by
 refine ⟨⟨_, Tryz.func43, by kernel_rfl, by kernel_rfl⟩, ?_⟩
 intro avs ns res h hn
 unfold S_Kept at h
 split at h
 ·cases h
  have hr : isRec 4 _ _ := hn _ List.mem_cons_self
  have ht : isRec 2 _ _ := hn _ (List.mem_cons_of_mem _ List.mem_cons_self)
  exact (Kept_at _ _ _ _ _ _ _ _ _ _ _ _ _ _ _ _ _ _ _ _ ).same (.cons (Sames.same (.cons (.refl _) (.cons (.refl _) (.cons (.refl _) (.cons (.refl _) (.cons (.lst 4 _ _ _ hr) (.cons (.lst 2 _ _ _ ht) (.cons (.refl _) (.cons (.refl _) (.cons (.refl _) (.cons (.refl _) .nil))))))))))) (.cons (.refl _) (.cons (.refl _) .nil)))
 ·cases h
def dsE (c T lo hi : Int) (n : Nat) (a b u v : Nat → Int) (m : Nat) (p q : Nat → Int) (pl ph dl dh : Int) (u0 u1 wi : Int) : Int := if asE c T lo hi n a b u v m p q pl ph dl dh u0 u1 wi 0 = 0 then (if dyHi (keD c (wkA c T lo hi n a b u v m p q pl ph dl dh) u0 u1 wi) nD ≥ 0 then 0 else 11) else asE c T lo hi n a b u v m p q pl ph dl dh u0 u1 wi 0
def dsL (c T lo hi : Int) (n : Nat) (a b u v : Nat → Int) (m : Nat) (p q : Nat → Int) (pl ph dl dh : Int) (u0 u1 wi : Int) : Int := if dsE c T lo hi n a b u v m p q pl ph dl dh u0 u1 wi = 0 then dyLo (keD c (wkA c T lo hi n a b u v m p q pl ph dl dh) u0 u1 wi) nD else 0
def dsH (c T lo hi : Int) (n : Nat) (a b u v : Nat → Int) (m : Nat) (p q : Nat → Int) (pl ph dl dh : Int) (u0 u1 wi : Int) : Int := if dsE c T lo hi n a b u v m p q pl ph dl dh u0 u1 wi = 0 then dyHi (keD c (wkA c T lo hi n a b u v m p q pl ph dl dh) u0 u1 wi) nD else 0
theorem Days_at (c T lo hi : Int) (n : Nat) (a b u v : Nat → Int) (m : Nat) (p q : Nat → Int) (pl ph dl dh : Int) (u0 u1 wi : Int) : SoundAt Tryz.prog 35 [.agg [i c, i T, i lo, i hi, rds n a b u v, Pt.scs m p q, i pl, i ph, i dl, i dh], .agg [i u0, i u1, i wi]] (.tup [.agg [i (dsL c T lo hi n a b u v m p q pl ph dl dh u0 u1 wi), i (dsH c T lo hi n a b u v m p q pl ph dl dh u0 u1 wi)], i (dsE c T lo hi n a b u v m p q pl ph dl dh u0 u1 wi)]) := by
 refine soundAt_finX (G := [(80, S_days)]) (X := { R := [], H := [], C := [(79, C_asked)] }) (L := []) (SoundG.cons days_ok (SoundG.nil _)) (SoundX.ofC (SoundRL.nil _) (SoundHL.nil _) (SoundCL.cons asked_okC (SoundCL.nil _))) mixed Tryz.func35 (show Tryz.f35.body = some (bodyOf Tryz.f35) by kernel_rfl) noLoopsS (t := (let z0 := (Value.int IntKind.i64 (0 : Int)); let z1 := (wkA c T lo hi n a b u v m p q pl ph dl dh); let z2 := asE c T lo hi n a b u v m p q pl ph dl dh u0 u1 wi; (need [isRec 4 n fun k => [Bo.i (a k), Bo.i (b k), Bo.i (u k), Bo.i (v k)], isRec 2 m fun k => [Pt.i (p k), Pt.i (q k)]] (branch (decide (z2 (0 : Int) = 0)) (branch ((0 : Int) != (0 : Int)) (leaf (RV.tup [RV.agg [RV.x z0, RV.x z0], RV.x z0])) (need [drB z1, bdB z1, (1 : Int) ≤ c ∧ c ≤ (10 : Int), (0 : Int) ≤ u0 ∧ u0 ≤ u1 ∧ u1 ≤ (10 : Int), (0 : Int) ≤ wi ∧ wi ≤ (1000000 : Int)] (branch (!decide (dyHi (keD c z1 u0 u1 wi) nD ≥ (0 : Int))) (leaf (RV.tup [RV.agg [RV.x z0, RV.x z0], RV.x (Value.int IntKind.i64 (11 : Int))])) (leaf (RV.tup [RV.agg [RV.x (Value.int IntKind.i64 (dyLo (keD c z1 u0 u1 wi) nD)), RV.x (Value.int IntKind.i64 (dyHi (keD c z1 u0 u1 wi) nD))], RV.x z0]))))) (branch (z2 (0 : Int) != (0 : Int)) (leaf (RV.tup [RV.agg [RV.x z0, RV.x z0], RV.x (Value.int IntKind.i64 (z2 (0 : Int)))])) Tree.fail))))) (by kernel_rfl) ?_
 simp only [Tree.sat, allP, fitP, fitL, valEq, true_and, and_true, decide_eq_true_eq, decide_eq_false_iff_not, bne_iff_ne, ne_eq, bne_eq_false_iff_eq, beq_iff_eq, beq_eq_false_iff_ne, Bool.not_eq_true', Bool.not_eq_false', not_true_eq_false, false_imp_iff, true_imp_iff]
 have eE : ∀ k : Int, dsE c T lo hi n a b u v m p q pl ph dl dh u0 u1 wi = k → k ≠ 0 → 0 = dsL c T lo hi n a b u v m p q pl ph dl dh u0 u1 wi ∧ 0 = dsH c T lo hi n a b u v m p q pl ph dl dh u0 u1 wi ∧ k = dsE c T lo hi n a b u v m p q pl ph dl dh u0 u1 wi := fun k h hk => by
  have h' : ¬ dsE c T lo hi n a b u v m p q pl ph dl dh u0 u1 wi = 0 := by rw [h]; exact hk
  exact ⟨(if_neg h').symm, (if_neg h').symm, h.symm⟩
 refine ⟨⟨Bo.isRec4 n a b u v, Pt.isRec2 m p q⟩, fun h => ?_, fun h => ⟨fun _ => ?_, fun h' => h h'⟩⟩
 ·obtain ⟨h1, h2, _⟩ := asE_0 h
  have hw := wk_ok h1
  have hu := usB_iff.1 h2
  have e1 : ∀ x : Int, dyHi (keD c (wkA c T lo hi n a b u v m p q pl ph dl dh) u0 u1 wi) nD = x → ¬ x ≥ 0 → dsE c T lo hi n a b u v m p q pl ph dl dh u0 u1 wi = 11 := fun x hx hn => by
   unfold dsE
   rw [if_pos h, hx, if_neg hn]
  have e2 : ∀ x : Int, dyHi (keD c (wkA c T lo hi n a b u v m p q pl ph dl dh) u0 u1 wi) nD = x → x ≥ 0 → dsE c T lo hi n a b u v m p q pl ph dl dh u0 u1 wi = 0 := fun x hx hn => by
   unfold dsE
   rw [if_pos h, hx, if_pos hn]
  refine ⟨⟨hw.1, hw.2.1, hw.2.2.1, by omega, by omega⟩, fun g => ?_, fun g => ?_⟩
  ·have := eE 11 (e1 _ rfl g) (by decide)
   exact ⟨⟨this.1, this.2.1⟩, this.2.2⟩
  ·have h0 := e2 _ rfl g
   exact ⟨⟨(if_pos h0).symm, (if_pos h0).symm⟩, h0.symm⟩
 ·have := eE (asE c T lo hi n a b u v m p q pl ph dl dh u0 u1 wi 0) (if_neg h) h
  exact ⟨⟨this.1, this.2.1⟩, this.2.2⟩
def S_Days : Sx.Spec := fun l => match l with
 | [.agg [.x (.int .i64 c), .x (.int .i64 T), .x (.int .i64 lo), .x (.int .i64 hi), .lst 4 n fr, .lst 2 m ft, .x (.int .i64 pl), .x (.int .i64 ph), .x (.int .i64 dl), .x (.int .i64 dh)], .agg [.x (.int .i64 u0), .x (.int .i64 u1), .x (.int .i64 wi)]] => some ([isRec 4 n fr, isRec 2 m ft], .tup [.agg [i (dsL c T lo hi n (col 0 fr) (col 1 fr) (col 2 fr) (col 3 fr) m (Pt.col 0 ft) (Pt.col 1 ft) pl ph dl dh u0 u1 wi), i (dsH c T lo hi n (col 0 fr) (col 1 fr) (col 2 fr) (col 3 fr) m (Pt.col 0 ft) (Pt.col 1 ft) pl ph dl dh u0 u1 wi)], i (dsE c T lo hi n (col 0 fr) (col 1 fr) (col 2 fr) (col 3 fr) m (Pt.col 0 ft) (Pt.col 1 ft) pl ph dl dh u0 u1 wi)])
 | _ => none
theorem Days_ok : SoundSpec Tryz.prog 35 S_Days := by
 refine ⟨⟨_, Tryz.func35, by kernel_rfl, by kernel_rfl⟩, ?_⟩
 intro avs ns res h hn
 unfold S_Days at h
 split at h
 ·cases h
  have hr : isRec 4 _ _ := hn _ List.mem_cons_self
  have ht : isRec 2 _ _ := hn _ (List.mem_cons_of_mem _ List.mem_cons_self)
  exact (Days_at _ _ _ _ _ _ _ _ _ _ _ _ _ _ _ _ _ _ _ ).same (.cons (Sames.same (.cons (.refl _) (.cons (.refl _) (.cons (.refl _) (.cons (.refl _) (.cons (.lst 4 _ _ _ hr) (.cons (.lst 2 _ _ _ ht) (.cons (.refl _) (.cons (.refl _) (.cons (.refl _) (.cons (.refl _) .nil))))))))))) (.cons (.refl _) .nil))
 ·cases h
end Go.Proofs.YtlinbkmpkcmniaaGreat
namespace Go.Proofs.YtlinbkmpkcmniaaGreat
open Go Go.Sx Go.RowKit Bo
open Go.Sx.Tree (need branch leaf)
open Go.Sx.AV (lst ptr agg roI tup top)
def hdN (c T lo hi : Int) (n : Nat) (a b u v : Nat → Int) (m : Nat) (p q : Nat → Int) (pl ph dl dh : Int) (day : Int) : Nat := if hdE c T lo hi n a b u v m p q pl ph dl dh day = 0 then c.toNat + 1 else 0
theorem sameR {P : Program} {f : FuncId} {avs avs' : List AV} {res : AV} (h : SoundAtR P f avs' res) (k : Sames avs avs') : SoundAtR P f avs res := fun e w args hro hidf hr => h e w args hro (k.idf hidf) (k.rep hr)
theorem cat2 {g h : Nat → Int} {k j : Nat} {x y : Int} (hx : x = g k) (hy : y = h k) (hj : j < k + 1) : catF k (fun k => [i (g k), i (h k)]) (chunk 2 [i x, i y]) j = [i (g j), i (h j)] := by
 subst hx
 subst hy
 show mergeL (decide (j < k)) [i (g j), i (h j)] (chunk 2 [i (g k), i (h k)] (j - k)) = _
 rw [show j - k = 0 by omega]
 by_cases hj : j < k
 ·rw [decide_eq_true hj]; rfl
 ·obtain rfl : j = k := by omega
  rw [decide_eq_false hj]
  rfl
noncomputable def E_eO (c T lo hi : Int) (n : Nat) (a b u v : Nat → Int) (m : Nat) (p q : Nat → Int) (pl ph dl dh : Int) (day : Int) : St := (some { σ := mkS 37 [(0, .agg [i c, i T, i lo, i hi, rds n a b u v, Pt.scs m p q, i pl, i ph, i dl, i dh]), (1, i day), (2, .fn (.func 67) [] []), (3, .ptr 0 0), (4, .ptr 1 0), (5, .ptr 2 0), (6, .x (.slice none 0 0)), (7, i 0), (8, .ptr 10 0), (9, i 0), (10, .ptr 18 0), (26, .fn (.func 133) [] [.ro [i 0], .ro [i c]])], m := [(901, .row 45 2 0 (fun k => [i (onL (wkA c T lo hi n a b u v m p q pl ph dl dh) k day), i (onH (wkA c T lo hi n a b u v m p q pl ph dl dh) k day)])), (18, .cells 69 [.row 901]), (10, .cells 123 [.roI [i c, i T, i lo, i hi, rds n a b u v, Pt.scs m p q] 26 (wkA c T lo hi n a b u v m p q pl ph dl dh) 0]), (2, .cells 138 [.fn (.func 67) [] []]), (1, .cells 3 [i day]), (0, .cells 47 [i c, i T, i lo, i hi, rds n a b u v, Pt.scs m p q, i pl, i ph, i dl, i dh])], nx := 902 } : Option St).getD { σ := [], m := [], nx := 0 }
noncomputable def A_eO : Code := rfAs (loopAt (bodyOf Tryz.f78) 0)
noncomputable def B_eO : Code := rfBd (loopAt (bodyOf Tryz.f78) 0)
noncomputable def inv_eO (c T lo hi : Int) (n : Nat) (a b u v : Nat → Int) (m : Nat) (p q : Nat → Int) (pl ph dl dh : Int) (day : Int) (k : Nat) : St := { σ := ovrS [] (E_eO c T lo hi n a b u v m p q pl ph dl dh day).σ, m := [(901, .row 45 2 k (fun k => [i (onL (wkA c T lo hi n a b u v m p q pl ph dl dh) k day), i (onH (wkA c T lo hi n a b u v m p q pl ph dl dh) k day)])), (18, .cells 69 [.row 901]), (10, .cells 123 [.roI [i c, i T, i lo, i hi, rds n a b u v, Pt.scs m p q] 26 (wkA c T lo hi n a b u v m p q pl ph dl dh) 0]), (2, .cells 138 [.fn (.func 67) [] []]), (1, .cells 3 [i day]), (0, .cells 47 [i c, i T, i lo, i hi, rds n a b u v, Pt.scs m p q, i pl, i ph, i dl, i dh])], nx := 902 }
noncomputable def out_eO (c T lo hi : Int) (n : Nat) (a b u v : Nat → Int) (m : Nat) (p q : Nat → Int) (pl ph dl dh : Int) (day : Int) (k : Nat) : AEx → Option St := fun ex => match ex with
 | .normal => some { σ := ovrS [] (E_eO c T lo hi n a b u v m p q pl ph dl dh day).σ, m := [(901, .row 45 2 ((c - 0 + 1).toNat) (fun k => [i (onL (wkA c T lo hi n a b u v m p q pl ph dl dh) k day), i (onH (wkA c T lo hi n a b u v m p q pl ph dl dh) k day)])), (18, .cells 69 [.row 901]), (10, .cells 123 [.roI [i c, i T, i lo, i hi, rds n a b u v, Pt.scs m p q] 26 (wkA c T lo hi n a b u v m p q pl ph dl dh) 0]), (2, .cells 138 [.fn (.func 67) [] []]), (1, .cells 3 [i day]), (0, .cells 47 [i c, i T, i lo, i hi, rds n a b u v, Pt.scs m p q, i pl, i ph, i dl, i dh])], nx := 902 }
 | _ => none
noncomputable def T_eO (c T lo hi : Int) (n : Nat) (a b u v : Nat → Int) (m : Nat) (p q : Nat → Int) (pl ph dl dh : Int) (day : Int) : CT := .leaf (.normal,  inv_eO c T lo hi n a b u v m p q pl ph dl dh day ((c - 0 + 1).toNat))
noncomputable def LS_eO (c T lo hi : Int) (n : Nat) (a b u v : Nat → Int) (m : Nat) (p q : Nat → Int) (pl ph dl dh : Int) (day : Int) : LSpec := normSp [(.cell 18 0, 901, 45, 2)] (sumL (inv_eO c T lo hi n a b u v m p q pl ph dl dh day (0)) (T_eO c T lo hi n a b u v m p q pl ph dl dh day))
theorem eO_ln (c T lo hi : Int) (n : Nat) (a b u v : Nat → Int) (m : Nat) (p q : Nat → Int) (pl ph dl dh : Int) (day : Int) (pre0 : rdE c T lo hi n a b u v m p q pl ph dl dh = 0) (pre1 : 0 ≤ day ∧ day ≤ 10000) (pre2 : drB (wkA c T lo hi n a b u v m p q pl ph dl dh) ∧ bdB (wkA c T lo hi n a b u v m p q pl ph dl dh) ∧ 1 ≤ c ∧ c ≤ 10) : LSoundN Tryz.prog (.rangeFunc (rfF (loopAt (bodyOf Tryz.f78) 0)) (rfPs (loopAt (bodyOf Tryz.f78) 0)) A_eO B_eO) (LS_eO c T lo hi n a b u v m p q pl ph dl dh day) := by
 refine range_rounds [(.cell 18 0, 901, 45, 2)] (G := [(66, S_within), (67, S_on)]) (X := { R := [(109, S_marks)], H := [], C := [(64, C_read)] }) (L := []) (SoundG.cons within_ok (SoundG.cons on_ok (SoundG.nil _))) (SoundX.ofC (SoundRL.cons marks_okR (SoundRL.nil _)) (SoundHL.nil _) (SoundCL.cons read_okC (SoundCL.nil _))) mixed noLoops (V := Nat) (inv_eO c T lo hi n a b u v m p q pl ph dl dh day) (fun k => k ≤ ((c - 0 + 1).toNat)) (fun k => k) (out_eO c T lo hi n a b u v m p q pl ph dl dh day) (x0 := 0) (by simp) rfl ?_ ?_ ?_ ?_ (g := 133) (caps := [.ro [i 0], .ro [i c]]) (by kernel_rfl) (by kernel_rfl) (marks1_seq 0 c (by omega) (by omega)) (fun _ => rfl) ?_
 ·rintro k
  kernel_rfl
 ·rintro k y E h
  unfold out_eO at h
  split at h
  ·cases h; kernel_rfl
  ·cases h
 ·rintro k
  rfl
 ·rintro k y E h
  unfold out_eO at h
  split at h
  ·cases h; rfl
  ·cases h
 ·rintro Q hQ k hx
  refine ⟨fun hlt => ⟨(k + 1), rfl, ?_⟩, fun hend => ?_⟩
  ·have e : roundR Tryz.prog [(66, S_within), (67, S_on)] { R := [(109, S_marks)], H := [], C := [(64, C_read)] } [] [(.cell 18 0, 901, 45, 2)] (rfPs (loopAt (bodyOf Tryz.f78) 0)).toList ((mkV 0) (k)) A_eO B_eO (inv_eO c T lo hi n a b u v m p q pl ph dl dh day k) (inv_eO c T lo hi n a b u v m p q pl ph dl dh day ((k + 1))) (out_eO c T lo hi n a b u v m p q pl ph dl dh day k) = (let z0 := wkA c T lo hi n a b u v m p q pl ph dl dh; let z1 := (Int.toNat ((0 : Int) + (↑k : Int))); (need [drB (z0), bdB (z0), (0 : Int) ≤ 0 + (↑k : Int) ∧ (0 : Int) + (↑k : Int) ≤ 10, (0 : Int) ≤ day ∧ day ≤ (100000 : Int)] (need [(k + 1) * 16 ≤ 140737488355328, ∀ (i : Nat), i < 1 → ∀ (a_2 : AV), a_2 ∈ chunk 2 [iI (onL (z0) z1 day), iI (onH (z0) z1 day)] i → AV.one a_2 = true] (need [Eq1 (agg [iI c, iI T, iI lo, iI hi, lst 4 n (rq4 a b u v), lst 2 m fun k => [iI (p k), iI (q k)], iI pl, iI ph, iI dl, iI dh]), day = day, Eq1 (AV.fn (Fn.func 67) [] []), Eq1 (ptr 0 0), Eq1 (ptr 1 0), Eq1 (ptr 2 0), Eq1 (AV.x (Value.slice none 0 0)), Eq1 (0 : Int), Eq1 (ptr 10 0), Eq1 (0 : Int), Eq1 (ptr 18 0), Eq1 (AV.fn (Fn.func 133) [] [AV.ro [iI (0 : Int)], AV.ro [iI c]]), k + 1 = k + 1, ∀ (i : Nat), i < k + 1 → catF k (fun k => [iI (onL (z0) k day), iI (onH (z0) k day)]) (chunk 2 [iI (onL (z0) z1 day), iI (onH (z0) z1 day)]) i = [iI (onL (z0) i day), iI (onH (z0) i day)], Eq1 (AV.row 901), Eq1 (roI [iI c, iI T, iI lo, iI hi, lst 4 n (rq4 a b u v), lst 2 m fun k => [iI (p k), iI (q k)]] 26 (fun a_1 => z0 a_1) 0), Eq1 (AV.fn (Fn.func 67) [] []), day = day, c = c, T = T, lo = lo, hi = hi, (lst 4 n (rq4 a b u v)) = lst 4 n (rq4 a b u v), (lst 2 m fun k => [iI (p k), iI (q k)]) = lst 2 m fun k => [iI (p k), iI (q k)], pl = pl, ph = ph, dl = dl, dh = dh] (leaf AEx.normal))))) := by kernel_rfl
   rw [e]
   simp only [Tree.sat, allP, true_and, and_true]
   clear e
   have ek : ((0 : Int) + (k : Int)).toNat = k := by omega
   refine ⟨⟨pre2.1, pre2.2.1, by omega, by omega⟩, ⟨by omega, fun j hj a ha => one_of ha (by simp [AV.one, Value.oneCell'])⟩, fun j hj => ?_, by omega⟩
   rw [ek]
   exact cat2 rfl rfl hj
  ·subst hend
   exact hQ
theorem eachO_at (c T lo hi : Int) (n : Nat) (a b u v : Nat → Int) (m : Nat) (p q : Nat → Int) (pl ph dl dh : Int) (day : Int) : SoundAt Tryz.prog 78 [.agg [i c, i T, i lo, i hi, rds n a b u v, Pt.scs m p q, i pl, i ph, i dl, i dh], i day, .fn (.func 67) [] []] (.tup [.lst 2 (hdN c T lo hi n a b u v m p q pl ph dl dh day) (fun k => [i (onL (wkA c T lo hi n a b u v m p q pl ph dl dh) k day), i (onH (wkA c T lo hi n a b u v m p q pl ph dl dh) k day)]), i (hdE c T lo hi n a b u v m p q pl ph dl dh day)]) := by
 refine soundAt_finX (G := [(66, S_within), (67, S_on)]) (X := { R := [(109, S_marks)], H := [], C := [(64, C_read)] }) (L := [needSp [rdE c T lo hi n a b u v m p q pl ph dl dh = 0, 0 ≤ day ∧ day ≤ 10000, drB (wkA c T lo hi n a b u v m p q pl ph dl dh) ∧ bdB (wkA c T lo hi n a b u v m p q pl ph dl dh) ∧ 1 ≤ c ∧ c ≤ 10] (LS_eO c T lo hi n a b u v m p q pl ph dl dh day)]) (SoundG.cons within_ok (SoundG.cons on_ok (SoundG.nil _))) (SoundX.ofC (SoundRL.cons marks_okR (SoundRL.nil _)) (SoundHL.nil _) (SoundCL.cons read_okC (SoundCL.nil _))) mixed Tryz.func78 (show Tryz.f78.body = some (bodyOf Tryz.f78) by kernel_rfl) (one_loop (lpE (b := .rangeFunc (rfF (loopAt (bodyOf Tryz.f78) 0)) (rfPs (loopAt (bodyOf Tryz.f78) 0)) A_eO B_eO) (by kernel_rfl) <| needSp_soundN (fun h => eO_ln c T lo hi n a b u v m p q pl ph dl dh day h.1 h.2.1 h.2.2))) (t := (let z0 := wkA c T lo hi n a b u v m p q pl ph dl dh; let z1 := rdE c T lo hi n a b u v m p q pl ph dl dh; let z2 := (agg [iI c, iI T, iI lo, iI hi, lst 4 n (rq4 a b u v), lst 2 m fun k => [iI (p k), iI (q k)], iI pl, iI ph, iI dl, iI dh]); let z3 := (leaf (RV.tup [RV.lst 2 (Int.toNat (c - (0 : Int) + 1)) fun k => [iI (onL (z0) k day), iI (onH (z0) k day)], RV.x (Value.int IntKind.i64 (0 : Int))])); let z4 := (leaf (RV.tup [RV.x (Value.slice none 0 0), RV.x (Value.int IntKind.i64 (2 : Int))])); let z5 := (AV.fn (Fn.func 67) [] []); let z6 := (lst 4 n (rq4 a b u v)); let z7 := (AV.fn (Fn.func 133) [] [AV.ro [iI (0 : Int)], AV.ro [iI c]]); (need [isRec 4 n fun k => [Bo.i (a k), Bo.i (b k), Bo.i (u k), Bo.i (v k)], isRec 2 m fun k => [Pt.i (p k), Pt.i (q k)]] (branch (decide (z1 = (0 : Int))) (branch ((0 : Int) != (0 : Int)) (leaf (RV.tup [RV.x (Value.slice none 0 0), RV.x (Value.int IntKind.i64 (0 : Int))])) (branch (!bt (0 : Int) day (10000 : Int)) z4 (need [z1 = (0 : Int), (0 : Int) ≤ day ∧ day ≤ (10000 : Int), drB (z0) ∧ bdB (z0) ∧ (1 : Int) ≤ c ∧ c ≤ (10 : Int)] (need [Eq1 z2, day = day, Eq1 z5, Eq1 (ptr 0 0), Eq1 (ptr 1 0), Eq1 (ptr 2 0), Eq1 (AV.x (Value.slice none 0 0)), Eq1 (0 : Int), Eq1 (ptr 10 0), Eq1 (0 : Int), Eq1 (ptr 18 0), Eq1 z7, 0 = 0, ∀ (i : Nat), i < 0 → [] = [iI (onL (z0) i day), iI (onH (z0) i day)], Eq1 (AV.row 901), Eq1 (roI [iI c, iI T, iI lo, iI hi, lst 4 n (rq4 a b u v), lst 2 m fun k => [iI (p k), iI (q k)]] 26 (fun a_1 => z0 a_1) 0), Eq1 z5, day = day, c = c, T = T, lo = lo, hi = hi, z6 = lst 4 n (rq4 a b u v), (lst 2 m fun k => [iI (p k), iI (q k)]) = lst 2 m fun k => [iI (p k), iI (q k)], pl = pl, ph = ph, dl = dl, dh = dh] z3)))) (branch (z1 != (0 : Int)) (leaf (RV.tup [RV.x (Value.slice none 0 0), RV.x (Value.int IntKind.i64 (z1))])) (branch (!bt (0 : Int) day (10000 : Int)) z4 (need [z1 = (0 : Int), (0 : Int) ≤ day ∧ day ≤ (10000 : Int), drB (z0) ∧ bdB (z0) ∧ (1 : Int) ≤ c ∧ c ≤ (10 : Int)] (need [Eq1 z2, day = day, Eq1 z5, Eq1 (ptr 0 0), Eq1 (ptr 1 0), Eq1 (ptr 2 0), Eq1 (AV.x (Value.slice none 0 0)), Eq1 (0 : Int), Eq1 (ptr 10 0), z1 = (0 : Int), Eq1 (ptr 18 0), Eq1 z7, 0 = 0, ∀ (i : Nat), i < 0 → [] = [iI (onL (z0) i day), iI (onH (z0) i day)], Eq1 (AV.row 901), AV.x (Value.pointer none) = roI [iI c, iI T, iI lo, iI hi, lst 4 n (rq4 a b u v), lst 2 m fun k => [iI (p k), iI (q k)]] 26 (fun a_1 => z0 a_1) 0, Eq1 z5, day = day, c = c, T = T, lo = lo, hi = hi, z6 = lst 4 n (rq4 a b u v), (lst 2 m fun k => [iI (p k), iI (q k)]) = lst 2 m fun k => [iI (p k), iI (q k)], pl = pl, ph = ph, dl = dl, dh = dh] z3)))))))) (by kernel_rfl) ?_
 simp only [Tree.sat, allP, fitP, fitL, valEq, true_and, and_true, decide_eq_true_eq, decide_eq_false_iff_not, bne_iff_ne, ne_eq, bne_eq_false_iff_eq, beq_iff_eq, beq_eq_false_iff_ne, Bool.not_eq_true', Bool.not_eq_false', not_true_eq_false, false_imp_iff, true_imp_iff]
 have e2 : rdE c T lo hi n a b u v m p q pl ph dl dh = 0 → bt 0 day 10000 = false → hdE c T lo hi n a b u v m p q pl ph dl dh day = 2 := fun h h' => by
  unfold hdE
  rw [if_pos h, h']
  rfl
 have e0 : rdE c T lo hi n a b u v m p q pl ph dl dh = 0 → bt 0 day 10000 = true → hdE c T lo hi n a b u v m p q pl ph dl dh day = 0 := fun h h' => by
  unfold hdE
  rw [if_pos h, h']
  rfl
 have er : ¬ rdE c T lo hi n a b u v m p q pl ph dl dh = 0 → hdE c T lo hi n a b u v m p q pl ph dl dh day = rdE c T lo hi n a b u v m p q pl ph dl dh := fun h => if_neg h
 have eN : ∀ k : Int, hdE c T lo hi n a b u v m p q pl ph dl dh day = k → k ≠ 0 → (isNil (Value.slice none 0 0) ∧ hdN c T lo hi n a b u v m p q pl ph dl dh day = 0) ∧ k = hdE c T lo hi n a b u v m p q pl ph dl dh day := fun k h hk => ⟨⟨by trivial, if_neg (by rw [h]; exact hk)⟩, h.symm⟩
 have eP : rdE c T lo hi n a b u v m p q pl ph dl dh = 0 → bt 0 day 10000 = true → hdN c T lo hi n a b u v m p q pl ph dl dh day = c.toNat + 1 := fun h h' => if_pos (e0 h h')
 refine ⟨⟨Bo.isRec4 n a b u v, Pt.isRec2 m p q⟩, fun h => ⟨fun h' => eN 2 (e2 h h') (by decide), fun h' => ?_⟩, fun h => ⟨fun _ => eN _ (er h) h, fun h'' => absurd h'' h⟩⟩
 have hw := wk_ok h
 have hb := (bt_iff _ _ _).1 h'
 refine ⟨⟨h, hb, hw.1, hw.2.1, hw.2.2.1⟩, fun j hj => absurd hj (Nat.not_lt_zero _), ⟨?_, fun j _ x hx => ?_⟩, (e0 h h').symm⟩
 ·rw [eP h h']
  omega
 ·simp only [List.mem_cons, List.not_mem_nil, or_false] at hx
  rcases hx with rfl | rfl <;> exact True.intro
noncomputable def E_eC (c T lo hi : Int) (n : Nat) (a b u v : Nat → Int) (m : Nat) (p q : Nat → Int) (pl ph dl dh : Int) (day : Int) : St := (some { σ := mkS 37 [(0, .agg [i c, i T, i lo, i hi, rds n a b u v, Pt.scs m p q, i pl, i ph, i dl, i dh]), (1, i day), (2, .fn (.func 81) [] []), (3, .ptr 0 0), (4, .ptr 1 0), (5, .ptr 2 0), (6, .x (.slice none 0 0)), (7, i 0), (8, .ptr 10 0), (9, i 0), (10, .ptr 18 0), (26, .fn (.func 133) [] [.ro [i 0], .ro [i c]])], m := [(901, .row 45 2 0 (fun k => [i (onL (wkA c T lo hi n a b u v m p q pl ph dl dh) k day - teM c k), i (onH (wkA c T lo hi n a b u v m p q pl ph dl dh) k day - teM c k)])), (18, .cells 69 [.row 901]), (10, .cells 123 [.roI [i c, i T, i lo, i hi, rds n a b u v, Pt.scs m p q] 26 (wkA c T lo hi n a b u v m p q pl ph dl dh) 0]), (2, .cells 138 [.fn (.func 81) [] []]), (1, .cells 3 [i day]), (0, .cells 47 [i c, i T, i lo, i hi, rds n a b u v, Pt.scs m p q, i pl, i ph, i dl, i dh])], nx := 902 } : Option St).getD { σ := [], m := [], nx := 0 }
noncomputable def A_eC : Code := rfAs (loopAt (bodyOf Tryz.f78) 0)
noncomputable def B_eC : Code := rfBd (loopAt (bodyOf Tryz.f78) 0)
noncomputable def inv_eC (c T lo hi : Int) (n : Nat) (a b u v : Nat → Int) (m : Nat) (p q : Nat → Int) (pl ph dl dh : Int) (day : Int) (k : Nat) : St := { σ := ovrS [] (E_eC c T lo hi n a b u v m p q pl ph dl dh day).σ, m := [(901, .row 45 2 k (fun k => [i (onL (wkA c T lo hi n a b u v m p q pl ph dl dh) k day - teM c k), i (onH (wkA c T lo hi n a b u v m p q pl ph dl dh) k day - teM c k)])), (18, .cells 69 [.row 901]), (10, .cells 123 [.roI [i c, i T, i lo, i hi, rds n a b u v, Pt.scs m p q] 26 (wkA c T lo hi n a b u v m p q pl ph dl dh) 0]), (2, .cells 138 [.fn (.func 81) [] []]), (1, .cells 3 [i day]), (0, .cells 47 [i c, i T, i lo, i hi, rds n a b u v, Pt.scs m p q, i pl, i ph, i dl, i dh])], nx := 902 }
noncomputable def out_eC (c T lo hi : Int) (n : Nat) (a b u v : Nat → Int) (m : Nat) (p q : Nat → Int) (pl ph dl dh : Int) (day : Int) (k : Nat) : AEx → Option St := fun ex => match ex with
 | .normal => some { σ := ovrS [] (E_eC c T lo hi n a b u v m p q pl ph dl dh day).σ, m := [(901, .row 45 2 ((c - 0 + 1).toNat) (fun k => [i (onL (wkA c T lo hi n a b u v m p q pl ph dl dh) k day - teM c k), i (onH (wkA c T lo hi n a b u v m p q pl ph dl dh) k day - teM c k)])), (18, .cells 69 [.row 901]), (10, .cells 123 [.roI [i c, i T, i lo, i hi, rds n a b u v, Pt.scs m p q] 26 (wkA c T lo hi n a b u v m p q pl ph dl dh) 0]), (2, .cells 138 [.fn (.func 81) [] []]), (1, .cells 3 [i day]), (0, .cells 47 [i c, i T, i lo, i hi, rds n a b u v, Pt.scs m p q, i pl, i ph, i dl, i dh])], nx := 902 }
 | _ => none
noncomputable def T_eC (c T lo hi : Int) (n : Nat) (a b u v : Nat → Int) (m : Nat) (p q : Nat → Int) (pl ph dl dh : Int) (day : Int) : CT := .leaf (.normal,  inv_eC c T lo hi n a b u v m p q pl ph dl dh day ((c - 0 + 1).toNat))
noncomputable def LS_eC (c T lo hi : Int) (n : Nat) (a b u v : Nat → Int) (m : Nat) (p q : Nat → Int) (pl ph dl dh : Int) (day : Int) : LSpec := normSp [(.cell 18 0, 901, 45, 2)] (sumL (inv_eC c T lo hi n a b u v m p q pl ph dl dh day (0)) (T_eC c T lo hi n a b u v m p q pl ph dl dh day))
theorem eC_ln (c T lo hi : Int) (n : Nat) (a b u v : Nat → Int) (m : Nat) (p q : Nat → Int) (pl ph dl dh : Int) (day : Int) (pre0 : rdE c T lo hi n a b u v m p q pl ph dl dh = 0) (pre1 : 0 ≤ day ∧ day ≤ 10000) (pre2 : drB (wkA c T lo hi n a b u v m p q pl ph dl dh) ∧ bdB (wkA c T lo hi n a b u v m p q pl ph dl dh) ∧ 1 ≤ c ∧ c ≤ 10) : LSoundN Tryz.prog (.rangeFunc (rfF (loopAt (bodyOf Tryz.f78) 0)) (rfPs (loopAt (bodyOf Tryz.f78) 0)) A_eC B_eC) (LS_eC c T lo hi n a b u v m p q pl ph dl dh day) := by
 refine range_rounds [(.cell 18 0, 901, 45, 2)] (G := [(66, S_within), (81, S_correction)]) (X := { R := [(109, S_marks)], H := [], C := [(64, C_read)] }) (L := []) (SoundG.cons within_ok (SoundG.cons correction_ok (SoundG.nil _))) (SoundX.ofC (SoundRL.cons marks_okR (SoundRL.nil _)) (SoundHL.nil _) (SoundCL.cons read_okC (SoundCL.nil _))) mixed noLoops (V := Nat) (inv_eC c T lo hi n a b u v m p q pl ph dl dh day) (fun k => k ≤ ((c - 0 + 1).toNat)) (fun k => k) (out_eC c T lo hi n a b u v m p q pl ph dl dh day) (x0 := 0) (by simp) rfl ?_ ?_ ?_ ?_ (g := 133) (caps := [.ro [i 0], .ro [i c]]) (by kernel_rfl) (by kernel_rfl) (marks1_seq 0 c (by omega) (by omega)) (fun _ => rfl) ?_
 ·rintro k
  kernel_rfl
 ·rintro k y E h
  unfold out_eC at h
  split at h
  ·cases h; kernel_rfl
  ·cases h
 ·rintro k
  rfl
 ·rintro k y E h
  unfold out_eC at h
  split at h
  ·cases h; rfl
  ·cases h
 ·rintro Q hQ k hx
  refine ⟨fun hlt => ⟨(k + 1), rfl, ?_⟩, fun hend => ?_⟩
  ·have e : roundR Tryz.prog [(66, S_within), (81, S_correction)] { R := [(109, S_marks)], H := [], C := [(64, C_read)] } [] [(.cell 18 0, 901, 45, 2)] (rfPs (loopAt (bodyOf Tryz.f78) 0)).toList ((mkV 0) (k)) A_eC B_eC (inv_eC c T lo hi n a b u v m p q pl ph dl dh day k) (inv_eC c T lo hi n a b u v m p q pl ph dl dh day ((k + 1))) (out_eC c T lo hi n a b u v m p q pl ph dl dh day k) = (let z0 := wkA c T lo hi n a b u v m p q pl ph dl dh; let z1 := (Int.toNat ((0 : Int) + (↑k : Int))); (need [drB (z0), bdB (z0), (0 : Int) ≤ 0 + (↑k : Int) ∧ (0 : Int) + (↑k : Int) ≤ 10, (0 : Int) ≤ day ∧ day ≤ (100000 : Int), (1 : Int) ≤ c ∧ c ≤ (10 : Int)] (need [(k + 1) * 16 ≤ 140737488355328, ∀ (i : Nat), i < 1 → ∀ (a_2 : AV), a_2 ∈ chunk 2 [iI (onL (z0) z1 day - teM c z1), iI (onH (z0) z1 day - teM c z1)] i → AV.one a_2 = true] (need [Eq1 (agg [iI c, iI T, iI lo, iI hi, lst 4 n (rq4 a b u v), lst 2 m fun k => [iI (p k), iI (q k)], iI pl, iI ph, iI dl, iI dh]), day = day, Eq1 (AV.fn (Fn.func 81) [] []), Eq1 (ptr 0 0), Eq1 (ptr 1 0), Eq1 (ptr 2 0), Eq1 (AV.x (Value.slice none 0 0)), Eq1 (0 : Int), Eq1 (ptr 10 0), Eq1 (0 : Int), Eq1 (ptr 18 0), Eq1 (AV.fn (Fn.func 133) [] [AV.ro [iI (0 : Int)], AV.ro [iI c]]), k + 1 = k + 1, ∀ (i : Nat), i < k + 1 → catF k (fun k => [iI (onL (z0) k day - teM c k), iI (onH (z0) k day - teM c k)]) (chunk 2 [iI (onL (z0) z1 day - teM c z1), iI (onH (z0) z1 day - teM c z1)]) i = [iI (onL (z0) i day - teM c i), iI (onH (z0) i day - teM c i)], Eq1 (AV.row 901), Eq1 (roI [iI c, iI T, iI lo, iI hi, lst 4 n (rq4 a b u v), lst 2 m fun k => [iI (p k), iI (q k)]] 26 (fun a_1 => z0 a_1) 0), Eq1 (AV.fn (Fn.func 81) [] []), day = day, c = c, T = T, lo = lo, hi = hi, (lst 4 n (rq4 a b u v)) = lst 4 n (rq4 a b u v), (lst 2 m fun k => [iI (p k), iI (q k)]) = lst 2 m fun k => [iI (p k), iI (q k)], pl = pl, ph = ph, dl = dl, dh = dh] (leaf AEx.normal))))) := by kernel_rfl
   rw [e]
   simp only [Tree.sat, allP, true_and, and_true]
   clear e
   have ek : ((0 : Int) + (k : Int)).toNat = k := by omega
   refine ⟨⟨pre2.1, pre2.2.1, by omega, by omega, pre2.2.2⟩, ⟨by omega, fun j hj a ha => one_of ha (by simp [AV.one, Value.oneCell'])⟩, fun j hj => ?_, by omega⟩
   rw [ek]
   exact cat2 rfl rfl hj
  ·subst hend
   exact hQ
theorem eachC_at (c T lo hi : Int) (n : Nat) (a b u v : Nat → Int) (m : Nat) (p q : Nat → Int) (pl ph dl dh : Int) (day : Int) : SoundAt Tryz.prog 78 [.agg [i c, i T, i lo, i hi, rds n a b u v, Pt.scs m p q, i pl, i ph, i dl, i dh], i day, .fn (.func 81) [] []] (.tup [.lst 2 (hdN c T lo hi n a b u v m p q pl ph dl dh day) (fun k => [i (onL (wkA c T lo hi n a b u v m p q pl ph dl dh) k day - teM c k), i (onH (wkA c T lo hi n a b u v m p q pl ph dl dh) k day - teM c k)]), i (hdE c T lo hi n a b u v m p q pl ph dl dh day)]) := by
 refine soundAt_finX (G := [(66, S_within), (81, S_correction)]) (X := { R := [(109, S_marks)], H := [], C := [(64, C_read)] }) (L := [needSp [rdE c T lo hi n a b u v m p q pl ph dl dh = 0, 0 ≤ day ∧ day ≤ 10000, drB (wkA c T lo hi n a b u v m p q pl ph dl dh) ∧ bdB (wkA c T lo hi n a b u v m p q pl ph dl dh) ∧ 1 ≤ c ∧ c ≤ 10] (LS_eC c T lo hi n a b u v m p q pl ph dl dh day)]) (SoundG.cons within_ok (SoundG.cons correction_ok (SoundG.nil _))) (SoundX.ofC (SoundRL.cons marks_okR (SoundRL.nil _)) (SoundHL.nil _) (SoundCL.cons read_okC (SoundCL.nil _))) mixed Tryz.func78 (show Tryz.f78.body = some (bodyOf Tryz.f78) by kernel_rfl) (one_loop (lpE (b := .rangeFunc (rfF (loopAt (bodyOf Tryz.f78) 0)) (rfPs (loopAt (bodyOf Tryz.f78) 0)) A_eC B_eC) (by kernel_rfl) <| needSp_soundN (fun h => eC_ln c T lo hi n a b u v m p q pl ph dl dh day h.1 h.2.1 h.2.2))) (t := (let z0 := wkA c T lo hi n a b u v m p q pl ph dl dh; let z1 := rdE c T lo hi n a b u v m p q pl ph dl dh; let z2 := (leaf (RV.tup [RV.lst 2 (Int.toNat (c - (0 : Int) + 1)) fun k => [iI (onL (z0) k day - teM c k), iI (onH (z0) k day - teM c k)], RV.x (Value.int IntKind.i64 (0 : Int))])); let z3 := (agg [iI c, iI T, iI lo, iI hi, lst 4 n (rq4 a b u v), lst 2 m fun k => [iI (p k), iI (q k)], iI pl, iI ph, iI dl, iI dh]); let z4 := (leaf (RV.tup [RV.x (Value.slice none 0 0), RV.x (Value.int IntKind.i64 (2 : Int))])); let z5 := (AV.fn (Fn.func 81) [] []); let z6 := (lst 4 n (rq4 a b u v)); let z7 := (AV.fn (Fn.func 133) [] [AV.ro [iI (0 : Int)], AV.ro [iI c]]); (need [isRec 4 n fun k => [Bo.i (a k), Bo.i (b k), Bo.i (u k), Bo.i (v k)], isRec 2 m fun k => [Pt.i (p k), Pt.i (q k)]] (branch (decide (z1 = (0 : Int))) (branch ((0 : Int) != (0 : Int)) (leaf (RV.tup [RV.x (Value.slice none 0 0), RV.x (Value.int IntKind.i64 (0 : Int))])) (branch (!bt (0 : Int) day (10000 : Int)) z4 (need [z1 = (0 : Int), (0 : Int) ≤ day ∧ day ≤ (10000 : Int), drB (z0) ∧ bdB (z0) ∧ (1 : Int) ≤ c ∧ c ≤ (10 : Int)] (need [Eq1 z3, day = day, Eq1 z5, Eq1 (ptr 0 0), Eq1 (ptr 1 0), Eq1 (ptr 2 0), Eq1 (AV.x (Value.slice none 0 0)), Eq1 (0 : Int), Eq1 (ptr 10 0), Eq1 (0 : Int), Eq1 (ptr 18 0), Eq1 z7, 0 = 0, ∀ (i : Nat), i < 0 → [] = [iI (onL (z0) i day - teM c i), iI (onH (z0) i day - teM c i)], Eq1 (AV.row 901), Eq1 (roI [iI c, iI T, iI lo, iI hi, lst 4 n (rq4 a b u v), lst 2 m fun k => [iI (p k), iI (q k)]] 26 (fun a_1 => z0 a_1) 0), Eq1 z5, day = day, c = c, T = T, lo = lo, hi = hi, z6 = lst 4 n (rq4 a b u v), (lst 2 m fun k => [iI (p k), iI (q k)]) = lst 2 m fun k => [iI (p k), iI (q k)], pl = pl, ph = ph, dl = dl, dh = dh] z2)))) (branch (z1 != (0 : Int)) (leaf (RV.tup [RV.x (Value.slice none 0 0), RV.x (Value.int IntKind.i64 (z1))])) (branch (!bt (0 : Int) day (10000 : Int)) z4 (need [z1 = (0 : Int), (0 : Int) ≤ day ∧ day ≤ (10000 : Int), drB (z0) ∧ bdB (z0) ∧ (1 : Int) ≤ c ∧ c ≤ (10 : Int)] (need [Eq1 z3, day = day, Eq1 z5, Eq1 (ptr 0 0), Eq1 (ptr 1 0), Eq1 (ptr 2 0), Eq1 (AV.x (Value.slice none 0 0)), Eq1 (0 : Int), Eq1 (ptr 10 0), z1 = (0 : Int), Eq1 (ptr 18 0), Eq1 z7, 0 = 0, ∀ (i : Nat), i < 0 → [] = [iI (onL (z0) i day - teM c i), iI (onH (z0) i day - teM c i)], Eq1 (AV.row 901), AV.x (Value.pointer none) = roI [iI c, iI T, iI lo, iI hi, lst 4 n (rq4 a b u v), lst 2 m fun k => [iI (p k), iI (q k)]] 26 (fun a_1 => z0 a_1) 0, Eq1 z5, day = day, c = c, T = T, lo = lo, hi = hi, z6 = lst 4 n (rq4 a b u v), (lst 2 m fun k => [iI (p k), iI (q k)]) = lst 2 m fun k => [iI (p k), iI (q k)], pl = pl, ph = ph, dl = dl, dh = dh] z2)))))))) (by kernel_rfl) ?_
 simp only [Tree.sat, allP, fitP, fitL, valEq, true_and, and_true, decide_eq_true_eq, decide_eq_false_iff_not, bne_iff_ne, ne_eq, bne_eq_false_iff_eq, beq_iff_eq, beq_eq_false_iff_ne, Bool.not_eq_true', Bool.not_eq_false', not_true_eq_false, false_imp_iff, true_imp_iff]
 have e2 : rdE c T lo hi n a b u v m p q pl ph dl dh = 0 → bt 0 day 10000 = false → hdE c T lo hi n a b u v m p q pl ph dl dh day = 2 := fun h h' => by
  unfold hdE
  rw [if_pos h, h']
  rfl
 have e0 : rdE c T lo hi n a b u v m p q pl ph dl dh = 0 → bt 0 day 10000 = true → hdE c T lo hi n a b u v m p q pl ph dl dh day = 0 := fun h h' => by
  unfold hdE
  rw [if_pos h, h']
  rfl
 have er : ¬ rdE c T lo hi n a b u v m p q pl ph dl dh = 0 → hdE c T lo hi n a b u v m p q pl ph dl dh day = rdE c T lo hi n a b u v m p q pl ph dl dh := fun h => if_neg h
 have eN : ∀ k : Int, hdE c T lo hi n a b u v m p q pl ph dl dh day = k → k ≠ 0 → (isNil (Value.slice none 0 0) ∧ hdN c T lo hi n a b u v m p q pl ph dl dh day = 0) ∧ k = hdE c T lo hi n a b u v m p q pl ph dl dh day := fun k h hk => ⟨⟨by trivial, if_neg (by rw [h]; exact hk)⟩, h.symm⟩
 have eP : rdE c T lo hi n a b u v m p q pl ph dl dh = 0 → bt 0 day 10000 = true → hdN c T lo hi n a b u v m p q pl ph dl dh day = c.toNat + 1 := fun h h' => if_pos (e0 h h')
 refine ⟨⟨Bo.isRec4 n a b u v, Pt.isRec2 m p q⟩, fun h => ⟨fun h' => eN 2 (e2 h h') (by decide), fun h' => ?_⟩, fun h => ⟨fun _ => eN _ (er h) h, fun h'' => absurd h'' h⟩⟩
 have hw := wk_ok h
 have hb := (bt_iff _ _ _).1 h'
 refine ⟨⟨h, hb, hw.1, hw.2.1, hw.2.2.1⟩, fun j hj => absurd hj (Nat.not_lt_zero _), ⟨?_, fun j _ x hx => ?_⟩, (e0 h h').symm⟩
 ·rw [eP h h']
  omega
 ·simp only [List.mem_cons, List.not_mem_nil, or_false] at hx
  rcases hx with rfl | rfl <;> exact True.intro
def S_eachO : Sx.Spec := fun l => match l with
 | [.agg [.x (.int .i64 c), .x (.int .i64 T), .x (.int .i64 lo), .x (.int .i64 hi), .lst 4 n fr, .lst 2 m ft, .x (.int .i64 pl), .x (.int .i64 ph), .x (.int .i64 dl), .x (.int .i64 dh)], .x (.int .i64 day), .fn (.func 67) [] []] => some ([isRec 4 n fr, isRec 2 m ft], .tup [.lst 2 (hdN c T lo hi n (col 0 fr) (col 1 fr) (col 2 fr) (col 3 fr) m (Pt.col 0 ft) (Pt.col 1 ft) pl ph dl dh day) (fun k => [i (onL (wkA c T lo hi n (col 0 fr) (col 1 fr) (col 2 fr) (col 3 fr) m (Pt.col 0 ft) (Pt.col 1 ft) pl ph dl dh) k day), i (onH (wkA c T lo hi n (col 0 fr) (col 1 fr) (col 2 fr) (col 3 fr) m (Pt.col 0 ft) (Pt.col 1 ft) pl ph dl dh) k day)]), i (hdE c T lo hi n (col 0 fr) (col 1 fr) (col 2 fr) (col 3 fr) m (Pt.col 0 ft) (Pt.col 1 ft) pl ph dl dh day)])
 | _ => none
theorem eachO_ok : SoundSpec Tryz.prog 78 S_eachO := by
 refine ⟨⟨_, Tryz.func78, by kernel_rfl, by kernel_rfl⟩, ?_⟩
 intro avs ns res h hn
 unfold S_eachO at h
 split at h
 ·cases h
  have hr : isRec 4 _ _ := hn _ List.mem_cons_self
  have ht : isRec 2 _ _ := hn _ (List.mem_cons_of_mem _ List.mem_cons_self)
  exact (eachO_at _ _ _ _ _ _ _ _ _ _ _ _ _ _ _ _ _).same (.cons (Sames.same (.cons (.refl _) (.cons (.refl _) (.cons (.refl _) (.cons (.refl _) (.cons (.lst 4 _ _ _ hr) (.cons (.lst 2 _ _ _ ht) (.cons (.refl _) (.cons (.refl _) (.cons (.refl _) (.cons (.refl _) .nil))))))))))) (.cons (.refl _) (.cons (.refl _) .nil)))
 ·cases h
def S_eachC : Sx.Spec := fun l => match l with
 | [.agg [.x (.int .i64 c), .x (.int .i64 T), .x (.int .i64 lo), .x (.int .i64 hi), .lst 4 n fr, .lst 2 m ft, .x (.int .i64 pl), .x (.int .i64 ph), .x (.int .i64 dl), .x (.int .i64 dh)], .x (.int .i64 day), .fn (.func 81) [] []] => some ([isRec 4 n fr, isRec 2 m ft], .tup [.lst 2 (hdN c T lo hi n (col 0 fr) (col 1 fr) (col 2 fr) (col 3 fr) m (Pt.col 0 ft) (Pt.col 1 ft) pl ph dl dh day) (fun k => [i (onL (wkA c T lo hi n (col 0 fr) (col 1 fr) (col 2 fr) (col 3 fr) m (Pt.col 0 ft) (Pt.col 1 ft) pl ph dl dh) k day - teM c k), i (onH (wkA c T lo hi n (col 0 fr) (col 1 fr) (col 2 fr) (col 3 fr) m (Pt.col 0 ft) (Pt.col 1 ft) pl ph dl dh) k day - teM c k)]), i (hdE c T lo hi n (col 0 fr) (col 1 fr) (col 2 fr) (col 3 fr) m (Pt.col 0 ft) (Pt.col 1 ft) pl ph dl dh day)])
 | _ => none
theorem eachC_ok : SoundSpec Tryz.prog 78 S_eachC := by
 refine ⟨⟨_, Tryz.func78, by kernel_rfl, by kernel_rfl⟩, ?_⟩
 intro avs ns res h hn
 unfold S_eachC at h
 split at h
 ·cases h
  have hr : isRec 4 _ _ := hn _ List.mem_cons_self
  have ht : isRec 2 _ _ := hn _ (List.mem_cons_of_mem _ List.mem_cons_self)
  exact (eachC_at _ _ _ _ _ _ _ _ _ _ _ _ _ _ _ _ _).same (.cons (Sames.same (.cons (.refl _) (.cons (.refl _) (.cons (.refl _) (.cons (.refl _) (.cons (.lst 4 _ _ _ hr) (.cons (.lst 2 _ _ _ ht) (.cons (.refl _) (.cons (.refl _) (.cons (.refl _) (.cons (.refl _) .nil))))))))))) (.cons (.refl _) (.cons (.refl _) .nil)))
 ·cases h
theorem Heights_at (c T lo hi : Int) (n : Nat) (a b u v : Nat → Int) (m : Nat) (p q : Nat → Int) (pl ph dl dh : Int) (day : Int) : SoundAtR Tryz.prog 32 [.agg [i c, i T, i lo, i hi, rds n a b u v, Pt.scs m p q, i pl, i ph, i dl, i dh], i day] (.tup [.lst 2 (hdN c T lo hi n a b u v m p q pl ph dl dh day) (fun k => [i (onL (wkA c T lo hi n a b u v m p q pl ph dl dh) k day), i (onH (wkA c T lo hi n a b u v m p q pl ph dl dh) k day)]), i (hdE c T lo hi n a b u v m p q pl ph dl dh day)]) := by
 refine soundAtR_fin (G := [(78, S_eachO)]) (X := {}) (L := []) (SoundG.cons eachO_ok (SoundG.nil _)) (SoundX.of (SoundRL.nil _) (SoundHL.nil _)) mixed Tryz.func32 (show Tryz.f32.body = some (bodyOf Tryz.f32) by kernel_rfl) noLoopsS (t := (need [isRec 4 n fun k => [Bo.i (a k), Bo.i (b k), Bo.i (u k), Bo.i (v k)], isRec 2 m fun k => [Pt.i (p k), Pt.i (q k)]] (leaf (tup [lst 2 (hdN c T lo hi n a b u v m p q pl ph dl dh day) fun k => [iI (onL (wkA c T lo hi n a b u v m p q pl ph dl dh) k day), iI (onH (wkA c T lo hi n a b u v m p q pl ph dl dh) k day)], iI (hdE c T lo hi n a b u v m p q pl ph dl dh day)])))) (by kernel_rfl) ?_
 simp only [Tree.sat, allP, true_and, and_true]
 exact ⟨⟨Bo.isRec4 n a b u v, Pt.isRec2 m p q⟩, ⟨rfl, rfl, fun _ _ => rfl⟩, ⟨rfl, rfl⟩, True.intro⟩
def S_Heights : Sx.Spec := fun l => match l with
 | [.agg [.x (.int .i64 c), .x (.int .i64 T), .x (.int .i64 lo), .x (.int .i64 hi), .lst 4 n fr, .lst 2 m ft, .x (.int .i64 pl), .x (.int .i64 ph), .x (.int .i64 dl), .x (.int .i64 dh)], .x (.int .i64 day)] => some ([isRec 4 n fr, isRec 2 m ft], .tup [.lst 2 (hdN c T lo hi n (col 0 fr) (col 1 fr) (col 2 fr) (col 3 fr) m (Pt.col 0 ft) (Pt.col 1 ft) pl ph dl dh day) (fun k => [i (onL (wkA c T lo hi n (col 0 fr) (col 1 fr) (col 2 fr) (col 3 fr) m (Pt.col 0 ft) (Pt.col 1 ft) pl ph dl dh) k day), i (onH (wkA c T lo hi n (col 0 fr) (col 1 fr) (col 2 fr) (col 3 fr) m (Pt.col 0 ft) (Pt.col 1 ft) pl ph dl dh) k day)]), i (hdE c T lo hi n (col 0 fr) (col 1 fr) (col 2 fr) (col 3 fr) m (Pt.col 0 ft) (Pt.col 1 ft) pl ph dl dh day)])
 | _ => none
theorem Heights_okR : SoundR Tryz.prog 32 S_Heights := by
 refine ⟨⟨_, Tryz.func32, by kernel_rfl, by kernel_rfl⟩, ?_⟩
 intro avs ns res h hn
 unfold S_Heights at h
 split at h
 ·cases h
  have hr : isRec 4 _ _ := hn _ List.mem_cons_self
  have ht : isRec 2 _ _ := hn _ (List.mem_cons_of_mem _ List.mem_cons_self)
  exact sameR (Heights_at _ _ _ _ _ _ _ _ _ _ _ _ _ _ _ _ _ ) (.cons (Sames.same (.cons (.refl _) (.cons (.refl _) (.cons (.refl _) (.cons (.refl _) (.cons (.lst 4 _ _ _ hr) (.cons (.lst 2 _ _ _ ht) (.cons (.refl _) (.cons (.refl _) (.cons (.refl _) (.cons (.refl _) .nil))))))))))) (.cons (.refl _) .nil))
 ·cases h
theorem Corrections_at (c T lo hi : Int) (n : Nat) (a b u v : Nat → Int) (m : Nat) (p q : Nat → Int) (pl ph dl dh : Int) (day : Int) : SoundAtR Tryz.prog 41 [.agg [i c, i T, i lo, i hi, rds n a b u v, Pt.scs m p q, i pl, i ph, i dl, i dh], i day] (.tup [.lst 2 (hdN c T lo hi n a b u v m p q pl ph dl dh day) (fun k => [i (onL (wkA c T lo hi n a b u v m p q pl ph dl dh) k day - teM c k), i (onH (wkA c T lo hi n a b u v m p q pl ph dl dh) k day - teM c k)]), i (hdE c T lo hi n a b u v m p q pl ph dl dh day)]) := by
 refine soundAtR_fin (G := [(78, S_eachC)]) (X := {}) (L := []) (SoundG.cons eachC_ok (SoundG.nil _)) (SoundX.of (SoundRL.nil _) (SoundHL.nil _)) mixed Tryz.func41 (show Tryz.f41.body = some (bodyOf Tryz.f41) by kernel_rfl) noLoopsS (t := (need [isRec 4 n fun k => [Bo.i (a k), Bo.i (b k), Bo.i (u k), Bo.i (v k)], isRec 2 m fun k => [Pt.i (p k), Pt.i (q k)]] (leaf (tup [lst 2 (hdN c T lo hi n a b u v m p q pl ph dl dh day) fun k => [iI (onL (wkA c T lo hi n a b u v m p q pl ph dl dh) k day - teM c k), iI (onH (wkA c T lo hi n a b u v m p q pl ph dl dh) k day - teM c k)], iI (hdE c T lo hi n a b u v m p q pl ph dl dh day)])))) (by kernel_rfl) ?_
 simp only [Tree.sat, allP, true_and, and_true]
 exact ⟨⟨Bo.isRec4 n a b u v, Pt.isRec2 m p q⟩, ⟨rfl, rfl, fun _ _ => rfl⟩, ⟨rfl, rfl⟩, True.intro⟩
def S_Corrections : Sx.Spec := fun l => match l with
 | [.agg [.x (.int .i64 c), .x (.int .i64 T), .x (.int .i64 lo), .x (.int .i64 hi), .lst 4 n fr, .lst 2 m ft, .x (.int .i64 pl), .x (.int .i64 ph), .x (.int .i64 dl), .x (.int .i64 dh)], .x (.int .i64 day)] => some ([isRec 4 n fr, isRec 2 m ft], .tup [.lst 2 (hdN c T lo hi n (col 0 fr) (col 1 fr) (col 2 fr) (col 3 fr) m (Pt.col 0 ft) (Pt.col 1 ft) pl ph dl dh day) (fun k => [i (onL (wkA c T lo hi n (col 0 fr) (col 1 fr) (col 2 fr) (col 3 fr) m (Pt.col 0 ft) (Pt.col 1 ft) pl ph dl dh) k day - teM c k), i (onH (wkA c T lo hi n (col 0 fr) (col 1 fr) (col 2 fr) (col 3 fr) m (Pt.col 0 ft) (Pt.col 1 ft) pl ph dl dh) k day - teM c k)]), i (hdE c T lo hi n (col 0 fr) (col 1 fr) (col 2 fr) (col 3 fr) m (Pt.col 0 ft) (Pt.col 1 ft) pl ph dl dh day)])
 | _ => none
theorem Corrections_okR : SoundR Tryz.prog 41 S_Corrections := by
 refine ⟨⟨_, Tryz.func41, by kernel_rfl, by kernel_rfl⟩, ?_⟩
 intro avs ns res h hn
 unfold S_Corrections at h
 split at h
 ·cases h
  have hr : isRec 4 _ _ := hn _ List.mem_cons_self
  have ht : isRec 2 _ _ := hn _ (List.mem_cons_of_mem _ List.mem_cons_self)
  exact sameR (Corrections_at _ _ _ _ _ _ _ _ _ _ _ _ _ _ _ _ _ ) (.cons (Sames.same (.cons (.refl _) (.cons (.refl _) (.cons (.refl _) (.cons (.refl _) (.cons (.lst 4 _ _ _ hr) (.cons (.lst 2 _ _ _ ht) (.cons (.refl _) (.cons (.refl _) (.cons (.refl _) (.cons (.refl _) .nil))))))))))) (.cons (.refl _) .nil))
 ·cases h
end Go.Proofs.YtlinbkmpkcmniaaGreat
