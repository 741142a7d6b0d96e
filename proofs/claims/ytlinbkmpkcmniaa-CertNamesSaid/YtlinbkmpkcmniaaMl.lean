/- Texts of this claim, put together: BoM, BoN, BoO, BoP, CeA, CeB, CeC, CeD, BoQ, BoR, BoS, BoT, BoU, BoV, BoW, BoX, CeE, CeF, CeG, CeH, CeI, CeJ, CeK -/
import Derived.Test.YtlinbkmpkcmniaaMk
import Derived.WalkKit
import Derived.Lib.Walk
import Derived.Lib.SliceRun
import Derived.Lib.AppendZerosOnto
set_option linter.unusedSimpArgs false
set_option linter.unusedVariables false
set_option maxRecDepth 100000
namespace Go.Proofs.Ytlinbkmpkcmniaa.Bo
open Go Go.Sx Go.RowKit
open Go.Sx.Tree (need branch leaf)
open Go.Sx.AV (lst ptr agg roI tup top)
end Go.Proofs.Ytlinbkmpkcmniaa.Bo
namespace Go.Proofs.Ytlinbkmpkcmniaa.Bo
open Go Go.Sx Go.RowKit
open Go.Sx.Tree (need branch leaf)
open Go.Sx.AV (lst ptr agg roI tup top)
theorem isRec1 (n : Nat) (f : Nat → Int) : isRec 1 n (fun k => [i (f k)]) := fun _ _ => rfl
end Go.Proofs.Ytlinbkmpkcmniaa.Bo
namespace Go.Proofs.Ytlinbkmpkcmniaa.Bo
open Go Go.Sx Go.RowKit
open Go.Sx.Tree (need branch leaf)
open Go.Sx.AV (lst ptr agg roI tup top)
def selF (f g : Nat → Int) (j : Nat) : Int := f (g j).toNat
end Go.Proofs.Ytlinbkmpkcmniaa.Bo
namespace Go.Proofs.Ytlinbkmpkcmniaa.Bo
open Go Go.Sx Go.RowKit
open Go.Sx.Tree (need branch leaf)
open Go.Sx.AV (lst ptr agg roI tup top)
end Go.Proofs.Ytlinbkmpkcmniaa.Bo
namespace Go.Proofs.Ytlinbkmpkcmniaa
open Go Go.Sx Go.RowKit Bo
open Go.Sx.Tree (need branch leaf)
open Go.Sx.AV (lst ptr agg roI tup top)
theorem mixed : Try.prog.follows .mixedOrders = true := by kernel_rfl
abbrev i (n : Int) : AV := .x (.int .i64 n)
abbrev iI (n : Int) : AV := .x (.int .i64 n)
abbrev bl (b : Bool) : AV := .x (.bool b)
abbrev bt := Bo.bt
abbrev insB := Bo.insB
def dnI (n d : Int) : Int := n.tdiv d
def upI (n d : Int) : Int := (n + d - 1).tdiv d
theorem bt_iff (lo n hi : Int) : bt lo n hi = true ↔ lo ≤ n ∧ n ≤ hi := Bo.bt_iff lo n hi
theorem insB_iff (lo a b hi : Int) : insB lo a b hi = true ↔ lo ≤ a ∧ a ≤ b ∧ b ≤ hi := Bo.insB_iff lo a b hi
theorem dn_spec {n d : Int} (hn : 0 ≤ n) (hd : 1 ≤ d) : dnI n d * d ≤ n ∧ n < dnI n d * d + d ∧ 0 ≤ dnI n d ∧ dnI n d ≤ n := by
 unfold dnI
 rw [Int.tdiv_eq_ediv_of_nonneg hn]
 have h1 := Int.mul_ediv_add_emod n d
 have h2 := Int.emod_nonneg n (show d ≠ 0 by omega)
 have h3 := Int.emod_lt_of_pos n (show 0 < d by omega)
 have h4 := Int.ediv_nonneg hn (show 0 ≤ d by omega)
 have h5 := Int.ediv_le_self d hn
 rw [Int.mul_comm] at h1
 omega
theorem up_spec {n d : Int} (hn : 0 ≤ n) (hd : 1 ≤ d) : upI n d * d - d < n ∧ n ≤ upI n d * d ∧ 0 ≤ upI n d ∧ upI n d ≤ n := by
 have h := dn_spec (n := n + d - 1) (by omega) hd
 have e : upI n d = dnI (n + d - 1) d := rfl
 rw [e]
 refine ⟨by omega, by omega, h.2.2.1, ?_⟩
 rcases Int.lt_or_le n (dnI (n + d - 1) d) with h1 | h1
 ·have h2 := Int.mul_le_mul_of_nonneg_right (show n + 1 ≤ dnI (n + d - 1) d by omega) (show 0 ≤ d by omega)
  rw [Int.add_mul, Int.one_mul] at h2
  have h3 := Int.mul_nonneg hn (show 0 ≤ d - 1 by omega)
  rw [Int.mul_sub, Int.mul_one] at h3
  omega
 ·exact h1
def S_within : Sx.Spec := fun l => match l with
 | [.x (.int .i64 n), .x (.int .i64 lo), .x (.int .i64 hi)] => some ([], bl (bt lo n hi))
 | _ => none
theorem within_at (n lo hi : Int) : SoundAt Try.prog 25 [i n, i lo, i hi] (bl (bt lo n hi)) := by
 refine soundAt_fin (G := []) (L := []) (SoundG.nil _) mixed Try.func25 (show Try.f25.body = some (bodyOf Try.f25) by kernel_rfl) noLoops (t := (branch (decide (lo ≤ n)) (leaf (RV.x (Value.bool (decide (n ≤ hi))))) (leaf (RV.x (Value.bool false))))) (by kernel_rfl) ?_
 simp only [Tree.sat, allP, fitP, fitL, valEq, true_and, and_true]
 all_goals (simp +contextual [bt, insB, Bo.bt, Bo.insB, Bool.and_assoc])
 all_goals omega
theorem within_ok : SoundSpec Try.prog 25 S_within := by
 refine ⟨⟨_, Try.func25, by kernel_rfl, by kernel_rfl⟩, ?_⟩
 intro avs ns res h hn
 unfold S_within at h
 split at h
 ·cases h
  exact within_at _ _ _
 ·cases h
def S_inside : Sx.Spec := fun l => match l with
 | [.agg [.x (.int .i64 a), .x (.int .i64 b)], .x (.int .i64 lo), .x (.int .i64 hi)] => some ([], bl (insB lo a b hi))
 | _ => none
theorem inside_at (a b lo hi : Int) : SoundAt Try.prog 41 [.agg [i a, i b], i lo, i hi] (bl (insB lo a b hi)) := by
 refine soundAt_fin (G := []) (L := []) (SoundG.nil _) mixed Try.func41 (show Try.f41.body = some (bodyOf Try.f41) by kernel_rfl) noLoops (t := (branch (decide (lo ≤ a)) (branch (decide (a ≤ b)) (leaf (RV.x (Value.bool (decide (b ≤ hi))))) (leaf (RV.x (Value.bool false)))) (leaf (RV.x (Value.bool false))))) (by kernel_rfl) ?_
 simp only [Tree.sat, allP, fitP, fitL, valEq, true_and, and_true]
 all_goals (simp +contextual [bt, insB, Bo.bt, Bo.insB, Bool.and_assoc])
 all_goals omega
theorem inside_ok : SoundSpec Try.prog 41 S_inside := by
 refine ⟨⟨_, Try.func41, by kernel_rfl, by kernel_rfl⟩, ?_⟩
 intro avs ns res h hn
 unfold S_inside at h
 split at h
 ·cases h
  exact inside_at _ _ _ _
 ·cases h
def S_down : Sx.Spec := fun l => match l with
 | [.x (.int .i64 n), .x (.int .i64 d)] => some ([1 ≤ d ∧ d ≤ 100000, 0 ≤ n ∧ n ≤ 1000000000000], i (dnI n d))
 | _ => none
theorem down_at (n d : Int) (pre0 : 1 ≤ d ∧ d ≤ 100000) (pre1 : 0 ≤ n ∧ n ≤ 1000000000000) : SoundAt Try.prog 44 [i n, i d] (i (dnI n d)) := by
 refine soundAt_fin (G := []) (L := []) (SoundG.nil _) mixed Try.func44 (show Try.f44.body = some (bodyOf Try.f44) by kernel_rfl) noLoops (t := (need [d ≠ (0 : Int), inI64 (Int.tdiv n d)] (leaf (RV.x (Value.int IntKind.i64 (Int.tdiv n d)))))) (by kernel_rfl) ?_
 have h := dn_spec pre1.1 pre0.1
 unfold dnI at h ⊢
 simp only [Tree.sat, allP, fitP, fitL, valEq, inI64, true_and, and_true]
 omega
theorem down_ok : SoundSpec Try.prog 44 S_down := by
 refine ⟨⟨_, Try.func44, by kernel_rfl, by kernel_rfl⟩, ?_⟩
 intro avs ns res h hn
 unfold S_down at h
 split at h
 ·cases h
  exact down_at _ _ (hn _ (by simp)) (hn _ (by simp))
 ·cases h
def S_up : Sx.Spec := fun l => match l with
 | [.x (.int .i64 n), .x (.int .i64 d)] => some ([1 ≤ d ∧ d ≤ 100000, 0 ≤ n ∧ n ≤ 1000000000000], i (upI n d))
 | _ => none
theorem up_at (n d : Int) (pre0 : 1 ≤ d ∧ d ≤ 100000) (pre1 : 0 ≤ n ∧ n ≤ 1000000000000) : SoundAt Try.prog 45 [i n, i d] (i (upI n d)) := by
 refine soundAt_fin (G := []) (L := []) (SoundG.nil _) mixed Try.func45 (show Try.f45.body = some (bodyOf Try.f45) by kernel_rfl) noLoops (t := (need [inI64 (n + d)] (need [inI64 (n + d - (1 : Int))] (need [d ≠ (0 : Int), inI64 (Int.tdiv (n + d - (1 : Int)) d)] (leaf (RV.x (Value.int IntKind.i64 (Int.tdiv (n + d - (1 : Int)) d)))))))) (by kernel_rfl) ?_
 have h := up_spec pre1.1 pre0.1
 unfold upI at h ⊢
 simp only [Tree.sat, allP, fitP, fitL, valEq, inI64, true_and, and_true]
 omega
theorem up_ok : SoundSpec Try.prog 45 S_up := by
 refine ⟨⟨_, Try.func45, by kernel_rfl, by kernel_rfl⟩, ?_⟩
 intro avs ns res h hn
 unfold S_up at h
 split at h
 ·cases h
  exact up_at _ _ (hn _ (by simp)) (hn _ (by simp))
 ·cases h
theorem dr_bd {a day : Int} (ha : 0 ≤ a ∧ a ≤ 100) (hd : 0 ≤ day ∧ day ≤ 100000) : 0 ≤ a * day ∧ a * day ≤ 10000000 := by
 have h1 := Int.mul_nonneg ha.1 hd.1
 have h2 := Bo.mul_bd (x := a) (y := day) (X := 100) (Y := 100000) (by omega) (by omega)
 omega
def S_risen : Sx.Spec := fun l => match l with
 | [.agg [.x (.int .i64 a), .x (.int .i64 b)], .x (.int .i64 day)] => some ([0 ≤ a ∧ a ≤ 100, 0 ≤ b ∧ b ≤ 100, 0 ≤ day ∧ day ≤ 100000], .agg [i (dnI (a * day) 100), i (upI (b * day) 100)])
 | _ => none
theorem risen_at (a b day : Int) (pre0 : 0 ≤ a ∧ a ≤ 100) (pre1 : 0 ≤ b ∧ b ≤ 100) (pre2 : 0 ≤ day ∧ day ≤ 100000) : SoundAt Try.prog 49 [.agg [i a, i b], i day] (.agg [i (dnI (a * day) 100), i (upI (b * day) 100)]) := by
 refine soundAt_fin (G := [(44, S_down), (45, S_up)]) (L := []) (SoundG.cons down_ok (SoundG.cons up_ok (SoundG.nil _))) mixed Try.func49 (show Try.f49.body = some (bodyOf Try.f49) by kernel_rfl) noLoops (t := (need [inI64 (a * day)] (need [(1 : Int) ≤ 100 ∧ (100 : Int) ≤ 100000, (0 : Int) ≤ a * day ∧ a * day ≤ (1000000000000 : Int)] (need [inI64 (b * day)] (need [(1 : Int) ≤ 100 ∧ (100 : Int) ≤ 100000, (0 : Int) ≤ b * day ∧ b * day ≤ (1000000000000 : Int)] (leaf (RV.agg [RV.x (Value.int IntKind.i64 (dnI (a * day) (100 : Int))), RV.x (Value.int IntKind.i64 (upI (b * day) (100 : Int)))]))))))) (by kernel_rfl) ?_
 have h1 := dr_bd pre0 pre2
 have h2 := dr_bd pre1 pre2
 simp only [Tree.sat, allP, fitP, fitL, valEq, inI64, true_and, and_true]
 omega
theorem risen_ok : SoundSpec Try.prog 49 S_risen := by
 refine ⟨⟨_, Try.func49, by kernel_rfl, by kernel_rfl⟩, ?_⟩
 intro avs ns res h hn
 unfold S_risen at h
 split at h
 ·cases h
  exact risen_at _ _ _ (hn _ (by simp)) (hn _ (by simp)) (hn _ (by simp))
 ·cases h
def onL (f : Nat → Int) (k : Nat) (day : Int) : Int := f (4 + 2 * k) - upI (f 3 * day) 100
def onH (f : Nat → Int) (k : Nat) (day : Int) : Int := f (5 + 2 * k) - dnI (f 2 * day) 100
def teM (c : Int) (k : Nat) : Int := dnI (1000 * k) c
def drB (f : Nat → Int) : Prop := (0 ≤ f 2 ∧ f 2 ≤ 100) ∧ (0 ≤ f 3 ∧ f 3 ≤ 100)
def bdB (f : Nat → Int) : Prop := ∀ j, j < 22 → -100000000000 ≤ f (4 + j) ∧ f (4 + j) ≤ 100000000000
theorem ri_bd {f : Nat → Int} {day : Int} (h : drB f) (hd : 0 ≤ day ∧ day ≤ 100000) : (0 ≤ upI (f 3 * day) 100 ∧ upI (f 3 * day) 100 ≤ 10000000) ∧ 0 ≤ dnI (f 2 * day) 100 ∧ dnI (f 2 * day) 100 ≤ 10000000 := by
 have h1 := dr_bd h.1 hd
 have h2 := dr_bd h.2 hd
 have h3 := dn_spec h1.1 (show (1 : Int) ≤ 100 by omega)
 have h4 := up_spec h2.1 (show (1 : Int) ≤ 100 by omega)
 omega
theorem low_at (c T lo hi : Int) (A B : AV) (f : Nat → Int) (k : Nat) (day : Int) (pre0 : drB f) (pre1 : bdB f) (pre2 : k ≤ 10) (pre3 : 0 ≤ day ∧ day ≤ 100000) : SoundAt Try.prog 32 [.roI [i c, i T, i lo, i hi, A, B] 26 f 0, i k, i day] (i (onL f k day)) := by
 refine soundAt_fin (G := [(49, S_risen)]) (L := []) (SoundG.cons risen_ok (SoundG.nil _)) mixed Try.func32 (show Try.f32.body = some (bodyOf Try.f32) by kernel_rfl) noLoops (t := (need [(0 : Int) ≤ (↑k : Int) ∧ (↑k : Int) < (↑(11 : Nat) : Int)] (need [k * 2 + 10 + 0 - 1 - 1 - 1 - 1 - 1 - 1 < 26] (need [2 + 2 ≤ 26] (need [(0 : Int) ≤ f (2 + nat_lit 0) ∧ f (2 + nat_lit 0) ≤ (100 : Int), (0 : Int) ≤ f (2 + nat_lit 1) ∧ f (2 + nat_lit 1) ≤ (100 : Int), (0 : Int) ≤ day ∧ day ≤ (100000 : Int)] (need [inI64 (f (k * 2 + 10 + 0 - 1 - 1 - 1 - 1 - 1 - 1) - upI (f (2 + nat_lit 1) * day) (100 : Int))] (leaf (RV.x (Value.int IntKind.i64 (f (k * 2 + 10 + 0 - 1 - 1 - 1 - 1 - 1 - 1) - upI (f (2 + nat_lit 1) * day) (100 : Int))))))))))) (by kernel_rfl) ?_
 have h0 := ri_bd pre0 pre3
 have h1 := pre1 (2 * k) (by omega)
 have h2 := pre1 (2 * k + 1) (by omega)
 rw [show 4 + (2 * k + 1) = 5 + 2 * k by omega] at h2
 have d1 := pre0.1
 have d2 := pre0.2
 
 have hi6 : inI64 (f (4 + 2 * k) - upI (f 3 * day) 100) := by
  simp only [inI64]
  omega
 simp only [Tree.sat, allP, fitP, fitL, valEq, true_and, and_true]
 rw [show k * 2 + 10 + 0 - 1 - 1 - 1 - 1 - 1 - 1 = 4 + 2 * k by omega]
 exact ⟨by omega, by omega, by omega, ⟨d1, d2, pre3⟩, hi6, rfl⟩
def S_low : Sx.Spec := fun l => match l with
 | [.roI [.x (.int .i64 c), .x (.int .i64 T), .x (.int .i64 lo), .x (.int .i64 hi), A, B] 26 f 0, .x (.int .i64 k), .x (.int .i64 day)] => some ([drB f, bdB f, 0 ≤ k ∧ k ≤ 10, 0 ≤ day ∧ day ≤ 100000], i (onL f k.toNat day))
 | _ => none
theorem low_ok : SoundSpec Try.prog 32 S_low := by
 refine ⟨⟨_, Try.func32, by kernel_rfl, by kernel_rfl⟩, ?_⟩
 intro avs ns res h hn
 unfold S_low at h
 split at h
 ·rename_i c T lo hi A B f k day
  cases h
  have hk : 0 ≤ k ∧ k ≤ 10 := hn _ (by simp)
  have e : ((k.toNat : Nat) : Int) = k := by omega
  have h0 := low_at c T lo hi A B f k.toNat day (hn _ (by simp)) (hn _ (by simp)) (by omega) (hn _ (by simp))
  rw [e] at h0
  exact h0
 ·cases h
theorem high_at (c T lo hi : Int) (A B : AV) (f : Nat → Int) (k : Nat) (day : Int) (pre0 : drB f) (pre1 : bdB f) (pre2 : k ≤ 10) (pre3 : 0 ≤ day ∧ day ≤ 100000) : SoundAt Try.prog 33 [.roI [i c, i T, i lo, i hi, A, B] 26 f 0, i k, i day] (i (onH f k day)) := by
 refine soundAt_fin (G := [(49, S_risen)]) (L := []) (SoundG.cons risen_ok (SoundG.nil _)) mixed Try.func33 (show Try.f33.body = some (bodyOf Try.f33) by kernel_rfl) noLoops (t := (need [(0 : Int) ≤ (↑k : Int) ∧ (↑k : Int) < (↑(11 : Nat) : Int)] (need [k * 2 + 10 + 1 - 1 - 1 - 1 - 1 - 1 - 1 < 26] (need [2 + 2 ≤ 26] (need [(0 : Int) ≤ f (2 + nat_lit 0) ∧ f (2 + nat_lit 0) ≤ (100 : Int), (0 : Int) ≤ f (2 + nat_lit 1) ∧ f (2 + nat_lit 1) ≤ (100 : Int), (0 : Int) ≤ day ∧ day ≤ (100000 : Int)] (need [inI64 (f (k * 2 + 10 + 1 - 1 - 1 - 1 - 1 - 1 - 1) - dnI (f (2 + nat_lit 0) * day) (100 : Int))] (leaf (RV.x (Value.int IntKind.i64 (f (k * 2 + 10 + 1 - 1 - 1 - 1 - 1 - 1 - 1) - dnI (f (2 + nat_lit 0) * day) (100 : Int))))))))))) (by kernel_rfl) ?_
 have h0 := ri_bd pre0 pre3
 have h1 := pre1 (2 * k) (by omega)
 have h2 := pre1 (2 * k + 1) (by omega)
 rw [show 4 + (2 * k + 1) = 5 + 2 * k by omega] at h2
 have d1 := pre0.1
 have d2 := pre0.2
 
 have hi6 : inI64 (f (5 + 2 * k) - dnI (f 2 * day) 100) := by
  simp only [inI64]
  omega
 simp only [Tree.sat, allP, fitP, fitL, valEq, true_and, and_true]
 rw [show k * 2 + 10 + 1 - 1 - 1 - 1 - 1 - 1 - 1 = 5 + 2 * k by omega]
 exact ⟨by omega, by omega, by omega, ⟨d1, d2, pre3⟩, hi6, rfl⟩
def S_high : Sx.Spec := fun l => match l with
 | [.roI [.x (.int .i64 c), .x (.int .i64 T), .x (.int .i64 lo), .x (.int .i64 hi), A, B] 26 f 0, .x (.int .i64 k), .x (.int .i64 day)] => some ([drB f, bdB f, 0 ≤ k ∧ k ≤ 10, 0 ≤ day ∧ day ≤ 100000], i (onH f k.toNat day))
 | _ => none
theorem high_ok : SoundSpec Try.prog 33 S_high := by
 refine ⟨⟨_, Try.func33, by kernel_rfl, by kernel_rfl⟩, ?_⟩
 intro avs ns res h hn
 unfold S_high at h
 split at h
 ·rename_i c T lo hi A B f k day
  cases h
  have hk : 0 ≤ k ∧ k ≤ 10 := hn _ (by simp)
  have e : ((k.toNat : Nat) : Int) = k := by omega
  have h0 := high_at c T lo hi A B f k.toNat day (hn _ (by simp)) (hn _ (by simp)) (by omega) (hn _ (by simp))
  rw [e] at h0
  exact h0
 ·cases h
theorem on_at (c T lo hi : Int) (A B : AV) (f : Nat → Int) (k : Nat) (day : Int) (pre0 : drB f) (pre1 : bdB f) (pre2 : k ≤ 10) (pre3 : 0 ≤ day ∧ day ≤ 100000) : SoundAt Try.prog 18 [.roI [i c, i T, i lo, i hi, A, B] 26 f 0, i k, i day] (.agg [i (onL f k day), i (onH f k day)]) := by
 refine soundAt_fin (G := [(32, S_low), (33, S_high)]) (L := []) (SoundG.cons low_ok (SoundG.cons high_ok (SoundG.nil _))) mixed Try.func18 (show Try.f18.body = some (bodyOf Try.f18) by kernel_rfl) noLoops (t := (need [drB f, bdB f, (0 : Int) ≤ (↑k : Int) ∧ (↑k : Int) ≤ 10, (0 : Int) ≤ day ∧ day ≤ (100000 : Int)] (need [drB f, bdB f, (0 : Int) ≤ (↑k : Int) ∧ (↑k : Int) ≤ 10, (0 : Int) ≤ day ∧ day ≤ (100000 : Int)] (leaf (RV.agg [RV.x (Value.int IntKind.i64 (onL f k day)), RV.x (Value.int IntKind.i64 (onH f k day))]))))) (by kernel_rfl) ?_
 simp only [Tree.sat, allP, fitP, fitL, valEq, true_and, and_true, Int.toNat_natCast]
 exact ⟨⟨pre0, pre1, by omega, pre3⟩, ⟨pre0, pre1, by omega, pre3⟩⟩
def S_on : Sx.Spec := fun l => match l with
 | [.roI [.x (.int .i64 c), .x (.int .i64 T), .x (.int .i64 lo), .x (.int .i64 hi), A, B] 26 f 0, .x (.int .i64 k), .x (.int .i64 day)] => some ([drB f, bdB f, 0 ≤ k ∧ k ≤ 10, 0 ≤ day ∧ day ≤ 100000], .agg [i (onL f k.toNat day), i (onH f k.toNat day)])
 | _ => none
theorem on_ok : SoundSpec Try.prog 18 S_on := by
 refine ⟨⟨_, Try.func18, by kernel_rfl, by kernel_rfl⟩, ?_⟩
 intro avs ns res h hn
 unfold S_on at h
 split at h
 ·rename_i c T lo hi A B f k day
  cases h
  have hk : 0 ≤ k ∧ k ≤ 10 := hn _ (by simp)
  have e : ((k.toNat : Nat) : Int) = k := by omega
  have h0 := on_at c T lo hi A B f k.toNat day (hn _ (by simp)) (hn _ (by simp)) (by omega) (hn _ (by simp))
  rw [e] at h0
  exact h0
 ·cases h
theorem te_bd {c : Int} {k : Nat} (hc : 1 ≤ c ∧ c ≤ 10) (hk : k ≤ 10) : 0 ≤ teM c k ∧ teM c k ≤ 10000 := by
 have := dn_spec (n := 1000 * k) (by omega) hc.1
 unfold teM
 omega
theorem tells_at (c T lo hi : Int) (A B : AV) (f : Nat → Int) (k : Nat) (pre0 : 1 ≤ c ∧ c ≤ 10) (pre1 : k ≤ 10) : SoundAt Try.prog 55 [.roI [i c, i T, i lo, i hi, A, B] 26 f 0, i k] (i (teM c k)) := by
 refine soundAt_fin (G := []) (L := []) (SoundG.nil _) mixed Try.func55 (show Try.f55.body = some (bodyOf Try.f55) by kernel_rfl) noLoops (t := (need [inI64 ((1000 : Int) * (↑k : Int))] (need [c ≠ (0 : Int), inI64 (Int.tdiv ((1000 : Int) * (↑k : Int)) c)] (leaf (RV.x (Value.int IntKind.i64 (Int.tdiv ((1000 : Int) * (↑k : Int)) c))))))) (by kernel_rfl) ?_
 have h := te_bd pre0 pre1
 unfold teM dnI at h ⊢
 simp only [Tree.sat, allP, fitP, fitL, valEq, inI64, true_and, and_true]
 omega
def S_tells : Sx.Spec := fun l => match l with
 | [.roI [.x (.int .i64 c), .x (.int .i64 T), .x (.int .i64 lo), .x (.int .i64 hi), A, B] 26 f 0, .x (.int .i64 k)] => some ([1 ≤ c ∧ c ≤ 10, 0 ≤ k ∧ k ≤ 10], i (teM c k.toNat))
 | _ => none
theorem tells_ok : SoundSpec Try.prog 55 S_tells := by
 refine ⟨⟨_, Try.func55, by kernel_rfl, by kernel_rfl⟩, ?_⟩
 intro avs ns res h hn
 unfold S_tells at h
 split at h
 ·rename_i c T lo hi A B f k
  cases h
  have hk : 0 ≤ k ∧ k ≤ 10 := hn _ (by simp)
  have e : ((k.toNat : Nat) : Int) = k := by omega
  have h0 := tells_at c T lo hi A B f k.toNat (hn _ (by simp)) (by omega)
  rw [e] at h0
  exact h0
 ·cases h
theorem correction_at (c T lo hi : Int) (A B : AV) (f : Nat → Int) (k : Nat) (day : Int) (pre0 : drB f) (pre1 : bdB f) (pre2 : k ≤ 10) (pre3 : 0 ≤ day ∧ day ≤ 100000) (pre4 : 1 ≤ c ∧ c ≤ 10) : SoundAt Try.prog 40 [.roI [i c, i T, i lo, i hi, A, B] 26 f 0, i k, i day] (.agg [i (onL f k day - teM c k), i (onH f k day - teM c k)]) := by
 refine soundAt_fin (G := [(18, S_on), (55, S_tells)]) (L := []) (SoundG.cons on_ok (SoundG.cons tells_ok (SoundG.nil _))) mixed Try.func40 (show Try.f40.body = some (bodyOf Try.f40) by kernel_rfl) noLoops (t := (need [drB f, bdB f, (0 : Int) ≤ (↑k : Int) ∧ (↑k : Int) ≤ 10, (0 : Int) ≤ day ∧ day ≤ (100000 : Int)] (need [(1 : Int) ≤ c ∧ c ≤ (10 : Int), (0 : Int) ≤ (↑k : Int) ∧ (↑k : Int) ≤ 10] (need [inI64 (onL f k day - teM c k)] (need [(1 : Int) ≤ c ∧ c ≤ (10 : Int), (0 : Int) ≤ (↑k : Int) ∧ (↑k : Int) ≤ 10] (need [inI64 (onH f k day - teM c k)] (leaf (RV.agg [RV.x (Value.int IntKind.i64 (onL f k day - teM c k)), RV.x (Value.int IntKind.i64 (onH f k day - teM c k))])))))))) (by kernel_rfl) ?_
 have h0 := ri_bd pre0 pre3
 have h1 := pre1 (2 * k) (by omega)
 have h2 := pre1 (2 * k + 1) (by omega)
 rw [show 4 + (2 * k + 1) = 5 + 2 * k by omega] at h2
 have d1 := pre0.1
 have d2 := pre0.2
 
 have h5 := te_bd pre4 pre2
 unfold onL onH
 simp only [Tree.sat, allP, fitP, fitL, valEq, inI64, true_and, and_true, Int.toNat_natCast, onL, onH]
 refine ⟨⟨pre0, pre1, by omega, pre3⟩, ⟨pre4, by omega⟩, by omega, ⟨pre4, by omega⟩, by omega⟩
def S_correction : Sx.Spec := fun l => match l with
 | [.roI [.x (.int .i64 c), .x (.int .i64 T), .x (.int .i64 lo), .x (.int .i64 hi), A, B] 26 f 0, .x (.int .i64 k), .x (.int .i64 day)] => some ([drB f, bdB f, 0 ≤ k ∧ k ≤ 10, 0 ≤ day ∧ day ≤ 100000, 1 ≤ c ∧ c ≤ 10], .agg [i (onL f k.toNat day - teM c k.toNat), i (onH f k.toNat day - teM c k.toNat)])
 | _ => none
theorem correction_ok : SoundSpec Try.prog 40 S_correction := by
 refine ⟨⟨_, Try.func40, by kernel_rfl, by kernel_rfl⟩, ?_⟩
 intro avs ns res h hn
 unfold S_correction at h
 split at h
 ·rename_i c T lo hi A B f k day
  cases h
  have hk : 0 ≤ k ∧ k ≤ 10 := hn _ (by simp)
  have e : ((k.toNat : Nat) : Int) = k := by omega
  have h0 := correction_at c T lo hi A B f k.toNat day (hn _ (by simp)) (hn _ (by simp)) (by omega) (hn _ (by simp)) (hn _ (by simp))
  rw [e] at h0
  exact h0
 ·cases h
end Go.Proofs.Ytlinbkmpkcmniaa
namespace Go.Proofs.Ytlinbkmpkcmniaa
open Go Go.Sx Go.RowKit Bo
open Go.Sx.Tree (need branch leaf)
open Go.Sx.AV (lst ptr agg roI tup top)
def keP (c : Int) (f : Nat → Int) (wi day x : Int) : Bool := insB (-wi) (onL f x.toNat day - teM c x.toNat) (onH f x.toNat day - teM c x.toNat) wi
def mkV (p : Int) (j : Nat) : List Value := [.int .i64 (p + j)]
def S_kept1 : Sx.Spec := fun l => match l with
 | [.x (.int .i64 x), .ro [.roI [.x (.int .i64 c), .x (.int .i64 T), .x (.int .i64 lo), .x (.int .i64 hi), A, B] 26 f 0], .ro [.x (.int .i64 day)], .ro [.x (.int .i64 u0), .x (.int .i64 u1), .x (.int .i64 wi)]] => some ([drB f, bdB f, 1 ≤ c ∧ c ≤ 10, 0 ≤ day ∧ day ≤ 100000, 0 ≤ wi ∧ wi ≤ 1000000, 0 ≤ x ∧ x ≤ 10], bl (keP c f wi day x))
 | _ => none
theorem kept1_at (x : Int) (c T lo hi : Int) (A B : AV) (f : Nat → Int) (day u0 u1 wi : Int) (pre0 : drB f) (pre1 : bdB f) (pre2 : 1 ≤ c ∧ c ≤ 10) (pre3 : 0 ≤ day ∧ day ≤ 100000) (pre4 : 0 ≤ wi ∧ wi ≤ 1000000) (pre5 : 0 ≤ x ∧ x ≤ 10) : SoundAt Try.prog 39 [i x, .ro [.roI [i c, i T, i lo, i hi, A, B] 26 f 0], .ro [i day], .ro [i u0, i u1, i wi]] (bl (keP c f wi day x)) := by
 refine soundAt_fin (G := [(40, S_correction), (41, S_inside)]) (L := []) (SoundG.cons correction_ok (SoundG.cons inside_ok (SoundG.nil _))) mixed Try.func39 (show Try.f39.body = some (bodyOf Try.f39) by kernel_rfl) noLoops (t := (need [drB f, bdB f, (0 : Int) ≤ x ∧ x ≤ (10 : Int), (0 : Int) ≤ day ∧ day ≤ (100000 : Int), (1 : Int) ≤ c ∧ c ≤ (10 : Int)] (need [inI64 (-wi)] (leaf (RV.x (Value.bool (insB (-wi) (onL f (Int.toNat x) day - teM c (Int.toNat x)) (onH f (Int.toNat x) day - teM c (Int.toNat x)) wi))))))) (by kernel_rfl) ?_
 simp only [Tree.sat, allP, fitP, fitL, valEq, inI64, true_and, and_true, keP]
 exact ⟨⟨pre0, pre1, pre5, pre3, pre2⟩, by omega⟩
theorem kept1_ok : SoundSpec Try.prog 39 S_kept1 := by
 refine ⟨⟨_, Try.func39, by kernel_rfl, by kernel_rfl⟩, ?_⟩
 intro avs ns res h hn
 unfold S_kept1 at h
 split at h
 ·cases h
  exact kept1_at _ _ _ _ _ _ _ _ _ _ _ _ (hn _ (by simp)) (hn _ (by simp)) (hn _ (by simp)) (hn _ (by simp)) (hn _ (by simp)) (hn _ (by simp))
 ·cases h
theorem alli1_at (x : Int) (c T lo hi : Int) (A B : AV) (f : Nat → Int) (day u0 u1 wi : Int) (pre0 : drB f) (pre1 : bdB f) (pre2 : 1 ≤ c ∧ c ≤ 10) (pre3 : 0 ≤ day ∧ day ≤ 100000) (pre4 : 0 ≤ wi ∧ wi ≤ 1000000) (pre5 : 0 ≤ x ∧ x ≤ 10) : SoundAt Try.prog 53 [i x, .ro [.fn (.func 39) [] [.ro [.roI [i c, i T, i lo, i hi, A, B] 26 f 0], .ro [i day], .ro [i u0, i u1, i wi]]]] (bl (!(keP c f wi day x))) := by
 refine soundAt_fin (G := [(39, S_kept1)]) (L := []) (SoundG.cons kept1_ok (SoundG.nil _)) mixed Try.func53 (show Try.f53.body = some (bodyOf Try.f53) by kernel_rfl) noLoops (t := (need [drB f, bdB f, (1 : Int) ≤ c ∧ c ≤ (10 : Int), (0 : Int) ≤ day ∧ day ≤ (100000 : Int), (0 : Int) ≤ wi ∧ wi ≤ (1000000 : Int), (0 : Int) ≤ x ∧ x ≤ (10 : Int)] (leaf (RV.x (Value.bool !keP c f wi day x))))) (by kernel_rfl) ?_
 simp only [Tree.sat, allP, fitP, fitL, valEq, true_and, and_true]
 exact ⟨pre0, pre1, pre2, pre3, pre4, pre5⟩
def S_alli1 : Sx.Spec := fun l => match l with
 | [.x (.int .i64 x), .ro [.fn (.func 39) [] [.ro [.roI [.x (.int .i64 c), .x (.int .i64 T), .x (.int .i64 lo), .x (.int .i64 hi), A, B] 26 f 0], .ro [.x (.int .i64 day)], .ro [.x (.int .i64 u0), .x (.int .i64 u1), .x (.int .i64 wi)]]]] => some ([drB f, bdB f, 1 ≤ c ∧ c ≤ 10, 0 ≤ day ∧ day ≤ 100000, 0 ≤ wi ∧ wi ≤ 1000000, 0 ≤ x ∧ x ≤ 10], bl (!(keP c f wi day x)))
 | _ => none
theorem alli1_ok : SoundSpec Try.prog 53 S_alli1 := by
 refine ⟨⟨_, Try.func53, by kernel_rfl, by kernel_rfl⟩, ?_⟩
 intro avs ns res h hn
 unfold S_alli1 at h
 split at h
 ·cases h
  exact alli1_at _ _ _ _ _ _ _ _ _ _ _ _ (hn _ (by simp)) (hn _ (by simp)) (hn _ (by simp)) (hn _ (by simp)) (hn _ (by simp)) (hn _ (by simp))
 ·cases h
noncomputable def E_xi (n : Nat) (g : Nat → Int) (c T lo hi : Int) (A B : AV) (f : Nat → Int) (day u0 u1 wi : Int) : St := (some { σ := [lst 1 n fun k => [iI (g k)], AV.fn (Fn.func 53) [] [AV.ro [AV.fn (Fn.func 39) [] [AV.ro [roI [iI c, iI T, iI lo, iI hi, A, B] 26 (fun a => f a) 0], AV.ro [iI day], AV.ro [iI u0, iI u1, iI wi]]]]] ++ tpL 5 [iI (↑n : Int)] ++ tpL 11 [], m := [], nx := 4 } : Option St).getD { σ := [], m := [], nx := 0 }
noncomputable def B_xi : Code := loopBody (loopAt (bodyOf Try.f65) 0)
noncomputable def inv_xi (n : Nat) (g : Nat → Int) (c T lo hi : Int) (A B : AV) (f : Nat → Int) (day u0 u1 wi : Int) (k : Nat) : St := { σ := ovrS [(8, i k)] (E_xi n g c T lo hi A B f day u0 u1 wi).σ, m := (E_xi n g c T lo hi A B f day u0 u1 wi).m, nx := (E_xi n g c T lo hi A B f day u0 u1 wi).nx }
noncomputable def out_xi (n : Nat) (g : Nat → Int) (c T lo hi : Int) (A B : AV) (f : Nat → Int) (day u0 u1 wi : Int) (k : Nat) : AEx → Option St := fun ex => match ex with
 | .ret => some { σ := ovrS [(4, i (fstI ((fun k => !(keP c f wi day (g k)))) n))] (E_xi n g c T lo hi A B f day u0 u1 wi).σ, m := (E_xi n g c T lo hi A B f day u0 u1 wi).m, nx := (E_xi n g c T lo hi A B f day u0 u1 wi).nx }
 | .exit 0 => some { σ := ovrS [] (E_xi n g c T lo hi A B f day u0 u1 wi).σ, m := (E_xi n g c T lo hi A B f day u0 u1 wi).m, nx := (E_xi n g c T lo hi A B f day u0 u1 wi).nx }
 | _ => none
noncomputable def T_xi (n : Nat) (g : Nat → Int) (c T lo hi : Int) (A B : AV) (f : Nat → Int) (day u0 u1 wi : Int) : CT := .branch (decide (fstI ((fun k => !(keP c f wi day (g k)))) n < n)) (.leaf (.ret, ( out_xi n g c T lo hi A B f day u0 u1 wi 0 .ret).getD (E_xi n g c T lo hi A B f day u0 u1 wi))) (.leaf (.exit 0, ( out_xi n g c T lo hi A B f day u0 u1 wi 0 (.exit 0)).getD (E_xi n g c T lo hi A B f day u0 u1 wi)))
noncomputable def LS_xi (n : Nat) (g : Nat → Int) (c T lo hi : Int) (A B : AV) (f : Nat → Int) (day u0 u1 wi : Int) : LSpec := (sumL (inv_xi n g c T lo hi A B f day u0 u1 wi (0)) (T_xi n g c T lo hi A B f day u0 u1 wi))
theorem xi_ls (n : Nat) (g : Nat → Int) (c T lo hi : Int) (A B : AV) (f : Nat → Int) (day u0 u1 wi : Int) (pre0 : n ≤ 100000) (pre1 : drB f) (pre2 : bdB f) (pre3 : 1 ≤ c ∧ c ≤ 10) (pre4 : 0 ≤ day ∧ day ≤ 100000) (pre5 : 0 ≤ wi ∧ wi ≤ 1000000) (pre6 : ∀ j, j < n → 0 ≤ g j ∧ g j ≤ 10) : LSound Try.prog (.loop B_xi) (LS_xi n g c T lo hi A B f day u0 u1 wi) := by
 refine loop_rounds (G := [(53, S_alli1)]) (L := []) (SoundG.cons alli1_ok (SoundG.nil _)) mixed noLoops (X := Nat) (inv_xi n g c T lo hi A B f day u0 u1 wi) (fun k => k ≤ n ∧ ∀ j, j < k → (fun k => !(keP c f wi day (g k))) j = false) (fun k => n - k) (out_xi n g c T lo hi A B f day u0 u1 wi) (x0 := 0) ⟨by omega, fun j hj => by omega⟩ ?_ ?_ ?_
 ·rintro k
  kernel_rfl
 ·rintro k y E h
  unfold out_xi at h
  split at h
  ·cases h; kernel_rfl
  ·cases h; kernel_rfl
  ·cases h
 ·rintro Q hQ k hx
  refine ⟨(k + 1), ?_⟩
  have e : roundT Try.prog [(53, S_alli1)] [] B_xi (inv_xi n g c T lo hi A B f day u0 u1 wi k) (inv_xi n g c T lo hi A B f day u0 u1 wi ((k + 1))) (out_xi n g c T lo hi A B f day u0 u1 wi k) = (let z0 := (AV.fn (Fn.func 53) [] [AV.ro [AV.fn (Fn.func 39) [] [AV.ro [roI [iI c, iI T, iI lo, iI hi, A, B] 26 (fun a => f a) 0], AV.ro [iI day], AV.ro [iI u0, iI u1, iI wi]]]]); let z1 := (lst 1 n fun k => [iI (g k)]); (branch (decide ((↑k : Int) < (↑n : Int))) (need [(0 : Int) ≤ (↑k : Int) ∧ (↑k : Int) < (↑n : Int)] (need [drB fun a => f a, bdB fun a => f a, (1 : Int) ≤ c ∧ c ≤ (10 : Int), (0 : Int) ≤ day ∧ day ≤ (100000 : Int), (0 : Int) ≤ wi ∧ wi ≤ (1000000 : Int), (0 : Int) ≤ g k ∧ g k ≤ (10 : Int)] (branch (!keP c (fun a => f a) wi day (g k)) (need [z1 = lst 1 n fun k => [iI (g k)], Eq1 z0, (↑k : Int) = (↑(fstI (fun k => !keP c f wi day (g k)) n) : Int), Eq1 (↑n : Int)] (leaf AEx.ret)) (need [inI64 ((↑k : Int) + 1)] (need [z1 = lst 1 n fun k => [iI (g k)], Eq1 z0, Eq1 (↑n : Int), (↑k : Int) + 1 = (↑(k + 1) : Int)] (leaf AEx.normal)))))) (need [z1 = lst 1 n fun k => [iI (g k)], Eq1 z0, Eq1 (↑n : Int)] (leaf (AEx.exit 0))))) := by kernel_rfl
  rw [e]
  simp only [T_xi, out_xi, Tree.sat, Option.getD_some, decide_eq_true_eq, decide_eq_false_iff_not] at hQ
  simp only [Tree.sat, allP, true_and, and_true, decide_eq_true_eq, decide_eq_false_iff_not, inI64, out_xi, Int.toNat_natCast]
  refine ⟨fun h => ⟨by omega, ⟨pre1, pre2, pre3, pre4, pre5, pre6 k (by omega)⟩, ?_⟩, fun h => ?_⟩
  rotate_left
  ·have hf : fstI ((fun k => !(keP c f wi day (g k)))) n = n := fstI_none (fun j hj => hx.2 j (by omega))
   intro E hE
   cases hE
   exact hQ.2 (by omega)
  refine ⟨fun hb => ?_, fun hb => ?_⟩
  ·have hf : fstI ((fun k => !(keP c f wi day (g k)))) n = k := fstI_eq (by omega) hb hx.2
   refine ⟨by omega, fun E hE => ?_⟩
   cases hE
   exact hQ.1 (by omega)
  ·refine ⟨by omega, by omega, ⟨by omega, fun j hj => ?_⟩, by omega⟩
   rcases (show j < k ∨ j = k by omega) with h1 | rfl
   ·exact hx.2 j h1
   ·exact hb
theorem xfi_at (n : Nat) (g : Nat → Int) (c T lo hi : Int) (A B : AV) (f : Nat → Int) (day u0 u1 wi : Int) (pre0 : n ≤ 100000) (pre1 : drB f) (pre2 : bdB f) (pre3 : 1 ≤ c ∧ c ≤ 10) (pre4 : 0 ≤ day ∧ day ≤ 100000) (pre5 : 0 ≤ wi ∧ wi ≤ 1000000) (pre6 : ∀ j, j < n → 0 ≤ g j ∧ g j ≤ 10) : SoundAt Try.prog 65 [.lst 1 n (fun k => [i (g k)]), .fn (.func 53) [] [.ro [.fn (.func 39) [] [.ro [.roI [i c, i T, i lo, i hi, A, B] 26 f 0], .ro [i day], .ro [i u0, i u1, i wi]]]]] (i (if fstI ((fun k => !(keP c f wi day (g k)))) n < n then (fstI ((fun k => !(keP c f wi day (g k)))) n : Int) else -1)) := by
 refine soundAt_fin (G := [(53, S_alli1)]) (L := [LS_xi n g c T lo hi A B f day u0 u1 wi]) (SoundG.cons alli1_ok (SoundG.nil _)) mixed Try.func65 (show Try.f65.body = some (bodyOf Try.f65) by kernel_rfl) (one_loop (lpE (b := .loop B_xi) (by kernel_rfl) <| xi_ls n g c T lo hi A B f day u0 u1 wi pre0 pre1 pre2 pre3 pre4 pre5 pre6)) (t := (need [(lst 1 n fun k => [iI (g k)]) = lst 1 n fun k => [iI (g k)], Eq1 (AV.fn (Fn.func 53) [] [AV.ro [AV.fn (Fn.func 39) [] [AV.ro [roI [iI c, iI T, iI lo, iI hi, A, B] 26 (fun a => f a) 0], AV.ro [iI day], AV.ro [iI u0, iI u1, iI wi]]]]), Eq1 (↑n : Int), (0 : Int) = (↑(0 : Nat) : Int)] (branch (decide (fstI (fun k => !keP c f wi day (g k)) n < n)) (leaf (RV.x (Value.int IntKind.i64 (↑(fstI (fun k => !keP c f wi day (g k)) n) : Int)))) (leaf (RV.x (Value.int IntKind.i64 (-1 : Int))))))) (by kernel_rfl) ?_
 simp only [Tree.sat, allP, fitP, valEq, true_and, and_true, decide_eq_true_eq, decide_eq_false_iff_not]
 simp +contextual
def S_xfi : Sx.Spec := fun l => match l with
 | [.lst 1 n g, .fn (.func 53) [] [.ro [.fn (.func 39) [] [.ro [.roI [.x (.int .i64 c), .x (.int .i64 T), .x (.int .i64 lo), .x (.int .i64 hi), A, B] 26 f 0], .ro [.x (.int .i64 day)], .ro [.x (.int .i64 u0), .x (.int .i64 u1), .x (.int .i64 wi)]]]]] => some ([isRec 1 n g, n ≤ 100000, drB f, bdB f, 1 ≤ c ∧ c ≤ 10, 0 ≤ day ∧ day ≤ 100000, 0 ≤ wi ∧ wi ≤ 1000000, ∀ j, j < n → 0 ≤ col 0 g j ∧ col 0 g j ≤ 10], i (if fstI ((fun k => !(keP c f wi day (col 0 g k)))) n < n then (fstI ((fun k => !(keP c f wi day (col 0 g k)))) n : Int) else -1))
 | _ => none
theorem xfi_ok : SoundSpec Try.prog 65 S_xfi := by
 refine ⟨⟨_, Try.func65, by kernel_rfl, by kernel_rfl⟩, ?_⟩
 intro avs ns res h hn
 unfold S_xfi at h
 split at h
 ·cases h
  have hr : isRec 1 _ _ := hn _ (List.mem_cons_self)
  exact (xfi_at _ (col 0 _) _ _ _ _ _ _ _ _ _ _ _ (hn _ (by simp)) (hn _ (by simp)) (hn _ (by simp)) (hn _ (by simp)) (hn _ (by simp)) (hn _ (by simp)) (hn _ (by simp))).same (.cons (.lst 1 _ _ _ hr) (.cons (.refl _) .nil))
 ·cases h
theorem cfi_at (n : Nat) (g : Nat → Int) (c T lo hi : Int) (A B : AV) (f : Nat → Int) (day u0 u1 wi : Int) (pre0 : n ≤ 100000) (pre1 : drB f) (pre2 : bdB f) (pre3 : 1 ≤ c ∧ c ≤ 10) (pre4 : 0 ≤ day ∧ day ≤ 100000) (pre5 : 0 ≤ wi ∧ wi ≤ 1000000) (pre6 : ∀ j, j < n → 0 ≤ g j ∧ g j ≤ 10) : SoundAt Try.prog 52 [.lst 1 n (fun k => [i (g k)]), .fn (.func 53) [] [.ro [.fn (.func 39) [] [.ro [.roI [i c, i T, i lo, i hi, A, B] 26 f 0], .ro [i day], .ro [i u0, i u1, i wi]]]]] (bl (!allI (fun k => keP c f wi day (g k)) n)) := by
 refine soundAt_fin (G := [(65, S_xfi)]) (L := []) (SoundG.cons xfi_ok (SoundG.nil _)) mixed Try.func52 (show Try.f52.body = some (bodyOf Try.f52) by kernel_rfl) noLoops (t := (need [isRec 1 n fun k => [i (g k)], n ≤ 100000, drB f, bdB f, (1 : Int) ≤ c ∧ c ≤ (10 : Int), (0 : Int) ≤ day ∧ day ≤ (100000 : Int), (0 : Int) ≤ wi ∧ wi ≤ (1000000 : Int), ∀ (j : Nat), j < n → (0 : Int) ≤ g j ∧ g j ≤ (10 : Int)] (leaf (RV.x (Value.bool (decide ((if fstI (fun k => !keP c f wi day (g k)) n < n then (↑(fstI (fun k => !keP c f wi day (g k)) n) : Int) else (-1 : Int)) ≥ (0 : Int)))))))) (by kernel_rfl) ?_
 simp only [Tree.sat, allP, fitP, valEq, true_and, and_true]
 refine ⟨⟨fun _ _ => rfl, pre0, pre1, pre2, pre3, pre4, pre5, pre6⟩, ?_⟩
 rw [allI_fst]
 have e : (fun k => !(fun k => keP c f wi day (g k)) k) = (fun k => !(keP c f wi day (g k))) := rfl
 rw [e]
 show decide ((if fstI (fun k => !(keP c f wi day (g k))) n < n then (fstI (fun k => !(keP c f wi day (g k))) n : Int) else -1) ≥ 0) = _
 have := fstI_spec ((fun k => !(keP c f wi day (g k)))) n
 split <;> simp <;> omega
def S_cfi : Sx.Spec := fun l => match l with
 | [.lst 1 n g, .fn (.func 53) [] [.ro [.fn (.func 39) [] [.ro [.roI [.x (.int .i64 c), .x (.int .i64 T), .x (.int .i64 lo), .x (.int .i64 hi), A, B] 26 f 0], .ro [.x (.int .i64 day)], .ro [.x (.int .i64 u0), .x (.int .i64 u1), .x (.int .i64 wi)]]]]] => some ([isRec 1 n g, n ≤ 100000, drB f, bdB f, 1 ≤ c ∧ c ≤ 10, 0 ≤ day ∧ day ≤ 100000, 0 ≤ wi ∧ wi ≤ 1000000, ∀ j, j < n → 0 ≤ col 0 g j ∧ col 0 g j ≤ 10], bl (!allI (fun k => keP c f wi day (col 0 g k)) n))
 | _ => none
theorem cfi_ok : SoundSpec Try.prog 52 S_cfi := by
 refine ⟨⟨_, Try.func52, by kernel_rfl, by kernel_rfl⟩, ?_⟩
 intro avs ns res h hn
 unfold S_cfi at h
 split at h
 ·cases h
  have hr : isRec 1 _ _ := hn _ (List.mem_cons_self)
  exact (cfi_at _ (col 0 _) _ _ _ _ _ _ _ _ _ _ _ (hn _ (by simp)) (hn _ (by simp)) (hn _ (by simp)) (hn _ (by simp)) (hn _ (by simp)) (hn _ (by simp)) (hn _ (by simp))).same (.cons (.lst 1 _ _ _ hr) (.cons (.refl _) .nil))
 ·cases h
theorem alli_at (n : Nat) (g : Nat → Int) (c T lo hi : Int) (A B : AV) (f : Nat → Int) (day u0 u1 wi : Int) (pre0 : n ≤ 100000) (pre1 : drB f) (pre2 : bdB f) (pre3 : 1 ≤ c ∧ c ≤ 10) (pre4 : 0 ≤ day ∧ day ≤ 100000) (pre5 : 0 ≤ wi ∧ wi ≤ 1000000) (pre6 : ∀ j, j < n → 0 ≤ g j ∧ g j ≤ 10) : SoundAt Try.prog 37 [.lst 1 n (fun k => [i (g k)]), .fn (.func 39) [] [.ro [.roI [i c, i T, i lo, i hi, A, B] 26 f 0], .ro [i day], .ro [i u0, i u1, i wi]]] (bl (allI (fun k => keP c f wi day (g k)) n)) := by
 refine soundAt_fin (G := [(52, S_cfi)]) (L := []) (SoundG.cons cfi_ok (SoundG.nil _)) mixed Try.func37 (show Try.f37.body = some (bodyOf Try.f37) by kernel_rfl) noLoops (t := (need [isRec 1 n fun k => [i (g k)], n ≤ 100000, drB f, bdB f, (1 : Int) ≤ c ∧ c ≤ (10 : Int), (0 : Int) ≤ day ∧ day ≤ (100000 : Int), (0 : Int) ≤ wi ∧ wi ≤ (1000000 : Int), ∀ (j : Nat), j < n → (0 : Int) ≤ g j ∧ g j ≤ (10 : Int)] (leaf (RV.x (Value.bool !!allI (fun k => keP c f wi day (g k)) n))))) (by kernel_rfl) ?_
 simp only [Tree.sat, allP, fitP, valEq, true_and, and_true]
 refine ⟨⟨fun _ _ => rfl, pre0, pre1, pre2, pre3, pre4, pre5, pre6⟩, ?_⟩
 show (!!allI (fun k => keP c f wi day (g k)) n) = _
 simp
def S_alli : Sx.Spec := fun l => match l with
 | [.lst 1 n g, .fn (.func 39) [] [.ro [.roI [.x (.int .i64 c), .x (.int .i64 T), .x (.int .i64 lo), .x (.int .i64 hi), A, B] 26 f 0], .ro [.x (.int .i64 day)], .ro [.x (.int .i64 u0), .x (.int .i64 u1), .x (.int .i64 wi)]]] => some ([isRec 1 n g, n ≤ 100000, drB f, bdB f, 1 ≤ c ∧ c ≤ 10, 0 ≤ day ∧ day ≤ 100000, 0 ≤ wi ∧ wi ≤ 1000000, ∀ j, j < n → 0 ≤ col 0 g j ∧ col 0 g j ≤ 10], bl (allI (fun k => keP c f wi day (col 0 g k)) n))
 | _ => none
theorem alli_ok : SoundSpec Try.prog 37 S_alli := by
 refine ⟨⟨_, Try.func37, by kernel_rfl, by kernel_rfl⟩, ?_⟩
 intro avs ns res h hn
 unfold S_alli at h
 split at h
 ·cases h
  have hr : isRec 1 _ _ := hn _ (List.mem_cons_self)
  exact (alli_at _ (col 0 _) _ _ _ _ _ _ _ _ _ _ _ (hn _ (by simp)) (hn _ (by simp)) (hn _ (by simp)) (hn _ (by simp)) (hn _ (by simp)) (hn _ (by simp)) (hn _ (by simp))).same (.cons (.lst 1 _ _ _ hr) (.cons (.refl _) .nil))
 ·cases h
def S_marks : Sx.Spec := fun l => match l with
 | [.x (.int .i64 p), .x (.int .i64 q)] => some ([], .fn (.func 48) [] [.ro [i p], .ro [i q]])
 | _ => none
theorem marks_at (p q : Int) : SoundAtR Try.prog 31 [i p, i q] (.fn (.func 48) [] [.ro [i p], .ro [i q]]) := by
 refine soundAtR_fin (G := []) (X := {}) (L := []) (SoundG.nil _) (SoundX.of (SoundRL.nil _) (SoundHL.nil _)) mixed Try.func31 (show Try.f31.body = some (bodyOf Try.f31) by kernel_rfl) noLoopsS (t := (leaf (AV.fn (Fn.func 48) [] [AV.ro [iI p], AV.ro [iI q]]))) (by kernel_rfl) ?_
 exact rfl
theorem marks_okR : SoundR Try.prog 31 S_marks := by
 refine ⟨⟨_, Try.func31, by kernel_rfl, by kernel_rfl⟩, ?_⟩
 intro avs ns res h hn
 unfold S_marks at h
 split at h
 ·cases h
  exact marks_at _ _
 ·cases h
noncomputable def E_mk (l : Nat) (p q : Int) : St := (some { σ := [AV.fn (Fn.yield l) [] [], AV.ro [iI p], AV.ro [iI q]] ++ tpL 12 [], m := [], nx := 2, gh := some 0 } : Option St).getD { σ := [], m := [], nx := 0 }
noncomputable def B_mk : Code := loopBody (loopAt (bodyOf Try.f48) 0)
noncomputable def inv_mk (l : Nat) (p q : Int) (j : Nat) : St := { σ := ovrS [(4, i (p + j))] (E_mk l p q).σ, m := [], nx := 0, gh := some (j) }
noncomputable def out_mk (l : Nat) (p q : Int) (j : Nat) : AEx → Option St := fun ex => match ex with
 | .exit 0 => some { σ := ovrS [] (E_mk l p q).σ, m := [], nx := 0, gh := some ((q - p + 1).toNat) }
 | .ret => some { σ := ovrS [] (E_mk l p q).σ, m := [], nx := 0, gh := none }
 | _ => none
noncomputable def T_mk (l : Nat) (p q : Int) : CT := .may True (.leaf (.exit 0, ( out_mk l p q 0 (.exit 0)).getD (E_mk l p q))) (.leaf (.ret, ( out_mk l p q 0 .ret).getD (E_mk l p q)))
noncomputable def LS_mk (l : Nat) (p q : Int) : LSpec := normSp [] (sumL (inv_mk l p q (0)) (T_mk l p q))
theorem mk_lc (l : Nat) (p q : Int) (pre0 : -1000000 ≤ p ∧ p ≤ 1000000) (pre1 : -1000000 ≤ q ∧ q ≤ 1000000) {cx : Cx} (hX : SoundX Try.prog { Y := some (l, ((q - p + 1).toNat), (mkV p)) } cx) : LSoundC Try.prog none cx (.loop B_mk) (LS_mk l p q) := by
 refine loop_roundsC [] (G := []) (L := []) (SoundG.nil _) hX mixed noLoopsS (V := Nat) (inv_mk l p q) (fun j => j ≤ ((q - p + 1).toNat)) (fun j => ((q - p + 1).toNat) - j) (out_mk l p q) (x0 := 0) (by simp) ?_ ?_ ?_
 ·rintro j
  kernel_rfl
 ·rintro j y E h
  unfold out_mk at h
  split at h
  ·cases h; kernel_rfl
  ·cases h; kernel_rfl
  ·cases h
 ·rintro Q hQ j hx
  refine ⟨(j + 1), ?_⟩
  have e : roundX Try.prog [] { Y := some (l, ((q - p + 1).toNat), (mkV p)) } [] [] B_mk (inv_mk l p q j) (inv_mk l p q ((j + 1))) (out_mk l p q j) = (let z0 := (AV.fn (Fn.yield l) [] []); (branch (decide (p + (↑j : Int) ≤ q)) (need [l = l, j < Int.toNat (q - p + (1 : Int)), Eq1 ([Value.int IntKind.i64 (p + (↑j : Int))])] (Tree.may True (need [inI64 (p + (↑j : Int) + 1)] (need [Eq1 z0, Eq1 (AV.ro [iI p]), Eq1 (AV.ro [iI q]), p + (↑j : Int) + 1 = p + (↑(j + 1) : Int), j + 1 = j + 1] (leaf AEx.normal))) (need [Eq1 z0, Eq1 (AV.ro [iI p]), Eq1 (AV.ro [iI q])] (leaf AEx.ret)))) (need [Eq1 z0, Eq1 (AV.ro [iI p]), Eq1 (AV.ro [iI q]), j = Int.toNat (q - p + (1 : Int))] (leaf (AEx.exit 0))))) := by kernel_rfl
  rw [e]
  simp only [T_mk, out_mk, Tree.sat, Option.getD_some] at hQ
  have hQ1 : ∀ E, out_mk l p q j (.exit 0) = some E → Q (.exit 0, E) := fun E hE => by cases hE; exact hQ.1 trivial
  have hQ2 : ∀ E, out_mk l p q j .ret = some E → Q (.ret, E) := fun E hE => by cases hE; exact hQ.2
  simp only [Tree.sat, allP, true_and, and_true, decide_eq_true_eq, decide_eq_false_iff_not, inI64, Int.toNat_natCast]
  clear e hQ
  repeat' first | with_reducible apply And.intro | with_reducible intro _
  all_goals first | exact True.intro | omega | with_reducible rfl | exact hQ1 _ (by assumption) | exact hQ2 _ (by assumption)
theorem marks1_seq (p q : Int) (pre0 : -1000000 ≤ p ∧ p ≤ 1000000) (pre1 : -1000000 ≤ q ∧ q ≤ 1000000) : SoundSeq Try.prog 48 [.ro [i p], .ro [i q]] (((q - p + 1).toNat)) (mkV p) := by
 refine soundSeq_fin (G := []) (L := fun l => [LS_mk l p q]) (SoundG.nil _) mixed ⟨_, Try.func48, by kernel_rfl, by kernel_rfl⟩ Try.func48 (show Try.f48.body = some (bodyOf Try.f48) by kernel_rfl) (by kernel_rfl) (fun l cx hX => one_loop (lpE (b := .loop B_mk) (by kernel_rfl) <| mk_lc l p q pre0 pre1 hX)) (t := fun l => (need [AV.fn (Fn.yield l) [] [] = AV.fn (Fn.yield l) [] [], AV.ro [iI p] = AV.ro [iI p], AV.ro [iI q] = AV.ro [iI q], p = p + (↑(0 : Nat) : Int), 0 = 0] (Tree.may True (need [Int.toNat (q - p + (1 : Int)) = Int.toNat (q - p + (1 : Int))] (leaf PUnit.unit)) (leaf PUnit.unit)))) (fun l => by kernel_rfl) ?_
 intro l
 simp only [Tree.sat, allP, fitP, fitL, valEq, inI64, true_and, and_true, decide_eq_true_eq, decide_eq_false_iff_not, Int.natCast_zero, Int.toNat_natCast]
 repeat' first | with_reducible apply And.intro | with_reducible intro _
 all_goals first | exact True.intro | omega | with_reducible rfl | assumption
end Go.Proofs.Ytlinbkmpkcmniaa
namespace Go.Proofs.Ytlinbkmpkcmniaa
open Go Go.Sx Go.RowKit Bo
open Go.Sx.Tree (need branch leaf)
open Go.Sx.AV (lst ptr agg roI tup top)
theorem cat1 {p : Int} {k j : Nat} (h : j < k + 1) : catF k (fun j => [i (p + j)]) (chunk 1 [i (p + k)]) j = [i (p + j)] := by
 show mergeL (decide (j < k)) [i (p + j)] (chunk 1 [i (p + k)] (j - k)) = _
 rw [show j - k = 0 by omega]
 by_cases hj : j < k
 ·rw [decide_eq_true hj]; rfl
 ·obtain rfl : j = k := by omega
  rw [decide_eq_false hj]
  rfl
noncomputable def E_as (p q : Int) : St := (some { σ := [AV.x (Value.slice none 0 0), AV.fn (Fn.func 48) [] [AV.ro [iI p], AV.ro [iI q]], ptr 0 0, top, AV.x (Value.slice none 0 0), top, AV.fn (Fn.func 48) [] [AV.ro [iI p], AV.ro [iI q]]] ++ tpL 6 [], m := [(900, Res.row 3 1 0 fun x => []), (0, Res.cells 43 [AV.row 900])], nx := 901 } : Option St).getD { σ := [], m := [], nx := 0 }
def rfF : Option Code → Operand
 | some (.rangeFunc f _ _ _) => f
 | _ => .const .nilFunc
def rfPs : Option Code → Array Nat
 | some (.rangeFunc _ ps _ _) => ps
 | _ => #[]
def rfAs : Option Code → Code
 | some (.rangeFunc _ _ a _) => a
 | _ => .skip
def rfBd : Option Code → Code
 | some (.rangeFunc _ _ _ b) => b
 | _ => .skip
noncomputable def A_as : Code := rfAs (loopAt (bodyOf Try.f54) 0)
noncomputable def B_as : Code := rfBd (loopAt (bodyOf Try.f54) 0)
noncomputable def inv_as (p q : Int) (k : Nat) : St := { σ := ovrS [] (E_as p q).σ, m := [(900, .row 3 1 k (fun j => [i (p + j)])), (0, .cells 43 [.row 900])], nx := 901 }
noncomputable def out_as (p q : Int) (k : Nat) : AEx → Option St := fun ex => match ex with
 | .normal => some { σ := ovrS [] (E_as p q).σ, m := [(900, .row 3 1 ((q - p + 1).toNat) (fun j => [i (p + j)])), (0, .cells 43 [.row 900])], nx := 901 }
 | _ => none
noncomputable def T_as (p q : Int) : CT := .leaf (.normal,  inv_as p q ((q - p + 1).toNat))
noncomputable def LS_as (p q : Int) : LSpec := normSp [(.cell 0 0, 900, 3, 1)] (sumL (inv_as p q (0)) (T_as p q))
theorem as_ln (p q : Int) (pre0 : -1000000 ≤ p ∧ p ≤ 1000000) (pre1 : -1000000 ≤ q ∧ q ≤ 1000000) : LSoundN Try.prog (.rangeFunc (rfF (loopAt (bodyOf Try.f54) 0)) (rfPs (loopAt (bodyOf Try.f54) 0)) A_as B_as) (LS_as p q) := by
 refine range_rounds [(.cell 0 0, 900, 3, 1)] (G := []) (X := {}) (L := []) (SoundG.nil _) (SoundX.of (SoundRL.nil _) (SoundHL.nil _)) mixed noLoops (V := Nat) (inv_as p q) (fun k => k ≤ ((q - p + 1).toNat)) (fun k => k) (out_as p q) (x0 := 0) (by simp) rfl ?_ ?_ ?_ ?_ (g := 48) (caps := [.ro [i p], .ro [i q]]) (by kernel_rfl) (by kernel_rfl) (marks1_seq p q pre0 pre1) (fun _ => rfl) ?_
 ·rintro k
  kernel_rfl
 ·rintro k y E h
  unfold out_as at h
  split at h
  ·cases h; kernel_rfl
  ·cases h
 ·rintro k
  rfl
 ·rintro k y E h
  unfold out_as at h
  split at h
  ·cases h; rfl
  ·cases h
 ·rintro Q hQ k hx
  refine ⟨fun hlt => ⟨(k + 1), rfl, ?_⟩, fun hend => ?_⟩
  ·have e : roundR Try.prog [] {} [] [(.cell 0 0, 900, 3, 1)] (rfPs (loopAt (bodyOf Try.f54) 0)).toList ((mkV p) (k)) A_as B_as (inv_as p q k) (inv_as p q ((k + 1))) (out_as p q k) = (let z0 := (AV.fn (Fn.func 48) [] [AV.ro [iI p], AV.ro [iI q]]); (need [(k + 1) * 8 ≤ 140737488355328, ∀ (i : Nat), i < 1 → ∀ (a : AV), a ∈ chunk 1 [iI (p + (↑k : Int))] i → AV.one a = true] (need [Eq1 (AV.x (Value.slice none 0 0)), Eq1 z0, Eq1 (ptr 0 0), Eq1 (AV.x (Value.slice none 0 0)), Eq1 z0, k + 1 = k + 1, ∀ (i : Nat), i < k + 1 → catF k (fun j => [Ytlinbkmpkcmniaa.i (p + (↑j : Int))]) (chunk 1 [iI (p + (↑k : Int))]) i = [Ytlinbkmpkcmniaa.i (p + (↑i : Int))], Eq1 (AV.row 900)] (leaf AEx.normal)))) := by kernel_rfl
   rw [e]
   simp only [Tree.sat, allP, true_and, and_true]
   clear e
   refine ⟨⟨by omega, fun j hj a ha => one_of ha (by simp [AV.one, Value.oneCell'])⟩, fun j hj => ?_, by omega⟩
   exact cat1 hj
  ·subst hend
   exact hQ
def mkF (p : Int) (j : Nat) : List AV := [i (p + j)]
theorem appSeq_at (p q : Int) (pre0 : -1000000 ≤ p ∧ p ≤ 1000000) (pre1 : -1000000 ≤ q ∧ q ≤ 1000000) : SoundAt Try.prog 54 [.x (.slice none 0 0), .fn (.func 48) [] [.ro [i p], .ro [i q]]] (.lst 1 ((q - p + 1).toNat) (mkF p)) := by
 refine soundAt_finX (G := []) (X := {}) (L := [LS_as p q]) (SoundG.nil _) (SoundX.of (SoundRL.nil _) (SoundHL.nil _)) mixed Try.func54 (show Try.f54.body = some (bodyOf Try.f54) by kernel_rfl) (one_loop (lpE (b := .rangeFunc (rfF (loopAt (bodyOf Try.f54) 0)) (rfPs (loopAt (bodyOf Try.f54) 0)) A_as B_as) (by kernel_rfl) <| as_ln p q pre0 pre1)) (t := (need [Eq1 (AV.x (Value.slice none 0 0)), Eq1 (AV.fn (Fn.func 48) [] [AV.ro [iI p], AV.ro [iI q]]), Eq1 (ptr 0 0), Eq1 (AV.x (Value.slice none 0 0)), Eq1 (AV.fn (Fn.func 48) [] [AV.ro [iI p], AV.ro [iI q]]), 0 = 0, ∀ (i : Nat), i < 0 → [] = [Ytlinbkmpkcmniaa.i (p + (↑i : Int))], Eq1 (AV.row 900)] (leaf (RV.lst 1 (Int.toNat (q - p + (1 : Int))) fun j => [iI (p + (↑j : Int))])))) (by kernel_rfl) ?_
 simp only [Tree.sat, allP, fitP, fitL, valEq, true_and, and_true]
 (repeat' first | with_reducible apply And.intro | with_reducible intro _)
 all_goals first | exact True.intro | omega | with_reducible rfl | assumption | rfl | (rename_i h; exact absurd h (Nat.not_lt_zero _)) | (rename_i hm; cases List.mem_singleton.1 hm; exact True.intro) | skip
def S_appSeq : Sx.Spec := fun l => match l with
 | [.x (.slice none 0 0), .fn (.func 48) [] [.ro [.x (.int .i64 p)], .ro [.x (.int .i64 q)]]] => some ([-1000000 ≤ p ∧ p ≤ 1000000, -1000000 ≤ q ∧ q ≤ 1000000], .lst 1 ((q - p + 1).toNat) (mkF p))
 | _ => none
theorem appSeq_ok : SoundSpec Try.prog 54 S_appSeq := by
 refine ⟨⟨_, Try.func54, by kernel_rfl, by kernel_rfl⟩, ?_⟩
 intro avs ns res h hn
 unfold S_appSeq at h
 split at h
 ·cases h
  exact appSeq_at _ _ (hn _ (by simp)) (hn _ (by simp))
 ·cases h
def S_collect : Sx.Spec := fun l => match l with
 | [.fn (.func 48) [] [.ro [.x (.int .i64 p)], .ro [.x (.int .i64 q)]]] => some ([-1000000 ≤ p ∧ p ≤ 1000000, -1000000 ≤ q ∧ q ≤ 1000000], .lst 1 ((q - p + 1).toNat) (mkF p))
 | _ => none
theorem collect_at (p q : Int) (pre0 : -1000000 ≤ p ∧ p ≤ 1000000) (pre1 : -1000000 ≤ q ∧ q ≤ 1000000) : SoundAtR Try.prog 38 [.fn (.func 48) [] [.ro [i p], .ro [i q]]] (.lst 1 ((q - p + 1).toNat) (mkF p)) := by
 refine soundAtR_fin (G := [(54, S_appSeq)]) (X := {}) (L := []) (SoundG.cons appSeq_ok (SoundG.nil _)) (SoundX.of (SoundRL.nil _) (SoundHL.nil _)) mixed Try.func38 (show Try.f38.body = some (bodyOf Try.f38) by kernel_rfl) noLoopsS (t := (need [(-1000000 : Int) ≤ p ∧ p ≤ (1000000 : Int), (-1000000 : Int) ≤ q ∧ q ≤ (1000000 : Int)] (leaf (lst 1 (Int.toNat (q - p + (1 : Int))) fun j => [iI (p + (↑j : Int))])))) (by kernel_rfl) ?_
 simp only [Tree.sat, allP, true_and, and_true]
 exact ⟨⟨pre0, pre1⟩, rfl, rfl, fun _ _ => rfl⟩
theorem collect_okR : SoundR Try.prog 38 S_collect := by
 refine ⟨⟨_, Try.func38, by kernel_rfl, by kernel_rfl⟩, ?_⟩
 intro avs ns res h hn
 unfold S_collect at h
 split at h
 ·cases h
  exact collect_at _ _ (hn _ (by simp)) (hn _ (by simp))
 ·cases h
end Go.Proofs.Ytlinbkmpkcmniaa
namespace Go.Proofs.Ytlinbkmpkcmniaa
open Go Go.Sx Go.RowKit Bo
open Go.Sx.Tree (need branch leaf)
open Go.Sx.AV (lst ptr agg roI tup top)
def keB (c : Int) (f : Nat → Int) (u0 u1 wi day : Int) : Bool := allI (fun k => keP c f wi day (u0 + k)) (u1 - u0 + 1).toNat
def dyLo (p : Nat → Bool) : Nat → Int
 | 0 => 10001
 | k + 1 => if p k then min (dyLo p k) k else dyLo p k
def dyHi (p : Nat → Bool) : Nat → Int
 | 0 => -1
 | k + 1 => if p k then max (dyHi p k) k else dyHi p k
theorem least_at (a b : Int) : SoundAt Try.prog 35 [.lst 1 2 (fun k => [i (if k = 0 then a else b)])] (i (min a b)) := by
 refine soundAt_fin (G := [(50, Bo.S_sMin)]) (L := []) (SoundG.cons Bo.sMin_ok (SoundG.nil _)) mixed Try.func35 (show Try.f35.body = some (bodyOf Try.f35) by kernel_rfl) noLoops (t := (leaf (RV.x (Value.int IntKind.i64 (min (if 0 = 0 then a else b) (if 1 = 0 then a else b)))))) (by kernel_rfl) ?_
 simp [Tree.sat, fitP, valEq]
def S_least : Sx.Spec := S_sMin
theorem least_ok : SoundSpec Try.prog 35 S_least := by
 refine ⟨⟨_, Try.func35, by kernel_rfl, by kernel_rfl⟩, ?_⟩
 intro avs ns res h hn
 unfold S_least S_sMin at h
 split at h
 ·rename_i f
  split at h
  ·rename_i a b h0 h1
   cases h
   refine (least_at a b).same (.cons (.lst 1 2 _ _ ?_) .nil)
   intro k hk
   rcases (show k = 0 ∨ k = 1 by omega) with rfl | rfl
   ·exact h0
   ·exact h1
  ·cases h
 ·cases h
theorem greatest_at (a b : Int) : SoundAt Try.prog 36 [.lst 1 2 (fun k => [i (if k = 0 then a else b)])] (i (max a b)) := by
 refine soundAt_fin (G := [(51, Bo.S_sMax)]) (L := []) (SoundG.cons Bo.sMax_ok (SoundG.nil _)) mixed Try.func36 (show Try.f36.body = some (bodyOf Try.f36) by kernel_rfl) noLoops (t := (leaf (RV.x (Value.int IntKind.i64 (max (if 0 = 0 then a else b) (if 1 = 0 then a else b)))))) (by kernel_rfl) ?_
 simp [Tree.sat, fitP, valEq]
def S_greatest : Sx.Spec := S_sMax
theorem greatest_ok : SoundSpec Try.prog 36 S_greatest := by
 refine ⟨⟨_, Try.func36, by kernel_rfl, by kernel_rfl⟩, ?_⟩
 intro avs ns res h hn
 unfold S_greatest S_sMax at h
 split at h
 ·rename_i f
  split at h
  ·rename_i a b h0 h1
   cases h
   refine (greatest_at a b).same (.cons (.lst 1 2 _ _ ?_) .nil)
   intro k hk
   rcases (show k = 0 ∨ k = 1 by omega) with rfl | rfl
   ·exact h0
   ·exact h1
  ·cases h
 ·cases h
def S_kept : Sx.Spec := fun l => match l with
 | [.roI [.x (.int .i64 c), .x (.int .i64 T), .x (.int .i64 lo), .x (.int .i64 hi), A, B] 26 f 0, .agg [.x (.int .i64 u0), .x (.int .i64 u1), .x (.int .i64 wi)], .x (.int .i64 day)] => some ([drB f, bdB f, 1 ≤ c ∧ c ≤ 10, 0 ≤ u0 ∧ u0 ≤ u1 ∧ u1 ≤ 10, 0 ≤ wi ∧ wi ≤ 1000000, 0 ≤ day ∧ day ≤ 100000], bl (keB c f u0 u1 wi day))
 | _ => none
theorem kept_at (c T lo hi : Int) (A B : AV) (f : Nat → Int) (u0 u1 wi day : Int) (pre0 : drB f) (pre1 : bdB f) (pre2 : 1 ≤ c ∧ c ≤ 10) (pre3 : 0 ≤ u0 ∧ u0 ≤ u1 ∧ u1 ≤ 10) (pre4 : 0 ≤ wi ∧ wi ≤ 1000000) (pre5 : 0 ≤ day ∧ day ≤ 100000) : SoundAt Try.prog 26 [.roI [i c, i T, i lo, i hi, A, B] 26 f 0, .agg [i u0, i u1, i wi], i day] (bl (keB c f u0 u1 wi day)) := by
 refine soundAt_finX (G := [(37, S_alli)]) (X := { R := [(31, S_marks), (38, S_collect)], H := [] }) (L := []) (SoundG.cons alli_ok (SoundG.nil _)) (SoundX.of (SoundRL.cons marks_okR (SoundRL.cons collect_okR (SoundRL.nil _))) (SoundHL.nil _)) mixed Try.func26 (show Try.f26.body = some (bodyOf Try.f26) by kernel_rfl) noLoopsS (t := (need [(-1000000 : Int) ≤ u0 ∧ u0 ≤ (1000000 : Int), (-1000000 : Int) ≤ u1 ∧ u1 ≤ (1000000 : Int)] (need [isRec 1 (Int.toNat (u1 - u0 + (1 : Int))) (mkF u0), Int.toNat (u1 - u0 + (1 : Int)) ≤ 100000, drB f, bdB f, (1 : Int) ≤ c ∧ c ≤ (10 : Int), (0 : Int) ≤ day ∧ day ≤ (100000 : Int), (0 : Int) ≤ wi ∧ wi ≤ (1000000 : Int), ∀ (j : Nat), j < Int.toNat (u1 - u0 + (1 : Int)) → (0 : Int) ≤ col 0 (mkF u0) j ∧ col 0 (mkF u0) j ≤ (10 : Int)] (leaf (RV.x (Value.bool (allI (fun k => keP c f wi day (col 0 (mkF u0) k)) (Int.toNat (u1 - u0 + (1 : Int)))))))))) (by kernel_rfl) ?_
 simp only [Tree.sat, allP, fitP, fitL, valEq, true_and, and_true, keB]
 refine ⟨⟨by omega, by omega⟩, ⟨fun k hk => rfl, by omega, pre0, pre1, pre2, pre5, pre4, fun j hj => ?_⟩, rfl⟩
 show 0 ≤ u0 + (j : Int) ∧ u0 + (j : Int) ≤ 10
 omega
theorem kept_ok : SoundSpec Try.prog 26 S_kept := by
 refine ⟨⟨_, Try.func26, by kernel_rfl, by kernel_rfl⟩, ?_⟩
 intro avs ns res h hn
 unfold S_kept at h
 split at h
 ·cases h
  exact kept_at _ _ _ _ _ _ _ _ _ _ _ (hn _ (by simp)) (hn _ (by simp)) (hn _ (by simp)) (hn _ (by simp)) (hn _ (by simp)) (hn _ (by simp))
 ·cases h
noncomputable def E_dd (c T lo hi : Int) (A B : AV) (f : Nat → Int) (u0 u1 wi : Int) (N : Nat) : St := (some { σ := [roI [iI c, iI T, iI lo, iI hi, A, B] 26 (fun a => f a) 0, agg [iI u0, iI u1, iI wi], top, ptr 0 0, ptr 1 0, AV.lit false] ++ tpL 25 [], m := [(1, Res.cells 29 [iI (10001 : Int), iI (-1 : Int)]), (0, Res.cells 41 [iI u0, iI u1, iI wi])], nx := 6 } : Option St).getD { σ := [], m := [], nx := 0 }
noncomputable def B_dd : Code := loopBody (loopAt (bodyOf Try.f20) 0)
noncomputable def inv_dd (c T lo hi : Int) (A B : AV) (f : Nat → Int) (u0 u1 wi : Int) (N : Nat) (k : Nat) : St := { σ := ovrS [(8, i k)] (E_dd c T lo hi A B f u0 u1 wi N).σ, m := [(1, .cells 29 [i (dyLo (fun k => keB c f u0 u1 wi k) k), i (dyHi (fun k => keB c f u0 u1 wi k) k)]), (0, .cells 41 [i u0, i u1, i wi])], nx := (E_dd c T lo hi A B f u0 u1 wi N).nx }
noncomputable def out_dd (c T lo hi : Int) (A B : AV) (f : Nat → Int) (u0 u1 wi : Int) (N : Nat) (k : Nat) : AEx → Option St := fun ex => match ex with
 | .exit 0 => some { σ := ovrS [(8, i N)] (E_dd c T lo hi A B f u0 u1 wi N).σ, m := [(1, .cells 29 [i (dyLo (fun k => keB c f u0 u1 wi k) N), i (dyHi (fun k => keB c f u0 u1 wi k) N)]), (0, .cells 41 [i u0, i u1, i wi])], nx := (E_dd c T lo hi A B f u0 u1 wi N).nx }
 | _ => none
noncomputable def T_dd (c T lo hi : Int) (A B : AV) (f : Nat → Int) (u0 u1 wi : Int) (N : Nat) : CT := .leaf (.exit 0, ( out_dd c T lo hi A B f u0 u1 wi N 0 (.exit 0)).getD (E_dd c T lo hi A B f u0 u1 wi N))
noncomputable def LS_dd (c T lo hi : Int) (A B : AV) (f : Nat → Int) (u0 u1 wi : Int) (N : Nat) : LSpec := normSp [] (sumL (inv_dd c T lo hi A B f u0 u1 wi N (0)) (T_dd c T lo hi A B f u0 u1 wi N))
theorem dd_ls (c T lo hi : Int) (A B : AV) (f : Nat → Int) (u0 u1 wi : Int) (N : Nat) (pre0 : drB f) (pre1 : bdB f) (pre2 : 1 ≤ c ∧ c ≤ 10) (pre3 : 0 ≤ u0 ∧ u0 ≤ u1 ∧ u1 ≤ 10) (pre4 : 0 ≤ wi ∧ wi ≤ 1000000) (pre5 : N = 10001) : LSound Try.prog (.loop B_dd) (LS_dd c T lo hi A B f u0 u1 wi N) := by
 refine loop_roundsX [] (E := {}) (G := [(26, S_kept), (35, S_least), (36, S_greatest)]) (L := []) (SoundG.cons kept_ok (SoundG.cons least_ok (SoundG.cons greatest_ok (SoundG.nil _)))) (SoundX.of (SoundRL.nil _) (SoundHL.nil _)) mixed noLoops (X := Nat) (inv_dd c T lo hi A B f u0 u1 wi N) (fun k => k ≤ N) (fun k => N - k) (out_dd c T lo hi A B f u0 u1 wi N) (x0 := 0) (by simp) ?_ ?_ ?_
 ·rintro k
  kernel_rfl
 ·rintro k y E h
  unfold out_dd at h
  split at h
  ·cases h; kernel_rfl
  ·cases h
 ·rintro Q hQ k hx
  refine ⟨(k + 1), ?_⟩
  have e : roundX Try.prog [(26, S_kept), (35, S_least), (36, S_greatest)] {} [] [] B_dd (inv_dd c T lo hi A B f u0 u1 wi N k) (inv_dd c T lo hi A B f u0 u1 wi N ((k + 1))) (out_dd c T lo hi A B f u0 u1 wi N k) = (let z0 := keB c f u0 u1 wi; let z1 := (roI [iI c, iI T, iI lo, iI hi, A, B] 26 (fun a => f a) 0); let z2 := (agg [iI u0, iI u1, iI wi]); (branch (decide ((↑k : Int) < 10001)) (need [drB fun a => f a, bdB fun a => f a, (1 : Int) ≤ c ∧ c ≤ (10 : Int), (0 : Int) ≤ u0 ∧ u0 ≤ u1 ∧ u1 ≤ (10 : Int), (0 : Int) ≤ wi ∧ wi ≤ (1000000 : Int), (0 : Int) ≤ (↑k : Int) ∧ (↑k : Int) ≤ 100000] (branch (keB c (fun a => f a) u0 u1 wi (↑k : Int)) (need [inI64 ((↑k : Int) + 1)] (need [Eq1 z1, Eq1 z2, Eq1 (ptr 0 0), Eq1 (ptr 1 0), Eq1 (AV.lit false), (↑k : Int) + 1 = (↑(k + 1) : Int), min (dyLo (fun k => z0 (↑k : Int)) k) (↑k : Int) = dyLo (fun k => z0 (↑k : Int)) (k + 1), max (dyHi (fun k => z0 (↑k : Int)) k) (↑k : Int) = dyHi (fun k => z0 (↑k : Int)) (k + 1), u0 = u0, u1 = u1, wi = wi] (leaf AEx.normal))) (need [inI64 ((↑k : Int) + 1)] (need [Eq1 z1, Eq1 z2, Eq1 (ptr 0 0), Eq1 (ptr 1 0), Eq1 (AV.lit false), (↑k : Int) + 1 = (↑(k + 1) : Int), dyLo (fun k => z0 (↑k : Int)) k = dyLo (fun k => z0 (↑k : Int)) (k + 1), dyHi (fun k => z0 (↑k : Int)) k = dyHi (fun k => z0 (↑k : Int)) (k + 1), u0 = u0, u1 = u1, wi = wi] (leaf AEx.normal))))) (need [Eq1 z1, Eq1 z2, Eq1 (ptr 0 0), Eq1 (ptr 1 0), Eq1 (AV.lit false), (↑k : Int) = (↑N : Int), dyLo (fun k => z0 (↑k : Int)) k = dyLo (fun k => z0 (↑k : Int)) N, dyHi (fun k => z0 (↑k : Int)) k = dyHi (fun k => z0 (↑k : Int)) N, u0 = u0, u1 = u1, wi = wi] (leaf (AEx.exit 0))))) := by kernel_rfl
  rw [e]
  simp only [T_dd, out_dd, Tree.sat, Option.getD_some] at hQ
  have eL : dyLo (fun k => keB c f u0 u1 wi k) (k + 1) = if keB c f u0 u1 wi k then min (dyLo (fun k => keB c f u0 u1 wi k) k) k else dyLo (fun k => keB c f u0 u1 wi k) k := rfl
  have eH : dyHi (fun k => keB c f u0 u1 wi k) (k + 1) = if keB c f u0 u1 wi k then max (dyHi (fun k => keB c f u0 u1 wi k) k) k else dyHi (fun k => keB c f u0 u1 wi k) k := rfl
  simp only [Tree.sat, allP, fitP, fitL, valEq, inI64, true_and, and_true, decide_eq_true_eq, decide_eq_false_iff_not, Int.toNat_natCast]
  clear e
  refine ⟨fun h => ⟨⟨pre0, pre1, pre2, pre3, pre4, by omega⟩, fun hk => ?_, fun hk => ?_⟩, fun h => ?_⟩
  ·rw [eL, eH, if_pos hk, if_pos hk]
   (repeat' first | with_reducible apply And.intro | with_reducible intro _)
   all_goals first | exact True.intro | omega | with_reducible rfl | assumption
  ·have hk : ¬ keB c f u0 u1 wi k = true := by rw [hk]; simp
   rw [eL, eH, if_neg hk, if_neg hk]
   (repeat' first | with_reducible apply And.intro | with_reducible intro _)
   all_goals first | exact True.intro | omega | with_reducible rfl | assumption
  ·obtain rfl : k = N := by omega
   (repeat' first | with_reducible apply And.intro | with_reducible intro _)
   all_goals first | exact True.intro | omega | with_reducible rfl | (rename_i E hE; cases hE; exact hQ)
theorem days_at (c T lo hi : Int) (A B : AV) (f : Nat → Int) (u0 u1 wi : Int) (N : Nat) (pre0 : drB f) (pre1 : bdB f) (pre2 : 1 ≤ c ∧ c ≤ 10) (pre3 : 0 ≤ u0 ∧ u0 ≤ u1 ∧ u1 ≤ 10) (pre4 : 0 ≤ wi ∧ wi ≤ 1000000) (pre5 : N = 10001) : SoundAt Try.prog 20 [.roI [i c, i T, i lo, i hi, A, B] 26 f 0, .agg [i u0, i u1, i wi]] (.tup [.agg [i (dyLo (fun k => keB c f u0 u1 wi k) N), i (dyHi (fun k => keB c f u0 u1 wi k) N)], bl (decide (dyHi (fun k => keB c f u0 u1 wi k) N ≥ 0))]) := by
 refine soundAt_finX (G := []) (X := {}) (L := [LS_dd c T lo hi A B f u0 u1 wi N]) (SoundG.nil _) (SoundX.of (SoundRL.nil _) (SoundHL.nil _)) mixed Try.func20 (show Try.f20.body = some (bodyOf Try.f20) by kernel_rfl) (one_loop (lpE (b := .loop B_dd) (by kernel_rfl) <| (dd_ls c T lo hi A B f u0 u1 wi N pre0 pre1 pre2 pre3 pre4 pre5).N)) (t := (let z0 := keB c f u0 u1 wi; (need [Eq1 (roI [iI c, iI T, iI lo, iI hi, A, B] 26 (fun a => f a) 0), Eq1 (agg [iI u0, iI u1, iI wi]), Eq1 (ptr 0 0), Eq1 (ptr 1 0), Eq1 (AV.lit false), (0 : Int) = (↑(0 : Nat) : Int), (10001 : Int) = dyLo (fun k => z0 (↑k : Int)) 0, (-1 : Int) = dyHi (fun k => z0 (↑k : Int)) 0, u0 = u0, u1 = u1, wi = wi] (leaf (RV.tup [RV.agg [RV.x (Value.int IntKind.i64 (dyLo (fun k => z0 (↑k : Int)) N)), RV.x (Value.int IntKind.i64 (dyHi (fun k => z0 (↑k : Int)) N))], RV.x (Value.bool (decide (dyHi (fun k => z0 (↑k : Int)) N ≥ (0 : Int))))]))))) (by kernel_rfl) ?_
 simp only [Tree.sat, allP, fitP, fitL, valEq, true_and, and_true]
 exact ⟨rfl, rfl, rfl⟩
def nD : Nat := 10001
def keD (c : Int) (f : Nat → Int) (u0 u1 wi : Int) (k : Nat) : Bool := keB c f u0 u1 wi k
def S_days : Sx.Spec := fun l => match l with
 | [.roI [.x (.int .i64 c), .x (.int .i64 T), .x (.int .i64 lo), .x (.int .i64 hi), A, B] 26 f 0, .agg [.x (.int .i64 u0), .x (.int .i64 u1), .x (.int .i64 wi)]] => some ([drB f, bdB f, 1 ≤ c ∧ c ≤ 10, 0 ≤ u0 ∧ u0 ≤ u1 ∧ u1 ≤ 10, 0 ≤ wi ∧ wi ≤ 1000000], .tup [.agg [i (dyLo (keD c f u0 u1 wi) nD), i (dyHi (keD c f u0 u1 wi) nD)], bl (decide (dyHi (keD c f u0 u1 wi) nD ≥ 0))])
 | _ => none
theorem days_ok : SoundSpec Try.prog 20 S_days := by
 refine ⟨⟨_, Try.func20, by kernel_rfl, by kernel_rfl⟩, ?_⟩
 intro avs ns res h hn
 unfold S_days at h
 split at h
 ·cases h
  exact days_at _ _ _ _ _ _ _ _ _ _ nD (hn _ (by simp)) (hn _ (by simp)) (hn _ (by simp)) (hn _ (by simp)) (hn _ (by simp)) rfl
 ·cases h
end Go.Proofs.Ytlinbkmpkcmniaa
namespace Go.Proofs.Ytlinbkmpkcmniaa.Bo
open Go Go.Sx Go.RowKit
open Go.Sx.Tree (need branch leaf)
open Go.Sx.AV (lst ptr agg roI tup top)
theorem needSp_soundN {P : Program} {c : Code} {ps : List Prop} {sp : LSpec} (h : allP ps → LSoundN P c sp) : LSoundN P c (needSp ps sp) := fun cx hf => needSp_soundC (fun hp => h hp cx hf)
theorem rdM_congr {c : Nat} {T lo hi : Int} {a b u v a' b' u' v' : Nat → Int} : ∀ {n : Nat}, (∀ j, j < n → a j = a' j ∧ b j = b' j ∧ u j = u' j ∧ v j = v' j) → rdM c T lo hi a b u v n = rdM c T lo hi a' b' u' v' n
 | 0, _ => rfl
 | n + 1, h => by
  obtain ⟨h1, h2, h3, h4⟩ := h n (by omega)
  show rdS c (rdM c T lo hi a b u v n) _ _ _ _ = rdS c (rdM c T lo hi a' b' u' v' n) _ _ _ _
  rw [rdM_congr (fun j hj => h j (by omega)), h1, h2, h3, h4]
theorem fwM_congr {c : Nat} {T lo hi : Int} {a b u v a' b' u' v' : Nat → Int} {n : Nat} (h : ∀ j, j < n → a j = a' j ∧ b j = b' j ∧ u j = u' j ∧ v j = v' j) : fwM c T lo hi n a b u v = fwM c T lo hi n a' b' u' v' := by
 unfold fwM
 rw [rdM_congr h]
theorem okR_congr {c : Nat} {T lo hi : Int} {a b u v a' b' u' v' : Nat → Int} {n : Nat} (h : ∀ j, j < n → a j = a' j ∧ b j = b' j ∧ u j = u' j ∧ v j = v' j) : okR c T lo hi n a b u v = okR c T lo hi n a' b' u' v' := by
 unfold okR
 rw [fwM_congr h]
end Go.Proofs.Ytlinbkmpkcmniaa.Bo
namespace Go.Proofs.Ytlinbkmpkcmniaa.Bo
open Go Go.Sx Go.RowKit
open Go.Sx.Tree (need branch leaf)
open Go.Sx.AV (lst ptr agg roI tup top)
end Go.Proofs.Ytlinbkmpkcmniaa.Bo
namespace Go.Proofs.Ytlinbkmpkcmniaa.Bo
open Go Go.Sx Go.RowKit
open Go.Sx.Tree (need branch leaf)
open Go.Sx.AV (lst ptr agg roI tup top)
def Tr (c : Nat) (T lo hi : Int) (n : Nat) (a b u v : Nat → Int) (h : Nat → Int) : Prop :=
 h 0 = 0 ∧ h c = T ∧ (∀ k, k < c → lo ≤ h (k + 1) - h k ∧ h (k + 1) - h k ≤ hi) ∧ ∀ j, j < n → h (b j).toNat - h (a j).toNat ≤ v j ∧ (b j < c → u j + 1 ≤ h (b j + 1).toNat - h (a j).toNat)
def ob (c : Nat) (M : Nat → Nat → Int) (h : Nat → Int) : Prop := ∀ x y, x ≤ c → y ≤ c → h y - h x ≤ M x y
theorem ob_bnd {c : Nat} {M : Nat → Nat → Int} {h : Nat → Int} {p q : Nat} {v : Int} (hp : p ≤ c) (hq : q ≤ c) : ob c (bnd M p q v) h ↔ ob c M h ∧ h q - h p ≤ v := by
 constructor
 ·intro k
  refine ⟨fun x y hx hy => Int.le_trans (k x y hx hy) (bnd_le _ _ _ _ _ _), Int.le_trans (k p q hp hq) (bnd_at _ _ _ _)⟩
 ·rintro ⟨k1, k2⟩ x y hx hy
  have h1 := k1 x y hx hy
  unfold bnd set2
  split
  ·rename_i e
   rw [e.1, e.2] at h1 ⊢
   omega
  ·exact h1
theorem ob_mono {c : Nat} {M N : Nat → Nat → Int} {h : Nat → Int} (hm : ∀ x y, M x y ≤ N x y) (k : ob c M h) : ob c N h := fun x y hx hy => Int.le_trans (k x y hx hy) (hm x y)
theorem fwS_le (M : Nat → Nat → Int) (o f t x y : Nat) : fwS M o f t x y ≤ M x y := bnd_le _ _ _ _ _ _
theorem fwT_le (M : Nat → Nat → Int) (o f : Nat) : ∀ t x y, fwT M o f t x y ≤ M x y
 | 0, _, _ => Int.le_refl _
 | t + 1, x, y => Int.le_trans (fwS_le _ _ _ _ _ _) (fwT_le M o f t x y)
theorem fwF_le (c : Nat) (M : Nat → Nat → Int) (o : Nat) : ∀ f x y, fwF c M o f x y ≤ M x y
 | 0, _, _ => Int.le_refl _
 | f + 1, x, y => Int.le_trans (fwT_le _ _ _ _ _ _) (fwF_le c M o f x y)
theorem fwO_le1 (c : Nat) (M : Nat → Nat → Int) (o x y : Nat) : fwO c M (o + 1) x y ≤ fwO c M o x y := fwF_le _ _ _ _ _ _
theorem fwO_le2 (c : Nat) (M : Nat → Nat → Int) (o : Nat) : ∀ d x y, fwO c M (o + d) x y ≤ fwO c M o x y
 | 0, _, _ => Int.le_refl _
 | d + 1, x, y => Int.le_trans (fwO_le1 c M (o + d) x y) (fwO_le2 c M o d x y)
theorem fwO_le (c : Nat) (M : Nat → Nat → Int) (o x y : Nat) : fwO c M o x y ≤ M x y := by
 have := fwO_le2 c M 0 o x y
 rwa [Nat.zero_add] at this
theorem ob_T {c : Nat} {M : Nat → Nat → Int} {h : Nat → Int} {o f : Nat} (ho : o ≤ c) (hf : f ≤ c) (k : ob c M h) : ∀ t, t ≤ c + 1 → ob c (fwT M o f t) h
 | 0, _ => k
 | t + 1, ht => by
  have ih := ob_T ho hf k t (by omega)
  refine (ob_bnd hf (by omega)).2 ⟨ih, ?_⟩
  have h1 := ih f o hf ho
  have h2 := ih o t ho (by omega)
  omega
theorem ob_F {c : Nat} {M : Nat → Nat → Int} {h : Nat → Int} {o : Nat} (ho : o ≤ c) (k : ob c M h) : ∀ f, f ≤ c + 1 → ob c (fwF c M o f) h
 | 0, _ => k
 | f + 1, hf => ob_T ho (by omega) (ob_F ho k f (by omega)) (c + 1) (Nat.le_refl _)
theorem ob_O {c : Nat} {M : Nat → Nat → Int} {h : Nat → Int} (k : ob c M h) : ∀ o, o ≤ c + 1 → ob c (fwO c M o) h
 | 0, _ => k
 | o + 1, ho => ob_F (by omega) (ob_O k o (by omega)) (c + 1) (Nat.le_refl _)
theorem fwT_eq {c : Nat} {M N : Nat → Nat → Int} {o f : Nat} (h0 : 0 ≤ M o o) (hN : ∀ x y, N x y = if x < f ∧ y ≤ c then min (M x y) (M x o + M o y) else M x y) : ∀ t, t ≤ c + 1 → ∀ x y, fwT N o f t x y = if (x < f ∧ y ≤ c) ∨ (x = f ∧ y < t) then min (M x y) (M x o + M o y) else M x y
 | 0, _, x, y => by
  show N x y = _
  rw [hN]
  by_cases h : x < f ∧ y ≤ c
  ·rw [if_pos h, if_pos (.inl h)]
  ·rw [if_neg h, if_neg (by omega)]
 | t + 1, ht, x, y => by
  have ih := fwT_eq h0 hN t (by omega)
  show bnd (fwT N o f t) f t (fwT N o f t f o + fwT N o f t o t) x y = _
  have e1 : fwT N o f t f o = M f o := by
   rw [ih]
   split <;> omega
  have e2 : fwT N o f t o t = M o t := by
   rw [ih]
   split <;> omega
  have e3 : fwT N o f t f t = M f t := by
   rw [ih, if_neg (by omega)]
  unfold bnd set2
  rw [e1, e2, e3]
  by_cases hxy : x = f ∧ y = t
  ·rw [if_pos hxy, if_pos (by omega), hxy.1, hxy.2]
  ·rw [if_neg hxy, ih]
   by_cases h : (x < f ∧ y ≤ c) ∨ (x = f ∧ y < t)
   ·rw [if_pos h, if_pos (by omega)]
   ·rw [if_neg h, if_neg (by omega)]
theorem fwF_eq {c : Nat} {M : Nat → Nat → Int} {o : Nat} (h0 : 0 ≤ M o o) : ∀ f x y, fwF c M o f x y = if x < f ∧ y ≤ c then min (M x y) (M x o + M o y) else M x y
 | 0, x, y => by
  rw [if_neg (by omega)]
  rfl
 | f + 1, x, y => by
  show fwT (fwF c M o f) o f (c + 1) x y = _
  rw [fwT_eq h0 (fwF_eq h0 f) (c + 1) (Nat.le_refl _)]
  by_cases h : (x < f ∧ y ≤ c) ∨ (x = f ∧ y < c + 1)
  ·rw [if_pos h, if_pos (by omega)]
  ·rw [if_neg h, if_neg (by omega)]
theorem fwO_closed {c : Nat} {M : Nat → Nat → Int} : ∀ k, k ≤ c + 1 → (∀ o, o < k → 0 ≤ fwO c M o o o) → ∀ p x y, p < k → x ≤ c → y ≤ c → fwO c M k x y ≤ fwO c M k x p + fwO c M k p y
 | 0, _, _, p, x, y, hp, _, _ => absurd hp (Nat.not_lt_zero _)
 | k + 1, hk, hd, p, x, y, hp, hx, hy => by
  have ih := fwO_closed k (by omega) (fun o ho => hd o (by omega))
  have h0 := hd k (by omega)
  have eq := fwF_eq (c := c) h0 (c + 1)
  show fwF c (fwO c M k) k (c + 1) x y ≤ fwF c (fwO c M k) k (c + 1) x p + fwF c (fwO c M k) k (c + 1) p y
  rw [eq x y, eq x p, eq p y, if_pos (by omega), if_pos (by omega), if_pos (by omega)]
  rcases (show p = k ∨ p < k by omega) with rfl | hpk
  ·omega
  ·have i1 := ih p x y hpk hx hy
   have i2 := ih p x k hpk hx (by omega)
   have i3 := ih p k y hpk (by omega) hy
   have i4 := ih p k k hpk (by omega) (by omega)
   omega
theorem ob_ini {c : Nat} {h : Nat → Int} : ob c (ini c (c + 1) 0) h ↔ ∀ x y, x ≤ c → y ≤ c → h y - h x ≤ 2000 := by
 constructor
 ·intro k x y hx hy
  have := k x y hx hy
  unfold ini at this
  split at this <;> omega
 ·intro k x y hx hy
  unfold ini
  by_cases e : x = y
  ·subst e
   rw [if_neg (by omega)]
   omega
  ·rw [if_pos (by omega)]
   exact k x y hx hy
theorem ob_cel {c : Nat} {lo hi : Int} {h : Nat → Int} : ∀ k, k ≤ c → (ob c (cel c lo hi k) h ↔ ob c (ini c (c + 1) 0) h ∧ ∀ j, j < k → lo ≤ h (j + 1) - h j ∧ h (j + 1) - h j ≤ hi)
 | 0, _ => ⟨fun k => ⟨k, fun j hj => absurd hj (Nat.not_lt_zero _)⟩, fun k => k.1⟩
 | k + 1, hk => by
  have ih := ob_cel (c := c) (lo := lo) (hi := hi) (h := h) k (by omega)
  show ob c (bnd (bnd (cel c lo hi k) k (k + 1) hi) (k + 1) k (-lo)) h ↔ _
  rw [ob_bnd (by omega) (by omega), ob_bnd (by omega) (by omega), ih]
  constructor
  ·rintro ⟨⟨⟨h1, h2⟩, h3⟩, h4⟩
   refine ⟨h1, fun j hj => ?_⟩
   rcases (show j < k ∨ j = k by omega) with h | rfl
   ·exact h2 j h
   ·omega
  ·rintro ⟨h1, h2⟩
   have h3 := h2 k (by omega)
   exact ⟨⟨⟨h1, fun j hj => h2 j (by omega)⟩, by omega⟩, by omega⟩
def rdOk (c : Nat) (n : Nat) (a b u v : Nat → Int) : Prop := ∀ j, j < n → (0 ≤ a j ∧ a j ≤ (c : Int) - 1) ∧ (a j ≤ b j ∧ b j ≤ c) ∧ 0 ≤ u j ∧ u j ≤ v j ∧ v j ≤ 2000
theorem ob_rd {c : Nat} {T lo hi : Int} {a b u v : Nat → Int} {h : Nat → Int} : ∀ n, rdOk c n a b u v → (ob c (rdM c T lo hi a b u v n) h ↔ ob c (cel c lo hi c) h ∧ h c - h 0 = T ∧ ∀ j, j < n → h (b j).toNat - h (a j).toNat ≤ v j ∧ (b j < c → u j + 1 ≤ h (b j + 1).toNat - h (a j).toNat))
 | 0, _ => by
  show ob c (bnd (bnd (cel c lo hi c) 0 c T) c 0 (-T)) h ↔ _
  rw [ob_bnd (by omega) (by omega), ob_bnd (by omega) (by omega)]
  constructor
  ·rintro ⟨⟨h1, h2⟩, h3⟩
   exact ⟨h1, by omega, fun j hj => absurd hj (Nat.not_lt_zero _)⟩
  ·rintro ⟨h1, h2, _⟩
   exact ⟨⟨h1, by omega⟩, by omega⟩
 | n + 1, hr => by
  have ih := ob_rd (c := c) (T := T) (lo := lo) (hi := hi) (a := a) (b := b) (u := u) (v := v) (h := h) n (fun j hj => hr j (by omega))
  have hn := hr n (by omega)
  have key : ob c (rdM c T lo hi a b u v (n + 1)) h ↔ ob c (rdM c T lo hi a b u v n) h ∧ h (b n).toNat - h (a n).toNat ≤ v n ∧ (b n < c → u n + 1 ≤ h (b n + 1).toNat - h (a n).toNat) := by
   show ob c (rdS c (rdM c T lo hi a b u v n) _ _ _ _) h ↔ _
   unfold rdS
   split
   ·rename_i hb
    rw [ob_bnd (by omega) (by omega), ob_bnd (by omega) (by omega)]
    constructor
    ·rintro ⟨⟨h1, h2⟩, h3⟩
     exact ⟨h1, h2, fun _ => by omega⟩
    ·rintro ⟨h1, h2, h3⟩
     have := h3 hb
     exact ⟨⟨h1, h2⟩, by omega⟩
   ·rename_i hb
    rw [ob_bnd (by omega) (by omega)]
    constructor
    ·rintro ⟨h1, h2⟩
     exact ⟨h1, h2, fun h => absurd h hb⟩
    ·rintro ⟨h1, h2, _⟩
     exact ⟨h1, h2⟩
  rw [key, ih]
  constructor
  ·rintro ⟨⟨h1, h2, h3⟩, h4⟩
   refine ⟨h1, h2, fun j hj => ?_⟩
   rcases (show j < n ∨ j = n by omega) with h | rfl
   ·exact h3 j h
   ·exact h4
  ·rintro ⟨h1, h2, h3⟩
   exact ⟨⟨h1, h2, fun j hj => h3 j (by omega)⟩, h3 n (by omega)⟩
theorem step_mono {lo : Int} {h : Nat → Int} {c : Nat} (hl : 0 ≤ lo) (hs : ∀ k, k < c → lo ≤ h (k + 1) - h k) (x : Nat) : ∀ d, x + d ≤ c → h x ≤ h (x + d)
 | 0, _ => Int.le_refl _
 | d + 1, hd => by
  have ih := step_mono hl hs x d (by omega)
  have := hs (x + d) (by omega)
  rw [← Nat.add_assoc]
  omega
theorem tr_ob {c : Nat} {T lo hi : Int} {n : Nat} {a b u v : Nat → Int} {h : Nat → Int} (hb : 1 ≤ lo ∧ lo ≤ hi ∧ hi ≤ 200 ∧ 1 ≤ T ∧ T ≤ 2000) (hr : rdOk c n a b u v) (h0 : h 0 = 0) : Tr c T lo hi n a b u v h ↔ ob c (rdM c T lo hi a b u v n) h := by
 rw [ob_rd n hr, ob_cel c (Nat.le_refl _), ob_ini]
 constructor
 ·rintro ⟨_, h1, h2, h3⟩
  refine ⟨⟨fun x y hx hy => ?_, h2⟩, by omega, h3⟩
  have m := fun x d => step_mono (lo := lo) (h := h) (c := c) (by omega) (fun k hk => (h2 k hk).1) x d
  have m1 := m 0 x (by omega)
  have m2 := m y (c - y) (by omega)
  rw [Nat.zero_add] at m1
  rw [show y + (c - y) = c by omega] at m2
  omega
 ·rintro ⟨⟨_, h2⟩, h3, h4⟩
  exact ⟨h0, by omega, h2, h4⟩
theorem rdOk_of {c : Int} {n : Nat} {a b u v : Nat → Int} (hc : 1 ≤ c ∧ c ≤ 10) (h : allI (fun k => rdB c (a k) (b k) (u k) (v k)) n = true) : rdOk c.toNat n a b u v := fun j hj => by
 have := rdB_v (allI_iff.1 h j hj)
 omega
theorem okR_iff {c : Nat} {T lo hi : Int} {n : Nat} {a b u v : Nat → Int} : okR c T lo hi n a b u v = true ↔ ∀ k, k ≤ c → 0 ≤ fwM c T lo hi n a b u v k k := by
 unfold okR
 rw [allI_iff]
 constructor
 ·intro h k hk
  simpa using h k (by omega)
 ·intro h k hk
  simpa using h k (by omega)
theorem tr_fw {c : Nat} {T lo hi : Int} {n : Nat} {a b u v : Nat → Int} {h : Nat → Int} (hb : 1 ≤ lo ∧ lo ≤ hi ∧ hi ≤ 200 ∧ 1 ≤ T ∧ T ≤ 2000) (hr : rdOk c n a b u v) (h0 : h 0 = 0) : Tr c T lo hi n a b u v h ↔ ob c (fwM c T lo hi n a b u v) h := by
 rw [tr_ob hb hr h0]
 exact ⟨fun k => ob_O k (c + 1) (Nat.le_refl _), fun k => ob_mono (fun x y => fwO_le c _ (c + 1) x y) k⟩
theorem tr_bd {c : Nat} {T lo hi : Int} {n : Nat} {a b u v : Nat → Int} {h : Nat → Int} (hb : 1 ≤ lo ∧ lo ≤ hi ∧ hi ≤ 200 ∧ 1 ≤ T ∧ T ≤ 2000) (hr : rdOk c n a b u v) (k : Tr c T lo hi n a b u v h) {x : Nat} (hx : x ≤ c) : -(fwM c T lo hi n a b u v x 0) ≤ h x ∧ h x ≤ fwM c T lo hi n a b u v 0 x := by
 have k1 := (tr_fw hb hr k.1).1 k
 have h1 := k1 x 0 hx (by omega)
 have h2 := k1 0 x (by omega) hx
 have := k.1
 omega
theorem fw_closed {c : Nat} {T lo hi : Int} {n : Nat} {a b u v : Nat → Int} (h : okR c T lo hi n a b u v = true) {p x y : Nat} (hp : p ≤ c) (hx : x ≤ c) (hy : y ≤ c) : fwM c T lo hi n a b u v x y ≤ fwM c T lo hi n a b u v x p + fwM c T lo hi n a b u v p y := by
 refine fwO_closed (c + 1) (Nat.le_refl _) (fun o ho => ?_) p x y (by omega) hx hy
 have h1 := okR_iff.1 h o (by omega)
 have h2 := fwO_le2 c (rdM c T lo hi a b u v n) o (c + 1 - o) o o
 rw [show o + (c + 1 - o) = c + 1 by omega] at h2
 exact Int.le_trans h1 h2
theorem rdM_00 {c : Nat} {T lo hi : Int} {a b u v : Nat → Int} (n : Nat) : rdM c T lo hi a b u v n 0 0 ≤ 0 := by
 have h1 := rdM_mono c T lo hi a b u v 0 n (Nat.zero_le _) 0 0
 have h2 : rdM c T lo hi a b u v 0 0 0 ≤ cel c lo hi c 0 0 := Int.le_trans (bnd_le _ _ _ _ _ _) (bnd_le _ _ _ _ _ _)
 have h3 : ∀ k, cel c lo hi k 0 0 ≤ 0 := by
  intro k
  induction k with
  | zero => unfold cel ini; rw [if_neg (by omega)]; exact Int.le_refl _
  | succ k ih => exact Int.le_trans (Int.le_trans (bnd_le _ _ _ _ _ _) (bnd_le _ _ _ _ _ _)) ih
 exact Int.le_trans h1 (Int.le_trans h2 (h3 c))
theorem fw_00 {c : Nat} {T lo hi : Int} {n : Nat} {a b u v : Nat → Int} (h : okR c T lo hi n a b u v = true) : fwM c T lo hi n a b u v 0 0 = 0 := by
 have h1 := okR_iff.1 h 0 (Nat.zero_le _)
 have h2 : fwM c T lo hi n a b u v 0 0 ≤ 0 := Int.le_trans (fwO_le c _ (c + 1) 0 0) (rdM_00 n)
 omega
theorem tr_hi {c : Nat} {T lo hi : Int} {n : Nat} {a b u v : Nat → Int} (hb : 1 ≤ lo ∧ lo ≤ hi ∧ hi ≤ 200 ∧ 1 ≤ T ∧ T ≤ 2000) (hr : rdOk c n a b u v) (h : okR c T lo hi n a b u v = true) : Tr c T lo hi n a b u v (fun k => fwM c T lo hi n a b u v 0 k) := by
 refine (tr_fw hb hr (fw_00 h)).2 fun x y hx hy => ?_
 have := fw_closed h hx (Nat.zero_le _) hy
 show fwM c T lo hi n a b u v 0 y - fwM c T lo hi n a b u v 0 x ≤ _
 omega
theorem tr_lo {c : Nat} {T lo hi : Int} {n : Nat} {a b u v : Nat → Int} (hb : 1 ≤ lo ∧ lo ≤ hi ∧ hi ≤ 200 ∧ 1 ≤ T ∧ T ≤ 2000) (hr : rdOk c n a b u v) (h : okR c T lo hi n a b u v = true) : Tr c T lo hi n a b u v (fun k => -(fwM c T lo hi n a b u v k 0)) := by
 refine (tr_fw hb hr (by rw [fw_00 h]; rfl)).2 fun x y hx hy => ?_
 have := fw_closed h hy hx (Nat.zero_le _)
 show -(fwM c T lo hi n a b u v y 0) - -(fwM c T lo hi n a b u v x 0) ≤ _
 omega
end Go.Proofs.Ytlinbkmpkcmniaa.Bo
namespace Go.Proofs.Ytlinbkmpkcmniaa.Bo
open Go Go.Sx Go.RowKit
open Go.Sx.Tree (need branch leaf)
open Go.Sx.AV (lst ptr agg roI tup top)
end Go.Proofs.Ytlinbkmpkcmniaa.Bo
namespace Go.Proofs.Ytlinbkmpkcmniaa.Bo
open Go Go.Sx Go.RowKit
open Go.Sx.Tree (need branch leaf)
open Go.Sx.AV (lst ptr agg roI tup top)
end Go.Proofs.Ytlinbkmpkcmniaa.Bo
namespace Go.Proofs.Ytlinbkmpkcmniaa.Bo
open Go Go.Sx Go.RowKit
open Go.Sx.Tree (need branch leaf)
open Go.Sx.AV (lst ptr agg roI tup top)
end Go.Proofs.Ytlinbkmpkcmniaa.Bo
namespace Go.Proofs.Ytlinbkmpkcmniaa.Bo
open Go Go.Sx Go.RowKit
open Go.Sx.Tree (need branch leaf)
open Go.Sx.AV (lst ptr agg roI tup top)
end Go.Proofs.Ytlinbkmpkcmniaa.Bo
namespace Go.Proofs.Ytlinbkmpkcmniaa.Bo
open Go Go.Sx Go.RowKit
open Go.Sx.Tree (need branch leaf)
open Go.Sx.AV (lst ptr agg roI tup top)
end Go.Proofs.Ytlinbkmpkcmniaa.Bo
namespace Go.Proofs.Ytlinbkmpkcmniaa
open Go Go.Sx Go.RowKit Bo
open Go.Sx.Tree (need branch leaf)
open Go.Sx.AV (lst ptr agg roI tup top)
def usB (c u0 u1 wi : Int) : Bool := bt 0 u0 u1 && decide (u1 ≤ c) && bt 0 wi 1000
def vaB (c T lo hi : Int) (m : Nat) (p q : Nat → Int) (pl ph dl dh : Int) : Bool := decide (Pt.blE m p q pl ph = 0) && tubeB c T lo hi && insB 0 dl dh 100
def rdE (c T lo hi : Int) (n : Nat) (a b u v : Nat → Int) (m : Nat) (p q : Nat → Int) (pl ph dl dh : Int) : Int := if n > 12 ∨ m > 8 then 3 else if vaB c T lo hi m p q pl ph dl dh = true ∧ (eB c T lo hi n a b u v = 0 ∨ eB c T lo hi n a b u v = 9) then eB c T lo hi n a b u v else 1
def bdL (c T lo hi : Int) (n : Nat) (a b u v : Nat → Int) (m : Nat) (p q : Nat → Int) (pl ph : Int) (k : Nat) : Int := dnI (-(fwB c T lo hi n a b u v k 0) * Pt.boilI m p q pl) T
def bdH (c T lo hi : Int) (n : Nat) (a b u v : Nat → Int) (m : Nat) (p q : Nat → Int) (pl ph : Int) (k : Nat) : Int := upI (fwB c T lo hi n a b u v 0 k * Pt.boilI m p q ph) T
def wkF (pl ph dl dh : Int) (L H : Nat → Int) (k j : Nat) : Int := if j = 0 then pl else if j = 1 then ph else if j = 2 then dl else if j = 3 then dh else if j < 4 + 2 * k then (if j % 2 = 0 then L ((j - 4) / 2) else H ((j - 4) / 2)) else 0
def wkA (c T lo hi : Int) (n : Nat) (a b u v : Nat → Int) (m : Nat) (p q : Nat → Int) (pl ph dl dh : Int) : Nat → Int := wkF pl ph dl dh (bdL c T lo hi n a b u v m p q pl ph) (bdH c T lo hi n a b u v m p q pl ph) (c.toNat + 1)
theorem usB_iff {c u0 u1 wi : Int} : usB c u0 u1 wi = true ↔ (0 ≤ u0 ∧ u0 ≤ u1) ∧ u1 ≤ c ∧ 0 ≤ wi ∧ wi ≤ 1000 := by
 simp only [usB, Bool.and_eq_true, decide_eq_true_eq, bt_iff, and_assoc]
theorem tr_in {c : Nat} {T lo hi : Int} {n : Nat} {a b u v : Nat → Int} {h : Nat → Int} (hl : 0 ≤ lo) (k : Tr c T lo hi n a b u v h) {x : Nat} (hx : x ≤ c) : 0 ≤ h x ∧ h x ≤ T := by
 obtain ⟨h0, h1, h2, _⟩ := k
 have up : ∀ y, y ≤ c → 0 ≤ h y := by
  intro y
  induction y with
  | zero => intro _; omega
  | succ y ih =>
   intro hy
   have := h2 y (by omega)
   have := ih (by omega)
   omega
 have dn : ∀ d, d ≤ c → h (c - d) ≤ T := by
  intro d
  induction d with
  | zero => intro _; rw [Nat.sub_zero, h1]; exact Int.le_refl _
  | succ d ih =>
   intro hd
   have := h2 (c - (d + 1)) (by omega)
   rw [show c - (d + 1) + 1 = c - d by omega] at this
   have := ih (by omega)
   omega
 refine ⟨up x hx, ?_⟩
 have := dn (c - x) (by omega)
 rw [show c - (c - x) = x by omega] at this
 exact this
theorem ht_bd {c T lo hi : Int} {n : Nat} {a b u v : Nat → Int} (h : eB c T lo hi n a b u v = 0) {k : Nat} (hk : (k : Int) ≤ c) : 0 ≤ -(fwB c T lo hi n a b u v k 0) ∧ -(fwB c T lo hi n a b u v k 0) ≤ fwB c T lo hi n a b u v 0 k ∧ fwB c T lo hi n a b u v 0 k ≤ T := by
 obtain ⟨h1, _, h3⟩ := fltB_iff.1 h
 have hf := flt_iff.1 h1
 have hb := tube_bd hf.1
 have hr := rdOk_of hb.1 hf.2.2
 have tl := tr_lo hb.2.1 hr h3
 have th := tr_hi hb.2.1 hr h3
 have g1 := tr_in (by omega) tl (x := k) (by omega)
 have g2 := tr_in (by omega) th (x := k) (by omega)
 have g3 := tr_bd hb.2.1 hr tl (x := k) (by omega)
 unfold fwB
 omega
theorem va_iff {c T lo hi : Int} {m : Nat} {p q : Nat → Int} {pl ph dl dh : Int} : vaB c T lo hi m p q pl ph dl dh = true ↔ Pt.blE m p q pl ph = 0 ∧ tubeB c T lo hi = true ∧ 0 ≤ dl ∧ dl ≤ dh ∧ dh ≤ 100 := by
 simp only [vaB, Bool.and_eq_true, decide_eq_true_eq, insB_iff, and_assoc]
theorem st_bd {m : Nat} {p q : Nat → Int} {pl ph : Int} (h : Pt.blE m p q pl ph = 0) : (1 ≤ Pt.boilI m p q pl ∧ Pt.boilI m p q pl ≤ 2000) ∧ (1 ≤ Pt.boilI m p q ph ∧ Pt.boilI m p q ph ≤ 2000) ∧ Pt.boilI m p q pl ≤ Pt.boilI m p q ph ∧ Pt.blLo m p q pl ph = Pt.boilI m p q pl ∧ Pt.blHi m p q pl ph = Pt.boilI m p q ph := by
 obtain ⟨h1, h2, h3, h4, h5, h6⟩ := Pt.blE_ok h
 have a1 := Pt.boil_spec (x := pl) h1 h3 (by omega)
 have a2 := Pt.boil_spec (x := ph) h1 h3 (by omega)
 have a3 := Pt.boil_mono h1 h3 h4 h5 h6
 exact ⟨by omega, by omega, a3, if_pos h, if_pos h⟩
theorem pr_bd {x y X Y : Int} (hx : 0 ≤ x ∧ x ≤ X) (hy : 0 ≤ y ∧ y ≤ Y) : 0 ≤ x * y ∧ x * y ≤ X * Y := by
 have h1 := Int.mul_nonneg hx.1 hy.1
 have h2 := Int.mul_le_mul hx.2 hy.2 hy.1 (show 0 ≤ X by omega)
 omega
theorem use_at (c T lo hi : Int) (n : Nat) (a b u v : Nat → Int) (m : Nat) (p q : Nat → Int) (pl ph dl dh u0 u1 wi : Int) : SoundAt Try.prog 34 [.agg [i c, i T, i lo, i hi, rds n a b u v, Pt.scs m p q, i pl, i ph, i dl, i dh], .agg [i u0, i u1, i wi]] (bl (usB c u0 u1 wi)) := by
 refine soundAt_fin (G := [(25, S_within)]) (L := []) (SoundG.cons within_ok (SoundG.nil _)) mixed Try.func34 (show Try.f34.body = some (bodyOf Try.f34) by kernel_rfl) noLoops (t := (branch (bt (0 : Int) u0 u1) (branch (decide (u1 ≤ c)) (leaf (RV.x (Value.bool (bt (0 : Int) wi (1000 : Int))))) (leaf (RV.x (Value.bool false)))) (leaf (RV.x (Value.bool false))))) (by kernel_rfl) ?_
 simp only [Tree.sat, allP, fitP, fitL, valEq, true_and, and_true]
 all_goals (simp +contextual [usB, Bool.and_assoc])
 all_goals omega
def S_use : Sx.Spec := fun l => match l with
 | [.agg [.x (.int .i64 c), .x (.int .i64 T), .x (.int .i64 lo), .x (.int .i64 hi), .lst 4 n fr, .lst 2 m ft, .x (.int .i64 pl), .x (.int .i64 ph), .x (.int .i64 dl), .x (.int .i64 dh)], .agg [.x (.int .i64 u0), .x (.int .i64 u1), .x (.int .i64 wi)]] => some ([isRec 4 n fr, isRec 2 m ft], bl (usB c u0 u1 wi))
 | _ => none
theorem use_ok : SoundSpec Try.prog 34 S_use := by
 refine ⟨⟨_, Try.func34, by kernel_rfl, by kernel_rfl⟩, ?_⟩
 intro avs ns res h hn
 unfold S_use at h
 split at h
 ·cases h
  have hr : isRec 4 _ _ := hn _ List.mem_cons_self
  have ht : isRec 2 _ _ := hn _ (List.mem_cons_of_mem _ List.mem_cons_self)
  exact (use_at _ _ _ _ _ _ _ _ _ _ _ _ _ _ _ _ _ _ _ ).same (.cons (Sames.same (.cons (.refl _) (.cons (.refl _) (.cons (.refl _) (.cons (.refl _) (.cons (.lst 4 _ _ _ hr) (.cons (.lst 2 _ _ _ ht) (.cons (.refl _) (.cons (.refl _) (.cons (.refl _) (.cons (.refl _) .nil))))))))))) (.cons (.refl _) .nil))
 ·cases h
theorem valid_at (c T lo hi : Int) (n : Nat) (a b u v : Nat → Int) (m : Nat) (p q : Nat → Int) (pl ph dl dh : Int) (pre0 : m ≤ 100000) : SoundAt Try.prog 42 [.agg [i c, i T, i lo, i hi, rds n a b u v, Pt.scs m p q, i pl, i ph, i dl, i dh]] (.tup [.agg [i (Pt.blLo m p q pl ph), i (Pt.blHi m p q pl ph)], bl (vaB c T lo hi m p q pl ph dl dh)]) := by
 refine soundAt_finX (G := [(56, Pt.S_Boils), (57, Bo.S_CheckTube), (41, S_inside)]) (X := {}) (L := []) (SoundG.cons Pt.Boils_ok (SoundG.cons Bo.CheckTube_ok (SoundG.cons inside_ok (SoundG.nil _)))) (SoundX.of (SoundRL.nil _) (SoundHL.nil _)) mixed Try.func42 (show Try.f42.body = some (bodyOf Try.f42) by kernel_rfl) noLoopsS (t := (let z0 := (leaf (RV.tup [RV.agg [RV.x (Value.int IntKind.i64 (Pt.blLo m p q pl ph)), RV.x (Value.int IntKind.i64 (Pt.blHi m p q pl ph))], RV.x (Value.bool false)])); (need [isRec 2 m fun k => [Pt.i (p k), Pt.i (q k)], m ≤ 100000] (branch (Pt.blE m p q pl ph == (0 : Int)) (branch ((if tubeB c T lo hi = true then (0 : Int) else (1 : Int)) == (0 : Int)) (leaf (RV.tup [RV.agg [RV.x (Value.int IntKind.i64 (Pt.blLo m p q pl ph)), RV.x (Value.int IntKind.i64 (Pt.blHi m p q pl ph))], RV.x (Value.bool (insB (0 : Int) dl dh (100 : Int)))])) z0) z0)))) (by kernel_rfl) ?_
 simp only [Tree.sat, allP, fitP, fitL, valEq, true_and, and_true, beq_iff_eq, beq_eq_false_iff_ne]
 refine ⟨⟨Pt.isRec2 m p q, pre0⟩, fun h1 => ⟨fun h2 => ?_, fun h2 => ?_⟩, fun h1 => ?_⟩
 ·cases ht : tubeB c T lo hi
  ·rw [ht] at h2; simp at h2
  ·simp [vaB, h1, ht]
 ·cases ht : tubeB c T lo hi
  ·simp [vaB, ht]
  ·rw [ht] at h2; simp at h2
 ·simp [vaB, h1]
def S_valid : Sx.Spec := fun l => match l with
 | [.agg [.x (.int .i64 c), .x (.int .i64 T), .x (.int .i64 lo), .x (.int .i64 hi), .lst 4 n fr, .lst 2 m ft, .x (.int .i64 pl), .x (.int .i64 ph), .x (.int .i64 dl), .x (.int .i64 dh)]] => some ([isRec 4 n fr, isRec 2 m ft, m ≤ 100000], .tup [.agg [i (Pt.blLo m (Pt.col 0 ft) (Pt.col 1 ft) pl ph), i (Pt.blHi m (Pt.col 0 ft) (Pt.col 1 ft) pl ph)], bl (vaB c T lo hi m (Pt.col 0 ft) (Pt.col 1 ft) pl ph dl dh)])
 | _ => none
theorem valid_ok : SoundSpec Try.prog 42 S_valid := by
 refine ⟨⟨_, Try.func42, by kernel_rfl, by kernel_rfl⟩, ?_⟩
 intro avs ns res h hn
 unfold S_valid at h
 split at h
 ·cases h
  have hr : isRec 4 _ _ := hn _ List.mem_cons_self
  have ht : isRec 2 _ _ := hn _ (List.mem_cons_of_mem _ List.mem_cons_self)
  exact (valid_at _ _ _ _ _ _ _ _ _ _ _ _ _ _ _ _  (hn _ (by simp))).same (.cons (Sames.same (.cons (.refl _) (.cons (.refl _) (.cons (.refl _) (.cons (.refl _) (.cons (.lst 4 _ _ _ hr) (.cons (.lst 2 _ _ _ ht) (.cons (.refl _) (.cons (.refl _) (.cons (.refl _) (.cons (.refl _) .nil))))))))))) .nil)
 ·cases h
end Go.Proofs.Ytlinbkmpkcmniaa
namespace Go.Proofs.Ytlinbkmpkcmniaa
open Go Go.Sx Go.RowKit Bo
open Go.Sx.Tree (need branch leaf)
open Go.Sx.AV (lst ptr agg roI tup top)
theorem wk_step {pl ph dl dh : Int} {L H : Nat → Int} {k j : Nat} : updL (4 + 2 * k) [L k, H k] (wkF pl ph dl dh L H k) j = wkF pl ph dl dh L H (k + 1) j := by
 simp only [updL, updI]
 unfold wkF
 by_cases h1 : j = 4 + 2 * k + 1
 ·rw [if_pos h1, if_neg (by omega), if_neg (by omega), if_neg (by omega), if_neg (by omega), if_pos (by omega), if_neg (by omega), show (j - 4) / 2 = k by omega]
 ·rw [if_neg h1]
  by_cases h2 : j = 4 + 2 * k
  ·rw [if_pos h2, if_neg (by omega), if_neg (by omega), if_neg (by omega), if_neg (by omega), if_pos (by omega), if_pos (by omega), show (j - 4) / 2 = k by omega]
  ·rw [if_neg h2]
   by_cases h3 : j < 4 + 2 * k
   ·rw [if_pos h3, if_pos (show j < 4 + 2 * (k + 1) by omega)]
   ·rw [if_neg h3, if_neg (show ¬ j < 4 + 2 * (k + 1) by omega)]
theorem wk_zero {pl ph dl dh : Int} {L H : Nat → Int} {j : Nat} (hj : j < 26) : nthJ [pl, ph, dl, dh, 0, 0, 0, 0, 0, 0, 0, 0, 0, 0, 0, 0, 0, 0, 0, 0, 0, 0, 0, 0, 0, 0] j = wkF pl ph dl dh L H 0 j := by
 rcases (show j = 0 ∨ j = 1 ∨ j = 2 ∨ j = 3 ∨ j = 4 ∨ j = 5 ∨ j = 6 ∨ j = 7 ∨ j = 8 ∨ j = 9 ∨ j = 10 ∨ j = 11 ∨ j = 12 ∨ j = 13 ∨ j = 14 ∨ j = 15 ∨ j = 16 ∨ j = 17 ∨ j = 18 ∨ j = 19 ∨ j = 20 ∨ j = 21 ∨ j = 22 ∨ j = 23 ∨ j = 24 ∨ j = 25 by omega) with rfl | rfl | rfl | rfl | rfl | rfl | rfl | rfl | rfl | rfl | rfl | rfl | rfl | rfl | rfl | rfl | rfl | rfl | rfl | rfl | rfl | rfl | rfl | rfl | rfl | rfl <;> rfl
noncomputable def E_rl (c T lo hi : Int) (n : Nat) (a b u v : Nat → Int) (m : Nat) (p q : Nat → Int) (pl ph dl dh : Int) : St := (some { σ := [agg [iI c, iI T, iI lo, iI hi, lst 4 n fun k => [iI (a k), iI (b k), iI (u k), iI (v k)], lst 2 m fun k => [iI (p k), iI (q k)], iI pl, iI ph, iI dl, iI dh], ptr 0 0, AV.x (Value.pointer none), iI (0 : Int), ptr 18 0, AV.x (Value.bool (vaB c T lo hi m p q pl ph dl dh)), lst 2 (lenB c T lo hi n a b u v) fun k => [iI (-fwB c T lo hi n a b u v k 0), iI (fwB c T lo hi n a b u v 0 k)], iI (eB c T lo hi n a b u v), ptr 45 0] ++ tpL 43 [lst 2 (lenB c T lo hi n a b u v) fun k => [iI (-fwB c T lo hi n a b u v k 0), iI (fwB c T lo hi n a b u v 0 k)], iI (↑(lenB c T lo hi n a b u v) : Int)] ++ tpL 31 [], m := [(45, Res.ints 108 [iI c, iI T, iI lo, iI hi, lst 4 n fun k => [iI (a k), iI (b k), iI (u k), iI (v k)], lst 2 m fun k => [iI (p k), iI (q k)]] 26 fun a => nthJ [pl, ph, dl, dh, 0, 0, 0, 0, 0, 0, 0, 0, 0, 0, 0, 0, 0, 0, 0, 0, 0, 0, 0, 0, 0, 0] a), (18, Res.cells 28 [iI (Pt.blLo m p q pl ph), iI (Pt.blHi m p q pl ph)]), (0, Res.cells 31 [iI c, iI T, iI lo, iI hi, lst 4 n fun k => [iI (a k), iI (b k), iI (u k), iI (v k)], lst 2 m fun k => [iI (p k), iI (q k)], iI pl, iI ph, iI dl, iI dh])], nx := 50 } : Option St).getD { σ := [], m := [], nx := 0 }
noncomputable def B_rl : Code := loopBody (loopAt (bodyOf Try.f27) 0)
noncomputable def inv_rl (c T lo hi : Int) (n : Nat) (a b u v : Nat → Int) (m : Nat) (p q : Nat → Int) (pl ph dl dh : Int) (k : Nat) : St := { σ := ovrS [(54, i k)] (E_rl c T lo hi n a b u v m p q pl ph dl dh).σ, m := [(45, .ints 108 [i c, i T, i lo, i hi, rds n a b u v, Pt.scs m p q] 26 (wkF pl ph dl dh (bdL c T lo hi n a b u v m p q pl ph) (bdH c T lo hi n a b u v m p q pl ph) k)), (18, .cells 28 [i (Pt.boilI m p q pl), i (Pt.boilI m p q ph)]), (0, .cells 31 [i c, i T, i lo, i hi, rds n a b u v, Pt.scs m p q, i pl, i ph, i dl, i dh])], nx := (E_rl c T lo hi n a b u v m p q pl ph dl dh).nx }
noncomputable def out_rl (c T lo hi : Int) (n : Nat) (a b u v : Nat → Int) (m : Nat) (p q : Nat → Int) (pl ph dl dh : Int) (k : Nat) : AEx → Option St := fun ex => match ex with
 | .exit 1 => some { σ := ovrS [(54, i ((c.toNat + 1 : Nat) : Int))] (E_rl c T lo hi n a b u v m p q pl ph dl dh).σ, m := [(45, .ints 108 [i c, i T, i lo, i hi, rds n a b u v, Pt.scs m p q] 26 (wkF pl ph dl dh (bdL c T lo hi n a b u v m p q pl ph) (bdH c T lo hi n a b u v m p q pl ph) (c.toNat + 1))), (18, .cells 28 [i (Pt.boilI m p q pl), i (Pt.boilI m p q ph)]), (0, .cells 31 [i c, i T, i lo, i hi, rds n a b u v, Pt.scs m p q, i pl, i ph, i dl, i dh])], nx := (E_rl c T lo hi n a b u v m p q pl ph dl dh).nx }
 | _ => none
noncomputable def T_rl (c T lo hi : Int) (n : Nat) (a b u v : Nat → Int) (m : Nat) (p q : Nat → Int) (pl ph dl dh : Int) : CT := .leaf (.exit 1, ( out_rl c T lo hi n a b u v m p q pl ph dl dh 0 (.exit 1)).getD (E_rl c T lo hi n a b u v m p q pl ph dl dh))
noncomputable def LS_rl (c T lo hi : Int) (n : Nat) (a b u v : Nat → Int) (m : Nat) (p q : Nat → Int) (pl ph dl dh : Int) : LSpec := normSp [] (sumL (inv_rl c T lo hi n a b u v m p q pl ph dl dh (0)) (T_rl c T lo hi n a b u v m p q pl ph dl dh))
theorem rl_ls (c T lo hi : Int) (n : Nat) (a b u v : Nat → Int) (m : Nat) (p q : Nat → Int) (pl ph dl dh : Int) (pre0 : n ≤ 12) (pre1 : m ≤ 8) (pre2 : vaB c T lo hi m p q pl ph dl dh = true) (pre3 : eB c T lo hi n a b u v = 0) : LSound Try.prog (.loop B_rl) (LS_rl c T lo hi n a b u v m p q pl ph dl dh) := by
 refine loop_roundsX [] (E := {}) (G := [(42, S_valid), (43, Bo.S_Heights), (44, S_down), (45, S_up)]) (L := []) (SoundG.cons valid_ok (SoundG.cons Bo.Heights_ok (SoundG.cons down_ok (SoundG.cons up_ok (SoundG.nil _))))) (SoundX.of (SoundRL.nil _) (SoundHL.nil _)) mixed noLoops (X := Nat) (inv_rl c T lo hi n a b u v m p q pl ph dl dh) (fun k => k ≤ c.toNat + 1) (fun k => c.toNat + 1 - k) (out_rl c T lo hi n a b u v m p q pl ph dl dh) (x0 := 0) (by simp) ?_ ?_ ?_
 ·rintro k
  kernel_rfl
 ·rintro k y E h
  unfold out_rl at h
  split at h
  ·cases h; kernel_rfl
  ·cases h
 ·rintro Q hQ k hx
  refine ⟨(k + 1), ?_⟩
  have e : roundX Try.prog [(42, S_valid), (43, Bo.S_Heights), (44, S_down), (45, S_up)] {} [] [] B_rl (inv_rl c T lo hi n a b u v m p q pl ph dl dh k) (inv_rl c T lo hi n a b u v m p q pl ph dl dh ((k + 1))) (out_rl c T lo hi n a b u v m p q pl ph dl dh k) = (let z0 := fwB c T lo hi n a b u v; let z1 := (lenB c T lo hi n a b u v); let z2 := (agg [iI c, iI T, iI lo, iI hi, lst 4 n (rq4 a b u v), lst 2 m fun k => [iI (p k), iI (q k)], iI pl, iI ph, iI dl, iI dh]); let z3 := (bdL c T lo hi n a b u v m p q pl ph); let z4 := (bdH c T lo hi n a b u v m p q pl ph); let z5 := Pt.boilI m p q pl; let z6 := Pt.boilI m p q ph; let z7 := wkF pl ph dl dh z3 z4; let z8 := (lst 2 z1 fun k => [iI (-z0 k 0), iI (z0 0 k)]); (branch (decide ((↑k : Int) < (↑z1 : Int))) (need [(0 : Int) ≤ (↑k : Int) ∧ (↑k : Int) < (↑z1 : Int)] (need [inI64 (-z0 k 0 * z5)] (need [(1 : Int) ≤ T ∧ T ≤ (100000 : Int), (0 : Int) ≤ -z0 k 0 * z5 ∧ -z0 k 0 * z5 ≤ (1000000000000 : Int)] (need [inI64 (z0 0 k * z6)] (need [(1 : Int) ≤ T ∧ T ≤ (100000 : Int), (0 : Int) ≤ z0 0 k * z6 ∧ z0 0 k * z6 ≤ (1000000000000 : Int)] (need [(0 : Int) ≤ (↑k : Int) ∧ (↑k : Int) < (↑(11 : Nat) : Int)] (need [k * 2 + 10 - 1 - 1 - 1 - 1 - 1 - 1 + List.length [dnI (-z0 k 0 * z5) T, upI (z0 0 k * z6) T] ≤ 26] (need [inI64 ((↑k : Int) + 1)] (need [Eq1 z2, Eq1 (ptr 0 0), Eq1 (AV.x (Value.pointer none)), Eq1 (0 : Int), Eq1 (ptr 18 0), Eq1 (vaB c T lo hi m p q pl ph dl dh), z8 = lst 2 z1 fun k => [iI (-z0 k 0), iI (z0 0 k)], Eq1 (eB c T lo hi n a b u v), Eq1 (ptr 45 0), z8 = lst 2 z1 fun k => [iI (-z0 k 0), iI (z0 0 k)], Eq1 (↑z1 : Int), (↑k : Int) + 1 = (↑(k + 1) : Int), c = c, T = T, lo = lo, hi = hi, (lst 4 n (rq4 a b u v)) = lst 4 n (rq4 a b u v), (lst 2 m fun k => [iI (p k), iI (q k)]) = lst 2 m fun k => [iI (p k), iI (q k)], 26 = 26, ∀ (k_1 : Nat), k_1 < 26 → updI (k * 2 + 10 - 1 - 1 - 1 - 1 - 1 - 1 + 1) (upI (z0 0 k * z6) T) (updI (k * 2 + 10 - 1 - 1 - 1 - 1 - 1 - 1) (dnI (-z0 k 0 * z5) T) (z7 k)) k_1 = z7 (k + 1) k_1, Eq1 (z5), Eq1 (z6), c = c, T = T, lo = lo, hi = hi, (lst 4 n (rq4 a b u v)) = lst 4 n (rq4 a b u v), (lst 2 m fun k => [iI (p k), iI (q k)]) = lst 2 m fun k => [iI (p k), iI (q k)], pl = pl, ph = ph, dl = dl, dh = dh] (leaf AEx.normal)))))))))) (need [Eq1 z2, Eq1 (ptr 0 0), Eq1 (AV.x (Value.pointer none)), Eq1 (0 : Int), Eq1 (ptr 18 0), Eq1 (vaB c T lo hi m p q pl ph dl dh), z8 = lst 2 z1 fun k => [iI (-z0 k 0), iI (z0 0 k)], Eq1 (eB c T lo hi n a b u v), Eq1 (ptr 45 0), z8 = lst 2 z1 fun k => [iI (-z0 k 0), iI (z0 0 k)], Eq1 (↑z1 : Int), (↑k : Int) = (↑(Int.toNat c + 1) : Int), c = c, T = T, lo = lo, hi = hi, (lst 4 n (rq4 a b u v)) = lst 4 n (rq4 a b u v), (lst 2 m fun k => [iI (p k), iI (q k)]) = lst 2 m fun k => [iI (p k), iI (q k)], 26 = 26, ∀ (k_1 : Nat), k_1 < 26 → z7 k k_1 = z7 (Int.toNat c + 1) k_1, Eq1 (z5), Eq1 (z6), c = c, T = T, lo = lo, hi = hi, (lst 4 n (rq4 a b u v)) = lst 4 n (rq4 a b u v), (lst 2 m fun k => [iI (p k), iI (q k)]) = lst 2 m fun k => [iI (p k), iI (q k)], pl = pl, ph = ph, dl = dl, dh = dh] (leaf (AEx.exit 1))))) := by kernel_rfl
  rw [e]
  simp only [T_rl, out_rl, Tree.sat, Option.getD_some] at hQ
  have hv := va_iff.1 pre2
  have hb := tube_bd hv.2.1
  have hs := st_bd hv.1
  have hl : lenB c T lo hi n a b u v = c.toNat + 1 := if_pos pre3
  simp only [Tree.sat, allP, fitP, fitL, valEq, inI64, true_and, and_true, decide_eq_true_eq, decide_eq_false_iff_not, Int.toNat_natCast, List.length_cons, List.length_nil, hl]
  clear e
  refine ⟨fun h => ?_, fun h => ?_⟩
  ·have hk := ht_bd pre3 (k := k) (by omega)
   have m1 := pr_bd (x := -(fwB c T lo hi n a b u v k 0)) (y := Pt.boilI m p q pl) (X := 2000) (Y := 2000) (by omega) (by omega)
   have m2 := pr_bd (x := fwB c T lo hi n a b u v 0 k) (y := Pt.boilI m p q ph) (X := 2000) (Y := 2000) (by omega) (by omega)
   have e6 : k * 2 + 10 - 1 - 1 - 1 - 1 - 1 - 1 = 4 + 2 * k := by omega
   rw [e6]
   (repeat' first | with_reducible apply And.intro | with_reducible intro _)
   all_goals first | exact True.intro | omega | with_reducible rfl | exact wk_step
  ·obtain rfl : k = c.toNat + 1 := by omega
   (repeat' first | with_reducible apply And.intro | with_reducible intro _)
   all_goals first | exact True.intro | omega | with_reducible rfl | (rename_i E hE; cases hE; exact hQ)
theorem read_at (c T lo hi : Int) (n : Nat) (a b u v : Nat → Int) (m : Nat) (p q : Nat → Int) (pl ph dl dh : Int) : SoundCAt Try.prog 27 [.agg [i c, i T, i lo, i hi, rds n a b u v, Pt.scs m p q, i pl, i ph, i dl, i dh]] (.branch (decide (rdE c T lo hi n a b u v m p q pl ph dl dh = 0)) (.leaf (.tup [.roI [i c, i T, i lo, i hi, rds n a b u v, Pt.scs m p q] 26 (wkA c T lo hi n a b u v m p q pl ph dl dh) 0, i 0])) (.leaf (.tup [.x (.pointer none), i (rdE c T lo hi n a b u v m p q pl ph dl dh)]))) := by
 refine soundCAt_fin (G := [(42, S_valid), (43, Bo.S_Heights), (44, S_down), (45, S_up)]) (X := {}) (L := [needSp [n ≤ 12, m ≤ 8, vaB c T lo hi m p q pl ph dl dh = true, eB c T lo hi n a b u v = 0] (LS_rl c T lo hi n a b u v m p q pl ph dl dh)]) (SoundG.cons valid_ok (SoundG.cons Bo.Heights_ok (SoundG.cons down_ok (SoundG.cons up_ok (SoundG.nil _))))) (SoundX.of (SoundRL.nil _) (SoundHL.nil _)) mixed Try.func27 (show Try.f27.body = some (bodyOf Try.f27) by kernel_rfl) (one_loop (lpE (b := .loop B_rl) (by kernel_rfl) <| (needSp_sound (ps := [n ≤ 12, m ≤ 8, vaB c T lo hi m p q pl ph dl dh = true, eB c T lo hi n a b u v = 0]) (fun h => rl_ls c T lo hi n a b u v m p q pl ph dl dh h.1 h.2.1 h.2.2.1 h.2.2.2)).N)) (t := (let z0 := fwB c T lo hi n a b u v; let z1 := (leaf (tup [roI [iI c, iI T, iI lo, iI hi, lst 4 n (rq4 a b u v), lst 2 m fun k => [iI (p k), iI (q k)]] 26 (fun j => wkF pl ph dl dh (bdL c T lo hi n a b u v m p q pl ph) (bdH c T lo hi n a b u v m p q pl ph) (Int.toNat c + 1) j) 0, iI (0 : Int)])); let z2 := (lenB c T lo hi n a b u v); let z3 := eB c T lo hi n a b u v; let z4 := (agg [iI c, iI T, iI lo, iI hi, lst 4 n (rq4 a b u v), lst 2 m fun k => [iI (p k), iI (q k)], iI pl, iI ph, iI dl, iI dh]); let z5 := vaB c T lo hi m p q pl ph dl dh; let z6 := (leaf (tup [AV.x (Value.pointer none), iI (3 : Int)])); let z7 := (leaf (tup [AV.x (Value.pointer none), iI (1 : Int)])); let z8 := (leaf (tup [AV.x (Value.pointer none), iI (z3)])); let z9 := (lst 2 z2 fun k => [iI (-z0 k 0), iI (z0 0 k)]); (branch (decide ((↑n : Int) > (12 : Int))) z6 (branch (decide ((↑m : Int) > (8 : Int))) z6 (need [isRec 4 n fun k => [Bo.i (a k), Bo.i (b k), Bo.i (u k), Bo.i (v k)], isRec 2 m fun k => [Pt.i (p k), Pt.i (q k)], m ≤ 100000] (need [isRec 4 n fun k => [Bo.i (a k), Bo.i (b k), Bo.i (u k), Bo.i (v k)]] (branch (!z5) z7 (branch (z3 != (0 : Int)) (branch (z3 != (9 : Int)) z7 (branch (z3 != (0 : Int)) z8 (need [n ≤ 12, m ≤ 8, z5 = true, z3 = (0 : Int)] (need [Eq1 z4, Eq1 (ptr 0 0), Eq1 (AV.x (Value.pointer none)), Eq1 (0 : Int), Eq1 (ptr 18 0), Eq1 (z5), z9 = lst 2 z2 fun k => [iI (-z0 k 0), iI (z0 0 k)], Eq1 (z3), ptr 47 0 = ptr 45 0, z9 = lst 2 z2 fun k => [iI (-z0 k 0), iI (z0 0 k)], Eq1 (↑z2 : Int), (0 : Int) = (↑(0 : Nat) : Int), False, Pt.blLo m p q pl ph = Pt.boilI m p q pl, Pt.blHi m p q pl ph = Pt.boilI m p q ph, c = c, T = T, lo = lo, hi = hi, (lst 4 n (rq4 a b u v)) = lst 4 n (rq4 a b u v), (lst 2 m fun k => [iI (p k), iI (q k)]) = lst 2 m fun k => [iI (p k), iI (q k)], pl = pl, ph = ph, dl = dl, dh = dh] z1)))) (branch (z3 != (0 : Int)) z8 (need [n ≤ 12, m ≤ 8, z5 = true, z3 = (0 : Int)] (need [Eq1 z4, Eq1 (ptr 0 0), Eq1 (AV.x (Value.pointer none)), Eq1 (0 : Int), Eq1 (ptr 18 0), Eq1 (z5), z9 = lst 2 z2 fun k => [iI (-z0 k 0), iI (z0 0 k)], Eq1 (z3), Eq1 (ptr 45 0), z9 = lst 2 z2 fun k => [iI (-z0 k 0), iI (z0 0 k)], Eq1 (↑z2 : Int), (0 : Int) = (↑(0 : Nat) : Int), c = c, T = T, lo = lo, hi = hi, (lst 4 n (rq4 a b u v)) = lst 4 n (rq4 a b u v), (lst 2 m fun k => [iI (p k), iI (q k)]) = lst 2 m fun k => [iI (p k), iI (q k)], List.length [pl, ph, dl, dh, 0, 0, 0, 0, 0, 0, 0, 0, 0, 0, 0, 0, 0, 0, 0, 0, 0, 0, 0, 0, 0, 0] = 26, ∀ (k : Nat), k < 26 → nthJ [pl, ph, dl, dh, 0, 0, 0, 0, 0, 0, 0, 0, 0, 0, 0, 0, 0, 0, 0, 0, 0, 0, 0, 0, 0, 0] k = wkF pl ph dl dh (bdL c T lo hi n a b u v m p q pl ph) (bdH c T lo hi n a b u v m p q pl ph) 0 k, Pt.blLo m p q pl ph = Pt.boilI m p q pl, Pt.blHi m p q pl ph = Pt.boilI m p q ph, c = c, T = T, lo = lo, hi = hi, (lst 4 n (rq4 a b u v)) = lst 4 n (rq4 a b u v), (lst 2 m fun k => [iI (p k), iI (q k)]) = lst 2 m fun k => [iI (p k), iI (q k)], pl = pl, ph = ph, dl = dl, dh = dh] z1))))))))))) (by kernel_rfl) ?_
 intro Q hQ
 have e3 : (n > 12 ∨ m > 8) → rdE c T lo hi n a b u v m p q pl ph dl dh = 3 := fun h => if_pos h
 have e1 : ¬ (n > 12 ∨ m > 8) → ¬ (vaB c T lo hi m p q pl ph dl dh = true ∧ (eB c T lo hi n a b u v = 0 ∨ eB c T lo hi n a b u v = 9)) → rdE c T lo hi n a b u v m p q pl ph dl dh = 1 := fun h h' => by
  unfold rdE
  rw [if_neg h, if_neg h']
 have e0 : ¬ (n > 12 ∨ m > 8) → vaB c T lo hi m p q pl ph dl dh = true → (eB c T lo hi n a b u v = 0 ∨ eB c T lo hi n a b u v = 9) → rdE c T lo hi n a b u v m p q pl ph dl dh = eB c T lo hi n a b u v := fun h h' h'' => by
  unfold rdE
  rw [if_neg h, if_pos ⟨h', h''⟩]
 simp only [Tree.sat, allP, true_and, and_true, decide_eq_true_eq, decide_eq_false_iff_not, bne_iff_ne, ne_eq, bne_eq_false_iff_eq, Bool.not_eq_true', Bool.not_eq_false'] at hQ ⊢
 have bad : ∀ k : Int, k ≠ 0 → rdE c T lo hi n a b u v m p q pl ph dl dh = k → ∃ r', repP (.tup [.x (.pointer none), i k]) r' ∧ Q r' := fun k hk he => by
  rw [he] at hQ
  exact ⟨.tup [.x (.pointer none), i k], ⟨rfl, ⟨rfl, rfl⟩, True.intro⟩, hQ.2 hk⟩
 refine ⟨fun h1 => bad 3 (by omega) (e3 (by omega)), fun h1 => ⟨fun h2 => bad 3 (by omega) (e3 (by omega)), fun h2 => ⟨⟨Bo.isRec4 n a b u v, Pt.isRec2 m p q, by omega⟩, Bo.isRec4 n a b u v, fun h3 => bad 1 (by omega) (e1 (by omega) (by rw [h3]; simp)), fun h3 => ⟨fun h4 => ⟨fun h5 => bad 1 (by omega) (e1 (by omega) (by omega)), fun h5 => ⟨fun h6 => bad _ h4 (e0 (by omega) h3 (.inr h5)), fun h6 => absurd h6 h4⟩⟩, fun h4 => ⟨fun h5 => absurd h4 h5, fun _ => ?_⟩⟩⟩⟩⟩
 have hv := va_iff.1 h3
 have hs := st_bd hv.1
 refine ⟨⟨by omega, by omega, h3, h4⟩, ⟨rfl, rfl, fun j hj => wk_zero hj, hs.2.2.2.1, hs.2.2.2.2⟩, .tup [.roI [i c, i T, i lo, i hi, rds n a b u v, Pt.scs m p q] 26 (wkA c T lo hi n a b u v m p q pl ph dl dh) 0, i 0], ⟨⟨rfl, rfl, fun _ _ => rfl, rfl⟩, ⟨rfl, rfl⟩, True.intro⟩, hQ.1 ((e0 (by omega) h3 (.inl h4)).trans h4)⟩
end Go.Proofs.Ytlinbkmpkcmniaa
namespace Go.Proofs.Ytlinbkmpkcmniaa
open Go Go.Sx Go.RowKit Bo
open Go.Sx.Tree (need branch leaf)
open Go.Sx.AV (lst ptr agg roI tup top)
noncomputable def C_read : CSpec := fun l => match l with
 | [.agg [.x (.int .i64 c), .x (.int .i64 T), .x (.int .i64 lo), .x (.int .i64 hi), .lst 4 n fr, .lst 2 m ft, .x (.int .i64 pl), .x (.int .i64 ph), .x (.int .i64 dl), .x (.int .i64 dh)]] => some (.need [isRec 4 n fr, isRec 2 m ft] (.branch (decide (rdE c T lo hi n (col 0 fr) (col 1 fr) (col 2 fr) (col 3 fr) m (Pt.col 0 ft) (Pt.col 1 ft) pl ph dl dh = 0)) (.leaf (.tup [.roI [i c, i T, i lo, i hi, rds n (col 0 fr) (col 1 fr) (col 2 fr) (col 3 fr), Pt.scs m (Pt.col 0 ft) (Pt.col 1 ft)] 26 (wkA c T lo hi n (col 0 fr) (col 1 fr) (col 2 fr) (col 3 fr) m (Pt.col 0 ft) (Pt.col 1 ft) pl ph dl dh) 0, i 0])) (.leaf (.tup [.x (.pointer none), i (rdE c T lo hi n (col 0 fr) (col 1 fr) (col 2 fr) (col 3 fr) m (Pt.col 0 ft) (Pt.col 1 ft) pl ph dl dh)]))))
 | _ => none
theorem read_okC : Sx.Enters Try.prog 27 ∧ ∀ avs t, C_read avs = some t → SoundCAt Try.prog 27 avs t := by
 refine ⟨⟨_, Try.func27, by kernel_rfl, by kernel_rfl⟩, ?_⟩
 intro avs t h
 unfold C_read at h
 split at h
 ·cases h
  intro Q hQ
  have hr : isRec 4 _ _ := allP_mem hQ.1 _ List.mem_cons_self
  have ht : isRec 2 _ _ := allP_mem hQ.1 _ (List.mem_cons_of_mem _ List.mem_cons_self)
  exact SoundCAt.same (read_at _ _ _ _ _ _ _ _ _ _ _ _ _ _ _ _ ) (.cons (Sames.same (.cons (.refl _) (.cons (.refl _) (.cons (.refl _) (.cons (.refl _) (.cons (.lst 4 _ _ _ hr) (.cons (.lst 2 _ _ _ ht) (.cons (.refl _) (.cons (.refl _) (.cons (.refl _) (.cons (.refl _) .nil))))))))))) .nil) Q hQ.2
 ·cases h
def asE (c T lo hi : Int) (n : Nat) (a b u v : Nat → Int) (m : Nat) (p q : Nat → Int) (pl ph dl dh : Int) (u0 u1 wi day : Int) : Int := if rdE c T lo hi n a b u v m p q pl ph dl dh = 0 then (if usB c u0 u1 wi && bt 0 day 10000 then 0 else 2) else rdE c T lo hi n a b u v m p q pl ph dl dh
def hdE (c T lo hi : Int) (n : Nat) (a b u v : Nat → Int) (m : Nat) (p q : Nat → Int) (pl ph dl dh : Int) (day : Int) : Int := if rdE c T lo hi n a b u v m p q pl ph dl dh = 0 then (if bt 0 day 10000 then 0 else 2) else rdE c T lo hi n a b u v m p q pl ph dl dh
theorem rdE_0 {c T lo hi : Int} {n : Nat} {a b u v : Nat → Int} {m : Nat} {p q : Nat → Int} {pl ph dl dh : Int} (h : rdE c T lo hi n a b u v m p q pl ph dl dh = 0) : n ≤ 12 ∧ m ≤ 8 ∧ vaB c T lo hi m p q pl ph dl dh = true ∧ eB c T lo hi n a b u v = 0 := by
 unfold rdE at h
 split at h
 ·cases h
 ·rename_i h1
  split at h
  ·rename_i h2
   exact ⟨by omega, by omega, h2.1, h⟩
  ·cases h
theorem wk_L {pl ph dl dh : Int} {L H : Nat → Int} {k j : Nat} (h : j < k) : wkF pl ph dl dh L H k (4 + 2 * j) = L j := by
 unfold wkF
 rw [if_neg (by omega), if_neg (by omega), if_neg (by omega), if_neg (by omega), if_pos (by omega), if_pos (by omega), show (4 + 2 * j - 4) / 2 = j by omega]
theorem wk_H {pl ph dl dh : Int} {L H : Nat → Int} {k j : Nat} (h : j < k) : wkF pl ph dl dh L H k (5 + 2 * j) = H j := by
 unfold wkF
 rw [if_neg (by omega), if_neg (by omega), if_neg (by omega), if_neg (by omega), if_pos (by omega), if_neg (by omega), show (5 + 2 * j - 4) / 2 = j by omega]
theorem wk_ok {c T lo hi : Int} {n : Nat} {a b u v : Nat → Int} {m : Nat} {p q : Nat → Int} {pl ph dl dh : Int} (h : rdE c T lo hi n a b u v m p q pl ph dl dh = 0) : drB (wkA c T lo hi n a b u v m p q pl ph dl dh) ∧ bdB (wkA c T lo hi n a b u v m p q pl ph dl dh) ∧ (1 ≤ c ∧ c ≤ 10) ∧ ∀ k : Nat, (k : Int) ≤ c → 0 ≤ bdL c T lo hi n a b u v m p q pl ph k ∧ bdL c T lo hi n a b u v m p q pl ph k ≤ 4000000 ∧ 0 ≤ bdH c T lo hi n a b u v m p q pl ph k ∧ bdH c T lo hi n a b u v m p q pl ph k ≤ 4000000 := by
 obtain ⟨h1, h2, h3, h4⟩ := rdE_0 h
 have hv := va_iff.1 h3
 have hb := tube_bd hv.2.1
 have hs := st_bd hv.1
 have key : ∀ k : Nat, (k : Int) ≤ c → 0 ≤ bdL c T lo hi n a b u v m p q pl ph k ∧ bdL c T lo hi n a b u v m p q pl ph k ≤ 4000000 ∧ 0 ≤ bdH c T lo hi n a b u v m p q pl ph k ∧ bdH c T lo hi n a b u v m p q pl ph k ≤ 4000000 := by
  intro k hk
  have hk := ht_bd h4 hk
  have m1 := pr_bd (x := -(fwB c T lo hi n a b u v k 0)) (y := Pt.boilI m p q pl) (X := 2000) (Y := 2000) (by omega) (by omega)
  have m2 := pr_bd (x := fwB c T lo hi n a b u v 0 k) (y := Pt.boilI m p q ph) (X := 2000) (Y := 2000) (by omega) (by omega)
  have d1 := dn_spec m1.1 (show 1 ≤ T by omega)
  have d2 := up_spec m2.1 (show 1 ≤ T by omega)
  unfold bdL bdH
  omega
 refine ⟨⟨?_, ?_⟩, fun j hj => ?_, hb.1, key⟩
 ·show 0 ≤ dl ∧ dl ≤ 100
  omega
 ·show 0 ≤ dh ∧ dh ≤ 100
  omega
 ·by_cases hk : j / 2 < c.toNat + 1
  ·have := key (j / 2) (by omega)
   rcases Nat.mod_two_eq_zero_or_one j with h0 | h0
   ·have e : wkA c T lo hi n a b u v m p q pl ph dl dh (4 + j) = bdL c T lo hi n a b u v m p q pl ph (j / 2) := by
     have := wk_L (pl := pl) (ph := ph) (dl := dl) (dh := dh) (L := bdL c T lo hi n a b u v m p q pl ph) (H := bdH c T lo hi n a b u v m p q pl ph) hk
     rw [show 4 + 2 * (j / 2) = 4 + j by omega] at this
     exact this
    rw [e]; omega
   ·have e : wkA c T lo hi n a b u v m p q pl ph dl dh (4 + j) = bdH c T lo hi n a b u v m p q pl ph (j / 2) := by
     have := wk_H (pl := pl) (ph := ph) (dl := dl) (dh := dh) (L := bdL c T lo hi n a b u v m p q pl ph) (H := bdH c T lo hi n a b u v m p q pl ph) hk
     rw [show 5 + 2 * (j / 2) = 4 + j by omega] at this
     exact this
    rw [e]; omega
  ·have e : wkA c T lo hi n a b u v m p q pl ph dl dh (4 + j) = 0 := by
    unfold wkA wkF
    rw [if_neg (by omega), if_neg (by omega), if_neg (by omega), if_neg (by omega), if_neg (by omega)]
   rw [e]; omega
theorem CheckInstrument_at (c T lo hi : Int) (n : Nat) (a b u v : Nat → Int) (m : Nat) (p q : Nat → Int) (pl ph dl dh : Int) : SoundAt Try.prog 15 [.agg [i c, i T, i lo, i hi, rds n a b u v, Pt.scs m p q, i pl, i ph, i dl, i dh]] (i (rdE c T lo hi n a b u v m p q pl ph dl dh)) := by
 refine soundAt_finX (G := []) (X := { R := [], H := [], C := [(27, C_read)] }) (L := []) (SoundG.nil _) (SoundX.ofC (SoundRL.nil _) (SoundHL.nil _) (SoundCL.cons read_okC (SoundCL.nil _))) mixed Try.func15 (show Try.f15.body = some (bodyOf Try.f15) by kernel_rfl) noLoopsS (t := (need [isRec 4 n fun k => [Bo.i (a k), Bo.i (b k), Bo.i (u k), Bo.i (v k)], isRec 2 m fun k => [Pt.i (p k), Pt.i (q k)]] (branch (decide (rdE c T lo hi n a b u v m p q pl ph dl dh = (0 : Int))) (leaf (RV.x (Value.int IntKind.i64 (0 : Int)))) (leaf (RV.x (Value.int IntKind.i64 (rdE c T lo hi n a b u v m p q pl ph dl dh))))))) (by kernel_rfl) ?_
 simp only [Tree.sat, allP, fitP, fitL, valEq, true_and, and_true, decide_eq_true_eq, decide_eq_false_iff_not, bne_iff_ne, ne_eq, bne_eq_false_iff_eq, beq_iff_eq, beq_eq_false_iff_ne, Bool.not_eq_true', Bool.not_eq_false', not_true_eq_false, false_imp_iff, true_imp_iff]
 exact ⟨⟨Bo.isRec4 n a b u v, Pt.isRec2 m p q⟩, fun h => h.symm, fun _ => trivial⟩
theorem asked_at (c T lo hi : Int) (n : Nat) (a b u v : Nat → Int) (m : Nat) (p q : Nat → Int) (pl ph dl dh : Int) (u0 u1 wi day : Int) : SoundCAt Try.prog 19 [.agg [i c, i T, i lo, i hi, rds n a b u v, Pt.scs m p q, i pl, i ph, i dl, i dh], .agg [i u0, i u1, i wi], i day] (.branch (decide (asE c T lo hi n a b u v m p q pl ph dl dh u0 u1 wi day = 0)) (.leaf (.tup [.roI [i c, i T, i lo, i hi, rds n a b u v, Pt.scs m p q] 26 (wkA c T lo hi n a b u v m p q pl ph dl dh) 0, i 0])) (.leaf (.tup [.top, i (asE c T lo hi n a b u v m p q pl ph dl dh u0 u1 wi day)]))) := by
 refine soundCAt_fin (G := [(34, S_use), (25, S_within)]) (X := { R := [], H := [], C := [(27, C_read)] }) (L := []) (SoundG.cons use_ok (SoundG.cons within_ok (SoundG.nil _))) (SoundX.ofC (SoundRL.nil _) (SoundHL.nil _) (SoundCL.cons read_okC (SoundCL.nil _))) mixed Try.func19 (show Try.f19.body = some (bodyOf Try.f19) by kernel_rfl) noLoopsS (t := (let z0 := (leaf (tup [roI [iI c, iI T, iI lo, iI hi, lst 4 n (rq4 a b u v), lst 2 m fun k => [iI (p k), iI (q k)]] 26 (fun a_1 => wkA c T lo hi n a b u v m p q pl ph dl dh a_1) 0, iI (2 : Int)])); let z1 := (leaf (tup [roI [iI c, iI T, iI lo, iI hi, lst 4 n (rq4 a b u v), lst 2 m fun k => [iI (p k), iI (q k)]] 26 (fun a_1 => wkA c T lo hi n a b u v m p q pl ph dl dh a_1) 0, iI (0 : Int)])); let z2 := rdE c T lo hi n a b u v m p q pl ph dl dh; let z3 := (leaf (tup [AV.x (Value.pointer none), iI (2 : Int)])); let z4 := (leaf (tup [AV.x (Value.pointer none), iI (z2)])); (need [isRec 4 n fun k => [Bo.i (a k), Bo.i (b k), Bo.i (u k), Bo.i (v k)], isRec 2 m fun k => [Pt.i (p k), Pt.i (q k)]] (branch (decide (z2 = (0 : Int))) (branch ((0 : Int) == (0 : Int)) (need [isRec 4 n fun k => [Bo.i (a k), Bo.i (b k), Bo.i (u k), Bo.i (v k)], isRec 2 m fun k => [Pt.i (p k), Pt.i (q k)]] (branch (!usB c u0 u1 wi) z0 (branch (!bt (0 : Int) day (10000 : Int)) z0 z1))) z1) (branch (z2 == (0 : Int)) (need [isRec 4 n fun k => [Bo.i (a k), Bo.i (b k), Bo.i (u k), Bo.i (v k)], isRec 2 m fun k => [Pt.i (p k), Pt.i (q k)]] (branch (!usB c u0 u1 wi) z3 (branch (!bt (0 : Int) day (10000 : Int)) z3 z4))) z4))))) (by kernel_rfl) ?_
 intro Q hQ
 simp only [Tree.sat, allP, fitP, fitL, valEq, true_and, and_true, decide_eq_true_eq, decide_eq_false_iff_not, bne_iff_ne, ne_eq, bne_eq_false_iff_eq, beq_iff_eq, beq_eq_false_iff_ne, Bool.not_eq_true', Bool.not_eq_false', not_true_eq_false, false_imp_iff, true_imp_iff] at hQ ⊢
 have hr : rdE c T lo hi n a b u v m p q pl ph dl dh ≠ 0 → asE c T lo hi n a b u v m p q pl ph dl dh u0 u1 wi day = rdE c T lo hi n a b u v m p q pl ph dl dh := fun h => if_neg h
 have h2 : rdE c T lo hi n a b u v m p q pl ph dl dh = 0 → (usB c u0 u1 wi = false ∨ bt 0 day 10000 = false) → asE c T lo hi n a b u v m p q pl ph dl dh u0 u1 wi day = 2 := fun h h' => by
  unfold asE
  rw [if_pos h, if_neg (by rcases h' with h' | h' <;> simp [h'])]
 have h0 : rdE c T lo hi n a b u v m p q pl ph dl dh = 0 → usB c u0 u1 wi = true → bt 0 day 10000 = true → asE c T lo hi n a b u v m p q pl ph dl dh u0 u1 wi day = 0 := fun h h' h'' => by
  unfold asE
  rw [if_pos h, h', h'']
  rfl
 have bad : ∀ (x : AV) (k : Int), asE c T lo hi n a b u v m p q pl ph dl dh u0 u1 wi day = k → k ≠ 0 → ∃ r', repP (.tup [x, i k]) r' ∧ Q r' := fun x k he hk => by
  rw [he] at hQ
  exact ⟨.tup [.top, i k], ⟨by cases x <;> trivial, ⟨rfl, rfl⟩, True.intro⟩, hQ.2 hk⟩
 refine ⟨⟨Bo.isRec4 n a b u v, Pt.isRec2 m p q⟩, fun h => ⟨⟨Bo.isRec4 n a b u v, Pt.isRec2 m p q⟩, fun g => bad _ 2 (h2 h (.inl g)) (by omega), fun g => ⟨fun g' => bad _ 2 (h2 h (.inr g')) (by omega), fun g' => ?_⟩⟩, fun h => ⟨fun h' => absurd h' h, fun _ => ?_⟩⟩
 ·exact ⟨.tup [.roI [i c, i T, i lo, i hi, rds n a b u v, Pt.scs m p q] 26 (wkA c T lo hi n a b u v m p q pl ph dl dh) 0, i 0], ⟨⟨rfl, rfl, fun _ _ => rfl, rfl⟩, ⟨rfl, rfl⟩, True.intro⟩, hQ.1 (h0 h g g')⟩
 ·exact bad _ _ (hr h) h
noncomputable def C_asked : CSpec := fun l => match l with
 | [.agg [.x (.int .i64 c), .x (.int .i64 T), .x (.int .i64 lo), .x (.int .i64 hi), .lst 4 n fr, .lst 2 m ft, .x (.int .i64 pl), .x (.int .i64 ph), .x (.int .i64 dl), .x (.int .i64 dh)], .agg [.x (.int .i64 u0), .x (.int .i64 u1), .x (.int .i64 wi)], .x (.int .i64 day)] => some (.need [isRec 4 n fr, isRec 2 m ft] (.branch (decide (asE c T lo hi n (col 0 fr) (col 1 fr) (col 2 fr) (col 3 fr) m (Pt.col 0 ft) (Pt.col 1 ft) pl ph dl dh u0 u1 wi day = 0)) (.leaf (.tup [.roI [i c, i T, i lo, i hi, rds n (col 0 fr) (col 1 fr) (col 2 fr) (col 3 fr), Pt.scs m (Pt.col 0 ft) (Pt.col 1 ft)] 26 (wkA c T lo hi n (col 0 fr) (col 1 fr) (col 2 fr) (col 3 fr) m (Pt.col 0 ft) (Pt.col 1 ft) pl ph dl dh) 0, i 0])) (.leaf (.tup [.top, i (asE c T lo hi n (col 0 fr) (col 1 fr) (col 2 fr) (col 3 fr) m (Pt.col 0 ft) (Pt.col 1 ft) pl ph dl dh u0 u1 wi day)]))))
 | _ => none
theorem asked_okC : Sx.Enters Try.prog 19 ∧ ∀ avs t, C_asked avs = some t → SoundCAt Try.prog 19 avs t := by
 refine ⟨⟨_, Try.func19, by kernel_rfl, by kernel_rfl⟩, ?_⟩
 intro avs t h
 unfold C_asked at h
 split at h
 ·cases h
  intro Q hQ
  have hr : isRec 4 _ _ := allP_mem hQ.1 _ List.mem_cons_self
  have ht : isRec 2 _ _ := allP_mem hQ.1 _ (List.mem_cons_of_mem _ List.mem_cons_self)
  exact SoundCAt.same (asked_at _ _ _ _ _ _ _ _ _ _ _ _ _ _ _ _ _ _ _ _) (.cons (Sames.same (.cons (.refl _) (.cons (.refl _) (.cons (.refl _) (.cons (.refl _) (.cons (.lst 4 _ _ _ hr) (.cons (.lst 2 _ _ _ ht) (.cons (.refl _) (.cons (.refl _) (.cons (.refl _) (.cons (.refl _) .nil))))))))))) (.cons (.refl _) (.cons (.refl _) .nil))) Q hQ.2
 ·cases h
def kpB (c T lo hi : Int) (n : Nat) (a b u v : Nat → Int) (m : Nat) (p q : Nat → Int) (pl ph dl dh : Int) (u0 u1 wi day : Int) : Bool := decide (asE c T lo hi n a b u v m p q pl ph dl dh u0 u1 wi day = 0) && keB c (wkA c T lo hi n a b u v m p q pl ph dl dh) u0 u1 wi day
theorem asE_0 {c T lo hi : Int} {n : Nat} {a b u v : Nat → Int} {m : Nat} {p q : Nat → Int} {pl ph dl dh u0 u1 wi day : Int} (h : asE c T lo hi n a b u v m p q pl ph dl dh u0 u1 wi day = 0) : rdE c T lo hi n a b u v m p q pl ph dl dh = 0 ∧ usB c u0 u1 wi = true ∧ 0 ≤ day ∧ day ≤ 10000 := by
 unfold asE at h
 split at h
 ·rename_i h1
  split at h
  ·rename_i h2
   rw [Bool.and_eq_true] at h2
   exact ⟨h1, h2.1, (bt_iff _ _ _).1 h2.2⟩
  ·cases h
 ·rename_i h1
  exact absurd h h1
theorem Kept_at (c T lo hi : Int) (n : Nat) (a b u v : Nat → Int) (m : Nat) (p q : Nat → Int) (pl ph dl dh : Int) (u0 u1 wi day : Int) : SoundAt Try.prog 13 [.agg [i c, i T, i lo, i hi, rds n a b u v, Pt.scs m p q, i pl, i ph, i dl, i dh], .agg [i u0, i u1, i wi], i day] (.tup [bl (kpB c T lo hi n a b u v m p q pl ph dl dh u0 u1 wi day), i (asE c T lo hi n a b u v m p q pl ph dl dh u0 u1 wi day)]) := by
 refine soundAt_finX (G := [(26, S_kept)]) (X := { R := [], H := [], C := [(19, C_asked)] }) (L := []) (SoundG.cons kept_ok (SoundG.nil _)) (SoundX.ofC (SoundRL.nil _) (SoundHL.nil _) (SoundCL.cons asked_okC (SoundCL.nil _))) mixed Try.func13 (show Try.f13.body = some (bodyOf Try.f13) by kernel_rfl) noLoopsS (t := (let z0 := asE c T lo hi n a b u v m p q pl ph dl dh u0 u1 wi day; let z1 := (wkA c T lo hi n a b u v m p q pl ph dl dh); (need [isRec 4 n fun k => [Bo.i (a k), Bo.i (b k), Bo.i (u k), Bo.i (v k)], isRec 2 m fun k => [Pt.i (p k), Pt.i (q k)]] (branch (decide (z0 = (0 : Int))) (branch ((0 : Int) == (0 : Int)) (need [drB z1, bdB z1, (1 : Int) ≤ c ∧ c ≤ (10 : Int), (0 : Int) ≤ u0 ∧ u0 ≤ u1 ∧ u1 ≤ (10 : Int), (0 : Int) ≤ wi ∧ wi ≤ (1000000 : Int), (0 : Int) ≤ day ∧ day ≤ (100000 : Int)] (leaf (RV.tup [RV.x (Value.bool (keB c z1 u0 u1 wi day)), RV.x (Value.int IntKind.i64 (0 : Int))]))) (leaf (RV.tup [RV.x (Value.bool false), RV.x (Value.int IntKind.i64 (0 : Int))]))) (branch (z0 == (0 : Int)) Tree.fail (leaf (RV.tup [RV.x (Value.bool false), RV.x (Value.int IntKind.i64 (z0))]))))))) (by kernel_rfl) ?_
 simp only [Tree.sat, allP, fitP, fitL, valEq, true_and, and_true, decide_eq_true_eq, decide_eq_false_iff_not, bne_iff_ne, ne_eq, bne_eq_false_iff_eq, beq_iff_eq, beq_eq_false_iff_ne, Bool.not_eq_true', Bool.not_eq_false', not_true_eq_false, false_imp_iff, true_imp_iff]
 refine ⟨⟨Bo.isRec4 n a b u v, Pt.isRec2 m p q⟩, fun h => ?_, fun h => ⟨fun h' => absurd h' h, fun _ => ?_⟩⟩
 ·obtain ⟨h1, h2, h3⟩ := asE_0 h
  have hw := wk_ok h1
  have hu := usB_iff.1 h2
  refine ⟨⟨hw.1, hw.2.1, hw.2.2.1, by omega, by omega, by omega⟩, ?_, h.symm⟩
  unfold kpB
  rw [h]
  rfl
 ·unfold kpB
  rw [decide_eq_false h]
  rfl
def S_Kept : Sx.Spec := fun l => match l with
 | [.agg [.x (.int .i64 c), .x (.int .i64 T), .x (.int .i64 lo), .x (.int .i64 hi), .lst 4 n fr, .lst 2 m ft, .x (.int .i64 pl), .x (.int .i64 ph), .x (.int .i64 dl), .x (.int .i64 dh)], .agg [.x (.int .i64 u0), .x (.int .i64 u1), .x (.int .i64 wi)], .x (.int .i64 day)] => some ([isRec 4 n fr, isRec 2 m ft], .tup [bl (kpB c T lo hi n (col 0 fr) (col 1 fr) (col 2 fr) (col 3 fr) m (Pt.col 0 ft) (Pt.col 1 ft) pl ph dl dh u0 u1 wi day), i (asE c T lo hi n (col 0 fr) (col 1 fr) (col 2 fr) (col 3 fr) m (Pt.col 0 ft) (Pt.col 1 ft) pl ph dl dh u0 u1 wi day)])
 | _ => none
theorem Kept_ok : SoundSpec Try.prog 13 S_Kept := by
 refine ⟨⟨_, Try.func13, by kernel_rfl, by kernel_rfl⟩, ?_⟩
 intro avs ns res h hn
 unfold S_Kept at h
 split at h
 ·cases h
  have hr : isRec 4 _ _ := hn _ List.mem_cons_self
  have ht : isRec 2 _ _ := hn _ (List.mem_cons_of_mem _ List.mem_cons_self)
  exact (Kept_at _ _ _ _ _ _ _ _ _ _ _ _ _ _ _ _ _ _ _ _ ).same (.cons (Sames.same (.cons (.refl _) (.cons (.refl _) (.cons (.refl _) (.cons (.refl _) (.cons (.lst 4 _ _ _ hr) (.cons (.lst 2 _ _ _ ht) (.cons (.refl _) (.cons (.refl _) (.cons (.refl _) (.cons (.refl _) .nil))))))))))) (.cons (.refl _) (.cons (.refl _) .nil)))
 ·cases h
def dsE (c T lo hi : Int) (n : Nat) (a b u v : Nat → Int) (m : Nat) (p q : Nat → Int) (pl ph dl dh : Int) (u0 u1 wi : Int) : Int := if asE c T lo hi n a b u v m p q pl ph dl dh u0 u1 wi 0 = 0 then (if dyHi (keD c (wkA c T lo hi n a b u v m p q pl ph dl dh) u0 u1 wi) nD ≥ 0 then 0 else 11) else asE c T lo hi n a b u v m p q pl ph dl dh u0 u1 wi 0
def dsL (c T lo hi : Int) (n : Nat) (a b u v : Nat → Int) (m : Nat) (p q : Nat → Int) (pl ph dl dh : Int) (u0 u1 wi : Int) : Int := if dsE c T lo hi n a b u v m p q pl ph dl dh u0 u1 wi = 0 then dyLo (keD c (wkA c T lo hi n a b u v m p q pl ph dl dh) u0 u1 wi) nD else 0
def dsH (c T lo hi : Int) (n : Nat) (a b u v : Nat → Int) (m : Nat) (p q : Nat → Int) (pl ph dl dh : Int) (u0 u1 wi : Int) : Int := if dsE c T lo hi n a b u v m p q pl ph dl dh u0 u1 wi = 0 then dyHi (keD c (wkA c T lo hi n a b u v m p q pl ph dl dh) u0 u1 wi) nD else 0
theorem Days_at (c T lo hi : Int) (n : Nat) (a b u v : Nat → Int) (m : Nat) (p q : Nat → Int) (pl ph dl dh : Int) (u0 u1 wi : Int) : SoundAt Try.prog 7 [.agg [i c, i T, i lo, i hi, rds n a b u v, Pt.scs m p q, i pl, i ph, i dl, i dh], .agg [i u0, i u1, i wi]] (.tup [.agg [i (dsL c T lo hi n a b u v m p q pl ph dl dh u0 u1 wi), i (dsH c T lo hi n a b u v m p q pl ph dl dh u0 u1 wi)], i (dsE c T lo hi n a b u v m p q pl ph dl dh u0 u1 wi)]) := by
 refine soundAt_finX (G := [(20, S_days)]) (X := { R := [], H := [], C := [(19, C_asked)] }) (L := []) (SoundG.cons days_ok (SoundG.nil _)) (SoundX.ofC (SoundRL.nil _) (SoundHL.nil _) (SoundCL.cons asked_okC (SoundCL.nil _))) mixed Try.func7 (show Try.f7.body = some (bodyOf Try.f7) by kernel_rfl) noLoopsS (t := (let z0 := (Value.int IntKind.i64 (0 : Int)); let z1 := (wkA c T lo hi n a b u v m p q pl ph dl dh); let z2 := asE c T lo hi n a b u v m p q pl ph dl dh u0 u1 wi; (need [isRec 4 n fun k => [Bo.i (a k), Bo.i (b k), Bo.i (u k), Bo.i (v k)], isRec 2 m fun k => [Pt.i (p k), Pt.i (q k)]] (branch (decide (z2 (0 : Int) = 0)) (branch ((0 : Int) != (0 : Int)) (leaf (RV.tup [RV.agg [RV.x z0, RV.x z0], RV.x z0])) (need [drB z1, bdB z1, (1 : Int) ≤ c ∧ c ≤ (10 : Int), (0 : Int) ≤ u0 ∧ u0 ≤ u1 ∧ u1 ≤ (10 : Int), (0 : Int) ≤ wi ∧ wi ≤ (1000000 : Int)] (branch (!decide (dyHi (keD c z1 u0 u1 wi) nD ≥ (0 : Int))) (leaf (RV.tup [RV.agg [RV.x z0, RV.x z0], RV.x (Value.int IntKind.i64 (11 : Int))])) (leaf (RV.tup [RV.agg [RV.x (Value.int IntKind.i64 (dyLo (keD c z1 u0 u1 wi) nD)), RV.x (Value.int IntKind.i64 (dyHi (keD c z1 u0 u1 wi) nD))], RV.x z0]))))) (branch (z2 (0 : Int) != (0 : Int)) (leaf (RV.tup [RV.agg [RV.x z0, RV.x z0], RV.x (Value.int IntKind.i64 (z2 (0 : Int)))])) Tree.fail))))) (by kernel_rfl) ?_
 simp only [Tree.sat, allP, fitP, fitL, valEq, true_and, and_true, decide_eq_true_eq, decide_eq_false_iff_not, bne_iff_ne, ne_eq, bne_eq_false_iff_eq, beq_iff_eq, beq_eq_false_iff_ne, Bool.not_eq_true', Bool.not_eq_false', not_true_eq_false, false_imp_iff, true_imp_iff]
 have eE : ∀ k : Int, dsE c T lo hi n a b u v m p q pl ph dl dh u0 u1 wi = k → k ≠ 0 → 0 = dsL c T lo hi n a b u v m p q pl ph dl dh u0 u1 wi ∧ 0 = dsH c T lo hi n a b u v m p q pl ph dl dh u0 u1 wi ∧ k = dsE c T lo hi n a b u v m p q pl ph dl dh u0 u1 wi := fun k h hk => by
  have h' : ¬ dsE c T lo hi n a b u v m p q pl ph dl dh u0 u1 wi = 0 := by rw [h]; exact hk
  exact ⟨(if_neg h').symm, (if_neg h').symm, h.symm⟩
 refine ⟨⟨Bo.isRec4 n a b u v, Pt.isRec2 m p q⟩, fun h => ?_, fun h => ⟨fun _ => ?_, fun h' => h h'⟩⟩
 ·obtain ⟨h1, h2, _⟩ := asE_0 h
  have hw := wk_ok h1
  have hu := usB_iff.1 h2
  have e1 : ∀ x : Int, dyHi (keD c (wkA c T lo hi n a b u v m p q pl ph dl dh) u0 u1 wi) nD = x → ¬ x ≥ 0 → dsE c T lo hi n a b u v m p q pl ph dl dh u0 u1 wi = 11 := fun x hx hn => by
   unfold dsE
   rw [if_pos h, hx, if_neg hn]
  have e2 : ∀ x : Int, dyHi (keD c (wkA c T lo hi n a b u v m p q pl ph dl dh) u0 u1 wi) nD = x → x ≥ 0 → dsE c T lo hi n a b u v m p q pl ph dl dh u0 u1 wi = 0 := fun x hx hn => by
   unfold dsE
   rw [if_pos h, hx, if_pos hn]
  refine ⟨⟨hw.1, hw.2.1, hw.2.2.1, by omega, by omega⟩, fun g => ?_, fun g => ?_⟩
  ·have := eE 11 (e1 _ rfl g) (by decide)
   exact ⟨⟨this.1, this.2.1⟩, this.2.2⟩
  ·have h0 := e2 _ rfl g
   exact ⟨⟨(if_pos h0).symm, (if_pos h0).symm⟩, h0.symm⟩
 ·have := eE (asE c T lo hi n a b u v m p q pl ph dl dh u0 u1 wi 0) (if_neg h) h
  exact ⟨⟨this.1, this.2.1⟩, this.2.2⟩
def S_Days : Sx.Spec := fun l => match l with
 | [.agg [.x (.int .i64 c), .x (.int .i64 T), .x (.int .i64 lo), .x (.int .i64 hi), .lst 4 n fr, .lst 2 m ft, .x (.int .i64 pl), .x (.int .i64 ph), .x (.int .i64 dl), .x (.int .i64 dh)], .agg [.x (.int .i64 u0), .x (.int .i64 u1), .x (.int .i64 wi)]] => some ([isRec 4 n fr, isRec 2 m ft], .tup [.agg [i (dsL c T lo hi n (col 0 fr) (col 1 fr) (col 2 fr) (col 3 fr) m (Pt.col 0 ft) (Pt.col 1 ft) pl ph dl dh u0 u1 wi), i (dsH c T lo hi n (col 0 fr) (col 1 fr) (col 2 fr) (col 3 fr) m (Pt.col 0 ft) (Pt.col 1 ft) pl ph dl dh u0 u1 wi)], i (dsE c T lo hi n (col 0 fr) (col 1 fr) (col 2 fr) (col 3 fr) m (Pt.col 0 ft) (Pt.col 1 ft) pl ph dl dh u0 u1 wi)])
 | _ => none
theorem Days_ok : SoundSpec Try.prog 7 S_Days := by
 refine ⟨⟨_, Try.func7, by kernel_rfl, by kernel_rfl⟩, ?_⟩
 intro avs ns res h hn
 unfold S_Days at h
 split at h
 ·cases h
  have hr : isRec 4 _ _ := hn _ List.mem_cons_self
  have ht : isRec 2 _ _ := hn _ (List.mem_cons_of_mem _ List.mem_cons_self)
  exact (Days_at _ _ _ _ _ _ _ _ _ _ _ _ _ _ _ _ _ _ _ ).same (.cons (Sames.same (.cons (.refl _) (.cons (.refl _) (.cons (.refl _) (.cons (.refl _) (.cons (.lst 4 _ _ _ hr) (.cons (.lst 2 _ _ _ ht) (.cons (.refl _) (.cons (.refl _) (.cons (.refl _) (.cons (.refl _) .nil))))))))))) (.cons (.refl _) .nil))
 ·cases h
end Go.Proofs.Ytlinbkmpkcmniaa
namespace Go.Proofs.Ytlinbkmpkcmniaa
open Go Go.Sx Go.RowKit Bo
open Go.Sx.Tree (need branch leaf)
open Go.Sx.AV (lst ptr agg roI tup top)
def hdN (c T lo hi : Int) (n : Nat) (a b u v : Nat → Int) (m : Nat) (p q : Nat → Int) (pl ph dl dh : Int) (day : Int) : Nat := if hdE c T lo hi n a b u v m p q pl ph dl dh day = 0 then c.toNat + 1 else 0
theorem sameR {P : Program} {f : FuncId} {avs avs' : List AV} {res : AV} (h : SoundAtR P f avs' res) (k : Sames avs avs') : SoundAtR P f avs res := fun e w args hro hidf hr => h e w args hro (k.idf hidf) (k.rep hr)
theorem cat2 {g h : Nat → Int} {k j : Nat} {x y : Int} (hx : x = g k) (hy : y = h k) (hj : j < k + 1) : catF k (fun k => [i (g k), i (h k)]) (chunk 2 [i x, i y]) j = [i (g j), i (h j)] := by
 subst hx
 subst hy
 show mergeL (decide (j < k)) [i (g j), i (h j)] (chunk 2 [i (g k), i (h k)] (j - k)) = _
 rw [show j - k = 0 by omega]
 by_cases hj : j < k
 ·rw [decide_eq_true hj]; rfl
 ·obtain rfl : j = k := by omega
  rw [decide_eq_false hj]
  rfl
noncomputable def E_eO (c T lo hi : Int) (n : Nat) (a b u v : Nat → Int) (m : Nat) (p q : Nat → Int) (pl ph dl dh : Int) (day : Int) : St := (some { σ := mkS 37 [(0, .agg [i c, i T, i lo, i hi, rds n a b u v, Pt.scs m p q, i pl, i ph, i dl, i dh]), (1, i day), (2, .fn (.func 18) [] []), (3, .ptr 0 0), (4, .ptr 1 0), (5, .ptr 2 0), (6, .x (.slice none 0 0)), (7, i 0), (8, .ptr 10 0), (9, i 0), (10, .ptr 18 0), (26, .fn (.func 48) [] [.ro [i 0], .ro [i c]])], m := [(901, .row 29 2 0 (fun k => [i (onL (wkA c T lo hi n a b u v m p q pl ph dl dh) k day), i (onH (wkA c T lo hi n a b u v m p q pl ph dl dh) k day)])), (18, .cells 34 [.row 901]), (10, .cells 64 [.roI [i c, i T, i lo, i hi, rds n a b u v, Pt.scs m p q] 26 (wkA c T lo hi n a b u v m p q pl ph dl dh) 0]), (2, .cells 63 [.fn (.func 18) [] []]), (1, .cells 3 [i day]), (0, .cells 31 [i c, i T, i lo, i hi, rds n a b u v, Pt.scs m p q, i pl, i ph, i dl, i dh])], nx := 902 } : Option St).getD { σ := [], m := [], nx := 0 }
noncomputable def A_eO : Code := rfAs (loopAt (bodyOf Try.f17) 0)
noncomputable def B_eO : Code := rfBd (loopAt (bodyOf Try.f17) 0)
noncomputable def inv_eO (c T lo hi : Int) (n : Nat) (a b u v : Nat → Int) (m : Nat) (p q : Nat → Int) (pl ph dl dh : Int) (day : Int) (k : Nat) : St := { σ := ovrS [] (E_eO c T lo hi n a b u v m p q pl ph dl dh day).σ, m := [(901, .row 29 2 k (fun k => [i (onL (wkA c T lo hi n a b u v m p q pl ph dl dh) k day), i (onH (wkA c T lo hi n a b u v m p q pl ph dl dh) k day)])), (18, .cells 34 [.row 901]), (10, .cells 64 [.roI [i c, i T, i lo, i hi, rds n a b u v, Pt.scs m p q] 26 (wkA c T lo hi n a b u v m p q pl ph dl dh) 0]), (2, .cells 63 [.fn (.func 18) [] []]), (1, .cells 3 [i day]), (0, .cells 31 [i c, i T, i lo, i hi, rds n a b u v, Pt.scs m p q, i pl, i ph, i dl, i dh])], nx := 902 }
noncomputable def out_eO (c T lo hi : Int) (n : Nat) (a b u v : Nat → Int) (m : Nat) (p q : Nat → Int) (pl ph dl dh : Int) (day : Int) (k : Nat) : AEx → Option St := fun ex => match ex with
 | .normal => some { σ := ovrS [] (E_eO c T lo hi n a b u v m p q pl ph dl dh day).σ, m := [(901, .row 29 2 ((c - 0 + 1).toNat) (fun k => [i (onL (wkA c T lo hi n a b u v m p q pl ph dl dh) k day), i (onH (wkA c T lo hi n a b u v m p q pl ph dl dh) k day)])), (18, .cells 34 [.row 901]), (10, .cells 64 [.roI [i c, i T, i lo, i hi, rds n a b u v, Pt.scs m p q] 26 (wkA c T lo hi n a b u v m p q pl ph dl dh) 0]), (2, .cells 63 [.fn (.func 18) [] []]), (1, .cells 3 [i day]), (0, .cells 31 [i c, i T, i lo, i hi, rds n a b u v, Pt.scs m p q, i pl, i ph, i dl, i dh])], nx := 902 }
 | _ => none
noncomputable def T_eO (c T lo hi : Int) (n : Nat) (a b u v : Nat → Int) (m : Nat) (p q : Nat → Int) (pl ph dl dh : Int) (day : Int) : CT := .leaf (.normal,  inv_eO c T lo hi n a b u v m p q pl ph dl dh day ((c - 0 + 1).toNat))
noncomputable def LS_eO (c T lo hi : Int) (n : Nat) (a b u v : Nat → Int) (m : Nat) (p q : Nat → Int) (pl ph dl dh : Int) (day : Int) : LSpec := normSp [(.cell 18 0, 901, 29, 2)] (sumL (inv_eO c T lo hi n a b u v m p q pl ph dl dh day (0)) (T_eO c T lo hi n a b u v m p q pl ph dl dh day))
theorem eO_ln (c T lo hi : Int) (n : Nat) (a b u v : Nat → Int) (m : Nat) (p q : Nat → Int) (pl ph dl dh : Int) (day : Int) (pre0 : rdE c T lo hi n a b u v m p q pl ph dl dh = 0) (pre1 : 0 ≤ day ∧ day ≤ 10000) (pre2 : drB (wkA c T lo hi n a b u v m p q pl ph dl dh) ∧ bdB (wkA c T lo hi n a b u v m p q pl ph dl dh) ∧ 1 ≤ c ∧ c ≤ 10) : LSoundN Try.prog (.rangeFunc (rfF (loopAt (bodyOf Try.f17) 0)) (rfPs (loopAt (bodyOf Try.f17) 0)) A_eO B_eO) (LS_eO c T lo hi n a b u v m p q pl ph dl dh day) := by
 refine range_rounds [(.cell 18 0, 901, 29, 2)] (G := [(25, S_within), (18, S_on)]) (X := { R := [(31, S_marks)], H := [], C := [(27, C_read)] }) (L := []) (SoundG.cons within_ok (SoundG.cons on_ok (SoundG.nil _))) (SoundX.ofC (SoundRL.cons marks_okR (SoundRL.nil _)) (SoundHL.nil _) (SoundCL.cons read_okC (SoundCL.nil _))) mixed noLoops (V := Nat) (inv_eO c T lo hi n a b u v m p q pl ph dl dh day) (fun k => k ≤ ((c - 0 + 1).toNat)) (fun k => k) (out_eO c T lo hi n a b u v m p q pl ph dl dh day) (x0 := 0) (by simp) rfl ?_ ?_ ?_ ?_ (g := 48) (caps := [.ro [i 0], .ro [i c]]) (by kernel_rfl) (by kernel_rfl) (marks1_seq 0 c (by omega) (by omega)) (fun _ => rfl) ?_
 ·rintro k
  kernel_rfl
 ·rintro k y E h
  unfold out_eO at h
  split at h
  ·cases h; kernel_rfl
  ·cases h
 ·rintro k
  rfl
 ·rintro k y E h
  unfold out_eO at h
  split at h
  ·cases h; rfl
  ·cases h
 ·rintro Q hQ k hx
  refine ⟨fun hlt => ⟨(k + 1), rfl, ?_⟩, fun hend => ?_⟩
  ·have e : roundR Try.prog [(25, S_within), (18, S_on)] { R := [(31, S_marks)], H := [], C := [(27, C_read)] } [] [(.cell 18 0, 901, 29, 2)] (rfPs (loopAt (bodyOf Try.f17) 0)).toList ((mkV 0) (k)) A_eO B_eO (inv_eO c T lo hi n a b u v m p q pl ph dl dh day k) (inv_eO c T lo hi n a b u v m p q pl ph dl dh day ((k + 1))) (out_eO c T lo hi n a b u v m p q pl ph dl dh day k) = (let z0 := wkA c T lo hi n a b u v m p q pl ph dl dh; let z1 := (Int.toNat ((0 : Int) + (↑k : Int))); (need [drB (z0), bdB (z0), (0 : Int) ≤ 0 + (↑k : Int) ∧ (0 : Int) + (↑k : Int) ≤ 10, (0 : Int) ≤ day ∧ day ≤ (100000 : Int)] (need [(k + 1) * 16 ≤ 140737488355328, ∀ (i : Nat), i < 1 → ∀ (a_2 : AV), a_2 ∈ chunk 2 [iI (onL (z0) z1 day), iI (onH (z0) z1 day)] i → AV.one a_2 = true] (need [Eq1 (agg [iI c, iI T, iI lo, iI hi, lst 4 n (rq4 a b u v), lst 2 m fun k => [iI (p k), iI (q k)], iI pl, iI ph, iI dl, iI dh]), day = day, Eq1 (AV.fn (Fn.func 18) [] []), Eq1 (ptr 0 0), Eq1 (ptr 1 0), Eq1 (ptr 2 0), Eq1 (AV.x (Value.slice none 0 0)), Eq1 (0 : Int), Eq1 (ptr 10 0), Eq1 (0 : Int), Eq1 (ptr 18 0), Eq1 (AV.fn (Fn.func 48) [] [AV.ro [iI (0 : Int)], AV.ro [iI c]]), k + 1 = k + 1, ∀ (i : Nat), i < k + 1 → catF k (fun k => [Ytlinbkmpkcmniaa.i (onL (z0) k day), Ytlinbkmpkcmniaa.i (onH (z0) k day)]) (chunk 2 [iI (onL (z0) z1 day), iI (onH (z0) z1 day)]) i = [Ytlinbkmpkcmniaa.i (onL (z0) i day), Ytlinbkmpkcmniaa.i (onH (z0) i day)], Eq1 (AV.row 901), Eq1 (roI [iI c, iI T, iI lo, iI hi, lst 4 n (rq4 a b u v), lst 2 m fun k => [iI (p k), iI (q k)]] 26 (fun a_1 => z0 a_1) 0), Eq1 (AV.fn (Fn.func 18) [] []), day = day, c = c, T = T, lo = lo, hi = hi, (lst 4 n (rq4 a b u v)) = lst 4 n (rq4 a b u v), (lst 2 m fun k => [iI (p k), iI (q k)]) = lst 2 m fun k => [iI (p k), iI (q k)], pl = pl, ph = ph, dl = dl, dh = dh] (leaf AEx.normal))))) := by kernel_rfl
   rw [e]
   simp only [Tree.sat, allP, true_and, and_true]
   clear e
   have ek : ((0 : Int) + (k : Int)).toNat = k := by omega
   refine ⟨⟨pre2.1, pre2.2.1, by omega, by omega⟩, ⟨by omega, fun j hj a ha => one_of ha (by simp [AV.one, Value.oneCell'])⟩, fun j hj => ?_, by omega⟩
   rw [ek]
   exact cat2 rfl rfl hj
  ·subst hend
   exact hQ
theorem eachO_at (c T lo hi : Int) (n : Nat) (a b u v : Nat → Int) (m : Nat) (p q : Nat → Int) (pl ph dl dh : Int) (day : Int) : SoundAt Try.prog 17 [.agg [i c, i T, i lo, i hi, rds n a b u v, Pt.scs m p q, i pl, i ph, i dl, i dh], i day, .fn (.func 18) [] []] (.tup [.lst 2 (hdN c T lo hi n a b u v m p q pl ph dl dh day) (fun k => [i (onL (wkA c T lo hi n a b u v m p q pl ph dl dh) k day), i (onH (wkA c T lo hi n a b u v m p q pl ph dl dh) k day)]), i (hdE c T lo hi n a b u v m p q pl ph dl dh day)]) := by
 refine soundAt_finX (G := [(25, S_within), (18, S_on)]) (X := { R := [(31, S_marks)], H := [], C := [(27, C_read)] }) (L := [needSp [rdE c T lo hi n a b u v m p q pl ph dl dh = 0, 0 ≤ day ∧ day ≤ 10000, drB (wkA c T lo hi n a b u v m p q pl ph dl dh) ∧ bdB (wkA c T lo hi n a b u v m p q pl ph dl dh) ∧ 1 ≤ c ∧ c ≤ 10] (LS_eO c T lo hi n a b u v m p q pl ph dl dh day)]) (SoundG.cons within_ok (SoundG.cons on_ok (SoundG.nil _))) (SoundX.ofC (SoundRL.cons marks_okR (SoundRL.nil _)) (SoundHL.nil _) (SoundCL.cons read_okC (SoundCL.nil _))) mixed Try.func17 (show Try.f17.body = some (bodyOf Try.f17) by kernel_rfl) (one_loop (lpE (b := .rangeFunc (rfF (loopAt (bodyOf Try.f17) 0)) (rfPs (loopAt (bodyOf Try.f17) 0)) A_eO B_eO) (by kernel_rfl) <| needSp_soundN (fun h => eO_ln c T lo hi n a b u v m p q pl ph dl dh day h.1 h.2.1 h.2.2))) (t := (let z0 := wkA c T lo hi n a b u v m p q pl ph dl dh; let z1 := rdE c T lo hi n a b u v m p q pl ph dl dh; let z2 := (agg [iI c, iI T, iI lo, iI hi, lst 4 n (rq4 a b u v), lst 2 m fun k => [iI (p k), iI (q k)], iI pl, iI ph, iI dl, iI dh]); let z3 := (leaf (RV.tup [RV.lst 2 (Int.toNat (c - (0 : Int) + 1)) fun k => [iI (onL (z0) k day), iI (onH (z0) k day)], RV.x (Value.int IntKind.i64 (0 : Int))])); let z4 := (leaf (RV.tup [RV.x (Value.slice none 0 0), RV.x (Value.int IntKind.i64 (2 : Int))])); let z5 := (AV.fn (Fn.func 18) [] []); let z6 := (lst 4 n (rq4 a b u v)); let z7 := (AV.fn (Fn.func 48) [] [AV.ro [iI (0 : Int)], AV.ro [iI c]]); (need [isRec 4 n fun k => [Bo.i (a k), Bo.i (b k), Bo.i (u k), Bo.i (v k)], isRec 2 m fun k => [Pt.i (p k), Pt.i (q k)]] (branch (decide (z1 = (0 : Int))) (branch ((0 : Int) != (0 : Int)) (leaf (RV.tup [RV.x (Value.slice none 0 0), RV.x (Value.int IntKind.i64 (0 : Int))])) (branch (!bt (0 : Int) day (10000 : Int)) z4 (need [z1 = (0 : Int), (0 : Int) ≤ day ∧ day ≤ (10000 : Int), drB (z0) ∧ bdB (z0) ∧ (1 : Int) ≤ c ∧ c ≤ (10 : Int)] (need [Eq1 z2, day = day, Eq1 z5, Eq1 (ptr 0 0), Eq1 (ptr 1 0), Eq1 (ptr 2 0), Eq1 (AV.x (Value.slice none 0 0)), Eq1 (0 : Int), Eq1 (ptr 10 0), Eq1 (0 : Int), Eq1 (ptr 18 0), Eq1 z7, 0 = 0, ∀ (i : Nat), i < 0 → [] = [Ytlinbkmpkcmniaa.i (onL (z0) i day), Ytlinbkmpkcmniaa.i (onH (z0) i day)], Eq1 (AV.row 901), Eq1 (roI [iI c, iI T, iI lo, iI hi, lst 4 n (rq4 a b u v), lst 2 m fun k => [iI (p k), iI (q k)]] 26 (fun a_1 => z0 a_1) 0), Eq1 z5, day = day, c = c, T = T, lo = lo, hi = hi, z6 = lst 4 n (rq4 a b u v), (lst 2 m fun k => [iI (p k), iI (q k)]) = lst 2 m fun k => [iI (p k), iI (q k)], pl = pl, ph = ph, dl = dl, dh = dh] z3)))) (branch (z1 != (0 : Int)) (leaf (RV.tup [RV.x (Value.slice none 0 0), RV.x (Value.int IntKind.i64 (z1))])) (branch (!bt (0 : Int) day (10000 : Int)) z4 (need [z1 = (0 : Int), (0 : Int) ≤ day ∧ day ≤ (10000 : Int), drB (z0) ∧ bdB (z0) ∧ (1 : Int) ≤ c ∧ c ≤ (10 : Int)] (need [Eq1 z2, day = day, Eq1 z5, Eq1 (ptr 0 0), Eq1 (ptr 1 0), Eq1 (ptr 2 0), Eq1 (AV.x (Value.slice none 0 0)), Eq1 (0 : Int), Eq1 (ptr 10 0), z1 = (0 : Int), Eq1 (ptr 18 0), Eq1 z7, 0 = 0, ∀ (i : Nat), i < 0 → [] = [Ytlinbkmpkcmniaa.i (onL (z0) i day), Ytlinbkmpkcmniaa.i (onH (z0) i day)], Eq1 (AV.row 901), AV.x (Value.pointer none) = roI [iI c, iI T, iI lo, iI hi, lst 4 n (rq4 a b u v), lst 2 m fun k => [iI (p k), iI (q k)]] 26 (fun a_1 => z0 a_1) 0, Eq1 z5, day = day, c = c, T = T, lo = lo, hi = hi, z6 = lst 4 n (rq4 a b u v), (lst 2 m fun k => [iI (p k), iI (q k)]) = lst 2 m fun k => [iI (p k), iI (q k)], pl = pl, ph = ph, dl = dl, dh = dh] z3)))))))) (by kernel_rfl) ?_
 simp only [Tree.sat, allP, fitP, fitL, valEq, true_and, and_true, decide_eq_true_eq, decide_eq_false_iff_not, bne_iff_ne, ne_eq, bne_eq_false_iff_eq, beq_iff_eq, beq_eq_false_iff_ne, Bool.not_eq_true', Bool.not_eq_false', not_true_eq_false, false_imp_iff, true_imp_iff]
 have e2 : rdE c T lo hi n a b u v m p q pl ph dl dh = 0 → bt 0 day 10000 = false → hdE c T lo hi n a b u v m p q pl ph dl dh day = 2 := fun h h' => by
  unfold hdE
  rw [if_pos h, h']
  rfl
 have e0 : rdE c T lo hi n a b u v m p q pl ph dl dh = 0 → bt 0 day 10000 = true → hdE c T lo hi n a b u v m p q pl ph dl dh day = 0 := fun h h' => by
  unfold hdE
  rw [if_pos h, h']
  rfl
 have er : ¬ rdE c T lo hi n a b u v m p q pl ph dl dh = 0 → hdE c T lo hi n a b u v m p q pl ph dl dh day = rdE c T lo hi n a b u v m p q pl ph dl dh := fun h => if_neg h
 have eN : ∀ k : Int, hdE c T lo hi n a b u v m p q pl ph dl dh day = k → k ≠ 0 → (isNil (Value.slice none 0 0) ∧ hdN c T lo hi n a b u v m p q pl ph dl dh day = 0) ∧ k = hdE c T lo hi n a b u v m p q pl ph dl dh day := fun k h hk => ⟨⟨by trivial, if_neg (by rw [h]; exact hk)⟩, h.symm⟩
 have eP : rdE c T lo hi n a b u v m p q pl ph dl dh = 0 → bt 0 day 10000 = true → hdN c T lo hi n a b u v m p q pl ph dl dh day = c.toNat + 1 := fun h h' => if_pos (e0 h h')
 refine ⟨⟨Bo.isRec4 n a b u v, Pt.isRec2 m p q⟩, fun h => ⟨fun h' => eN 2 (e2 h h') (by decide), fun h' => ?_⟩, fun h => ⟨fun _ => eN _ (er h) h, fun h'' => absurd h'' h⟩⟩
 have hw := wk_ok h
 have hb := (bt_iff _ _ _).1 h'
 refine ⟨⟨h, hb, hw.1, hw.2.1, hw.2.2.1⟩, fun j hj => absurd hj (Nat.not_lt_zero _), ⟨?_, fun j _ x hx => ?_⟩, (e0 h h').symm⟩
 ·rw [eP h h']
  omega
 ·simp only [List.mem_cons, List.not_mem_nil, or_false] at hx
  rcases hx with rfl | rfl <;> exact True.intro
noncomputable def E_eC (c T lo hi : Int) (n : Nat) (a b u v : Nat → Int) (m : Nat) (p q : Nat → Int) (pl ph dl dh : Int) (day : Int) : St := (some { σ := mkS 37 [(0, .agg [i c, i T, i lo, i hi, rds n a b u v, Pt.scs m p q, i pl, i ph, i dl, i dh]), (1, i day), (2, .fn (.func 40) [] []), (3, .ptr 0 0), (4, .ptr 1 0), (5, .ptr 2 0), (6, .x (.slice none 0 0)), (7, i 0), (8, .ptr 10 0), (9, i 0), (10, .ptr 18 0), (26, .fn (.func 48) [] [.ro [i 0], .ro [i c]])], m := [(901, .row 29 2 0 (fun k => [i (onL (wkA c T lo hi n a b u v m p q pl ph dl dh) k day - teM c k), i (onH (wkA c T lo hi n a b u v m p q pl ph dl dh) k day - teM c k)])), (18, .cells 34 [.row 901]), (10, .cells 64 [.roI [i c, i T, i lo, i hi, rds n a b u v, Pt.scs m p q] 26 (wkA c T lo hi n a b u v m p q pl ph dl dh) 0]), (2, .cells 63 [.fn (.func 40) [] []]), (1, .cells 3 [i day]), (0, .cells 31 [i c, i T, i lo, i hi, rds n a b u v, Pt.scs m p q, i pl, i ph, i dl, i dh])], nx := 902 } : Option St).getD { σ := [], m := [], nx := 0 }
noncomputable def A_eC : Code := rfAs (loopAt (bodyOf Try.f17) 0)
noncomputable def B_eC : Code := rfBd (loopAt (bodyOf Try.f17) 0)
noncomputable def inv_eC (c T lo hi : Int) (n : Nat) (a b u v : Nat → Int) (m : Nat) (p q : Nat → Int) (pl ph dl dh : Int) (day : Int) (k : Nat) : St := { σ := ovrS [] (E_eC c T lo hi n a b u v m p q pl ph dl dh day).σ, m := [(901, .row 29 2 k (fun k => [i (onL (wkA c T lo hi n a b u v m p q pl ph dl dh) k day - teM c k), i (onH (wkA c T lo hi n a b u v m p q pl ph dl dh) k day - teM c k)])), (18, .cells 34 [.row 901]), (10, .cells 64 [.roI [i c, i T, i lo, i hi, rds n a b u v, Pt.scs m p q] 26 (wkA c T lo hi n a b u v m p q pl ph dl dh) 0]), (2, .cells 63 [.fn (.func 40) [] []]), (1, .cells 3 [i day]), (0, .cells 31 [i c, i T, i lo, i hi, rds n a b u v, Pt.scs m p q, i pl, i ph, i dl, i dh])], nx := 902 }
noncomputable def out_eC (c T lo hi : Int) (n : Nat) (a b u v : Nat → Int) (m : Nat) (p q : Nat → Int) (pl ph dl dh : Int) (day : Int) (k : Nat) : AEx → Option St := fun ex => match ex with
 | .normal => some { σ := ovrS [] (E_eC c T lo hi n a b u v m p q pl ph dl dh day).σ, m := [(901, .row 29 2 ((c - 0 + 1).toNat) (fun k => [i (onL (wkA c T lo hi n a b u v m p q pl ph dl dh) k day - teM c k), i (onH (wkA c T lo hi n a b u v m p q pl ph dl dh) k day - teM c k)])), (18, .cells 34 [.row 901]), (10, .cells 64 [.roI [i c, i T, i lo, i hi, rds n a b u v, Pt.scs m p q] 26 (wkA c T lo hi n a b u v m p q pl ph dl dh) 0]), (2, .cells 63 [.fn (.func 40) [] []]), (1, .cells 3 [i day]), (0, .cells 31 [i c, i T, i lo, i hi, rds n a b u v, Pt.scs m p q, i pl, i ph, i dl, i dh])], nx := 902 }
 | _ => none
noncomputable def T_eC (c T lo hi : Int) (n : Nat) (a b u v : Nat → Int) (m : Nat) (p q : Nat → Int) (pl ph dl dh : Int) (day : Int) : CT := .leaf (.normal,  inv_eC c T lo hi n a b u v m p q pl ph dl dh day ((c - 0 + 1).toNat))
noncomputable def LS_eC (c T lo hi : Int) (n : Nat) (a b u v : Nat → Int) (m : Nat) (p q : Nat → Int) (pl ph dl dh : Int) (day : Int) : LSpec := normSp [(.cell 18 0, 901, 29, 2)] (sumL (inv_eC c T lo hi n a b u v m p q pl ph dl dh day (0)) (T_eC c T lo hi n a b u v m p q pl ph dl dh day))
theorem eC_ln (c T lo hi : Int) (n : Nat) (a b u v : Nat → Int) (m : Nat) (p q : Nat → Int) (pl ph dl dh : Int) (day : Int) (pre0 : rdE c T lo hi n a b u v m p q pl ph dl dh = 0) (pre1 : 0 ≤ day ∧ day ≤ 10000) (pre2 : drB (wkA c T lo hi n a b u v m p q pl ph dl dh) ∧ bdB (wkA c T lo hi n a b u v m p q pl ph dl dh) ∧ 1 ≤ c ∧ c ≤ 10) : LSoundN Try.prog (.rangeFunc (rfF (loopAt (bodyOf Try.f17) 0)) (rfPs (loopAt (bodyOf Try.f17) 0)) A_eC B_eC) (LS_eC c T lo hi n a b u v m p q pl ph dl dh day) := by
 refine range_rounds [(.cell 18 0, 901, 29, 2)] (G := [(25, S_within), (40, S_correction)]) (X := { R := [(31, S_marks)], H := [], C := [(27, C_read)] }) (L := []) (SoundG.cons within_ok (SoundG.cons correction_ok (SoundG.nil _))) (SoundX.ofC (SoundRL.cons marks_okR (SoundRL.nil _)) (SoundHL.nil _) (SoundCL.cons read_okC (SoundCL.nil _))) mixed noLoops (V := Nat) (inv_eC c T lo hi n a b u v m p q pl ph dl dh day) (fun k => k ≤ ((c - 0 + 1).toNat)) (fun k => k) (out_eC c T lo hi n a b u v m p q pl ph dl dh day) (x0 := 0) (by simp) rfl ?_ ?_ ?_ ?_ (g := 48) (caps := [.ro [i 0], .ro [i c]]) (by kernel_rfl) (by kernel_rfl) (marks1_seq 0 c (by omega) (by omega)) (fun _ => rfl) ?_
 ·rintro k
  kernel_rfl
 ·rintro k y E h
  unfold out_eC at h
  split at h
  ·cases h; kernel_rfl
  ·cases h
 ·rintro k
  rfl
 ·rintro k y E h
  unfold out_eC at h
  split at h
  ·cases h; rfl
  ·cases h
 ·rintro Q hQ k hx
  refine ⟨fun hlt => ⟨(k + 1), rfl, ?_⟩, fun hend => ?_⟩
  ·have e : roundR Try.prog [(25, S_within), (40, S_correction)] { R := [(31, S_marks)], H := [], C := [(27, C_read)] } [] [(.cell 18 0, 901, 29, 2)] (rfPs (loopAt (bodyOf Try.f17) 0)).toList ((mkV 0) (k)) A_eC B_eC (inv_eC c T lo hi n a b u v m p q pl ph dl dh day k) (inv_eC c T lo hi n a b u v m p q pl ph dl dh day ((k + 1))) (out_eC c T lo hi n a b u v m p q pl ph dl dh day k) = (let z0 := wkA c T lo hi n a b u v m p q pl ph dl dh; let z1 := (Int.toNat ((0 : Int) + (↑k : Int))); (need [drB (z0), bdB (z0), (0 : Int) ≤ 0 + (↑k : Int) ∧ (0 : Int) + (↑k : Int) ≤ 10, (0 : Int) ≤ day ∧ day ≤ (100000 : Int), (1 : Int) ≤ c ∧ c ≤ (10 : Int)] (need [(k + 1) * 16 ≤ 140737488355328, ∀ (i : Nat), i < 1 → ∀ (a_2 : AV), a_2 ∈ chunk 2 [iI (onL (z0) z1 day - teM c z1), iI (onH (z0) z1 day - teM c z1)] i → AV.one a_2 = true] (need [Eq1 (agg [iI c, iI T, iI lo, iI hi, lst 4 n (rq4 a b u v), lst 2 m fun k => [iI (p k), iI (q k)], iI pl, iI ph, iI dl, iI dh]), day = day, Eq1 (AV.fn (Fn.func 40) [] []), Eq1 (ptr 0 0), Eq1 (ptr 1 0), Eq1 (ptr 2 0), Eq1 (AV.x (Value.slice none 0 0)), Eq1 (0 : Int), Eq1 (ptr 10 0), Eq1 (0 : Int), Eq1 (ptr 18 0), Eq1 (AV.fn (Fn.func 48) [] [AV.ro [iI (0 : Int)], AV.ro [iI c]]), k + 1 = k + 1, ∀ (i : Nat), i < k + 1 → catF k (fun k => [Ytlinbkmpkcmniaa.i (onL (z0) k day - teM c k), Ytlinbkmpkcmniaa.i (onH (z0) k day - teM c k)]) (chunk 2 [iI (onL (z0) z1 day - teM c z1), iI (onH (z0) z1 day - teM c z1)]) i = [Ytlinbkmpkcmniaa.i (onL (z0) i day - teM c i), Ytlinbkmpkcmniaa.i (onH (z0) i day - teM c i)], Eq1 (AV.row 901), Eq1 (roI [iI c, iI T, iI lo, iI hi, lst 4 n (rq4 a b u v), lst 2 m fun k => [iI (p k), iI (q k)]] 26 (fun a_1 => z0 a_1) 0), Eq1 (AV.fn (Fn.func 40) [] []), day = day, c = c, T = T, lo = lo, hi = hi, (lst 4 n (rq4 a b u v)) = lst 4 n (rq4 a b u v), (lst 2 m fun k => [iI (p k), iI (q k)]) = lst 2 m fun k => [iI (p k), iI (q k)], pl = pl, ph = ph, dl = dl, dh = dh] (leaf AEx.normal))))) := by kernel_rfl
   rw [e]
   simp only [Tree.sat, allP, true_and, and_true]
   clear e
   have ek : ((0 : Int) + (k : Int)).toNat = k := by omega
   refine ⟨⟨pre2.1, pre2.2.1, by omega, by omega, pre2.2.2⟩, ⟨by omega, fun j hj a ha => one_of ha (by simp [AV.one, Value.oneCell'])⟩, fun j hj => ?_, by omega⟩
   rw [ek]
   exact cat2 rfl rfl hj
  ·subst hend
   exact hQ
theorem eachC_at (c T lo hi : Int) (n : Nat) (a b u v : Nat → Int) (m : Nat) (p q : Nat → Int) (pl ph dl dh : Int) (day : Int) : SoundAt Try.prog 17 [.agg [i c, i T, i lo, i hi, rds n a b u v, Pt.scs m p q, i pl, i ph, i dl, i dh], i day, .fn (.func 40) [] []] (.tup [.lst 2 (hdN c T lo hi n a b u v m p q pl ph dl dh day) (fun k => [i (onL (wkA c T lo hi n a b u v m p q pl ph dl dh) k day - teM c k), i (onH (wkA c T lo hi n a b u v m p q pl ph dl dh) k day - teM c k)]), i (hdE c T lo hi n a b u v m p q pl ph dl dh day)]) := by
 refine soundAt_finX (G := [(25, S_within), (40, S_correction)]) (X := { R := [(31, S_marks)], H := [], C := [(27, C_read)] }) (L := [needSp [rdE c T lo hi n a b u v m p q pl ph dl dh = 0, 0 ≤ day ∧ day ≤ 10000, drB (wkA c T lo hi n a b u v m p q pl ph dl dh) ∧ bdB (wkA c T lo hi n a b u v m p q pl ph dl dh) ∧ 1 ≤ c ∧ c ≤ 10] (LS_eC c T lo hi n a b u v m p q pl ph dl dh day)]) (SoundG.cons within_ok (SoundG.cons correction_ok (SoundG.nil _))) (SoundX.ofC (SoundRL.cons marks_okR (SoundRL.nil _)) (SoundHL.nil _) (SoundCL.cons read_okC (SoundCL.nil _))) mixed Try.func17 (show Try.f17.body = some (bodyOf Try.f17) by kernel_rfl) (one_loop (lpE (b := .rangeFunc (rfF (loopAt (bodyOf Try.f17) 0)) (rfPs (loopAt (bodyOf Try.f17) 0)) A_eC B_eC) (by kernel_rfl) <| needSp_soundN (fun h => eC_ln c T lo hi n a b u v m p q pl ph dl dh day h.1 h.2.1 h.2.2))) (t := (let z0 := wkA c T lo hi n a b u v m p q pl ph dl dh; let z1 := rdE c T lo hi n a b u v m p q pl ph dl dh; let z2 := (leaf (RV.tup [RV.lst 2 (Int.toNat (c - (0 : Int) + 1)) fun k => [iI (onL (z0) k day - teM c k), iI (onH (z0) k day - teM c k)], RV.x (Value.int IntKind.i64 (0 : Int))])); let z3 := (agg [iI c, iI T, iI lo, iI hi, lst 4 n (rq4 a b u v), lst 2 m fun k => [iI (p k), iI (q k)], iI pl, iI ph, iI dl, iI dh]); let z4 := (leaf (RV.tup [RV.x (Value.slice none 0 0), RV.x (Value.int IntKind.i64 (2 : Int))])); let z5 := (AV.fn (Fn.func 40) [] []); let z6 := (lst 4 n (rq4 a b u v)); let z7 := (AV.fn (Fn.func 48) [] [AV.ro [iI (0 : Int)], AV.ro [iI c]]); (need [isRec 4 n fun k => [Bo.i (a k), Bo.i (b k), Bo.i (u k), Bo.i (v k)], isRec 2 m fun k => [Pt.i (p k), Pt.i (q k)]] (branch (decide (z1 = (0 : Int))) (branch ((0 : Int) != (0 : Int)) (leaf (RV.tup [RV.x (Value.slice none 0 0), RV.x (Value.int IntKind.i64 (0 : Int))])) (branch (!bt (0 : Int) day (10000 : Int)) z4 (need [z1 = (0 : Int), (0 : Int) ≤ day ∧ day ≤ (10000 : Int), drB (z0) ∧ bdB (z0) ∧ (1 : Int) ≤ c ∧ c ≤ (10 : Int)] (need [Eq1 z3, day = day, Eq1 z5, Eq1 (ptr 0 0), Eq1 (ptr 1 0), Eq1 (ptr 2 0), Eq1 (AV.x (Value.slice none 0 0)), Eq1 (0 : Int), Eq1 (ptr 10 0), Eq1 (0 : Int), Eq1 (ptr 18 0), Eq1 z7, 0 = 0, ∀ (i : Nat), i < 0 → [] = [Ytlinbkmpkcmniaa.i (onL (z0) i day - teM c i), Ytlinbkmpkcmniaa.i (onH (z0) i day - teM c i)], Eq1 (AV.row 901), Eq1 (roI [iI c, iI T, iI lo, iI hi, lst 4 n (rq4 a b u v), lst 2 m fun k => [iI (p k), iI (q k)]] 26 (fun a_1 => z0 a_1) 0), Eq1 z5, day = day, c = c, T = T, lo = lo, hi = hi, z6 = lst 4 n (rq4 a b u v), (lst 2 m fun k => [iI (p k), iI (q k)]) = lst 2 m fun k => [iI (p k), iI (q k)], pl = pl, ph = ph, dl = dl, dh = dh] z2)))) (branch (z1 != (0 : Int)) (leaf (RV.tup [RV.x (Value.slice none 0 0), RV.x (Value.int IntKind.i64 (z1))])) (branch (!bt (0 : Int) day (10000 : Int)) z4 (need [z1 = (0 : Int), (0 : Int) ≤ day ∧ day ≤ (10000 : Int), drB (z0) ∧ bdB (z0) ∧ (1 : Int) ≤ c ∧ c ≤ (10 : Int)] (need [Eq1 z3, day = day, Eq1 z5, Eq1 (ptr 0 0), Eq1 (ptr 1 0), Eq1 (ptr 2 0), Eq1 (AV.x (Value.slice none 0 0)), Eq1 (0 : Int), Eq1 (ptr 10 0), z1 = (0 : Int), Eq1 (ptr 18 0), Eq1 z7, 0 = 0, ∀ (i : Nat), i < 0 → [] = [Ytlinbkmpkcmniaa.i (onL (z0) i day - teM c i), Ytlinbkmpkcmniaa.i (onH (z0) i day - teM c i)], Eq1 (AV.row 901), AV.x (Value.pointer none) = roI [iI c, iI T, iI lo, iI hi, lst 4 n (rq4 a b u v), lst 2 m fun k => [iI (p k), iI (q k)]] 26 (fun a_1 => z0 a_1) 0, Eq1 z5, day = day, c = c, T = T, lo = lo, hi = hi, z6 = lst 4 n (rq4 a b u v), (lst 2 m fun k => [iI (p k), iI (q k)]) = lst 2 m fun k => [iI (p k), iI (q k)], pl = pl, ph = ph, dl = dl, dh = dh] z2)))))))) (by kernel_rfl) ?_
 simp only [Tree.sat, allP, fitP, fitL, valEq, true_and, and_true, decide_eq_true_eq, decide_eq_false_iff_not, bne_iff_ne, ne_eq, bne_eq_false_iff_eq, beq_iff_eq, beq_eq_false_iff_ne, Bool.not_eq_true', Bool.not_eq_false', not_true_eq_false, false_imp_iff, true_imp_iff]
 have e2 : rdE c T lo hi n a b u v m p q pl ph dl dh = 0 → bt 0 day 10000 = false → hdE c T lo hi n a b u v m p q pl ph dl dh day = 2 := fun h h' => by
  unfold hdE
  rw [if_pos h, h']
  rfl
 have e0 : rdE c T lo hi n a b u v m p q pl ph dl dh = 0 → bt 0 day 10000 = true → hdE c T lo hi n a b u v m p q pl ph dl dh day = 0 := fun h h' => by
  unfold hdE
  rw [if_pos h, h']
  rfl
 have er : ¬ rdE c T lo hi n a b u v m p q pl ph dl dh = 0 → hdE c T lo hi n a b u v m p q pl ph dl dh day = rdE c T lo hi n a b u v m p q pl ph dl dh := fun h => if_neg h
 have eN : ∀ k : Int, hdE c T lo hi n a b u v m p q pl ph dl dh day = k → k ≠ 0 → (isNil (Value.slice none 0 0) ∧ hdN c T lo hi n a b u v m p q pl ph dl dh day = 0) ∧ k = hdE c T lo hi n a b u v m p q pl ph dl dh day := fun k h hk => ⟨⟨by trivial, if_neg (by rw [h]; exact hk)⟩, h.symm⟩
 have eP : rdE c T lo hi n a b u v m p q pl ph dl dh = 0 → bt 0 day 10000 = true → hdN c T lo hi n a b u v m p q pl ph dl dh day = c.toNat + 1 := fun h h' => if_pos (e0 h h')
 refine ⟨⟨Bo.isRec4 n a b u v, Pt.isRec2 m p q⟩, fun h => ⟨fun h' => eN 2 (e2 h h') (by decide), fun h' => ?_⟩, fun h => ⟨fun _ => eN _ (er h) h, fun h'' => absurd h'' h⟩⟩
 have hw := wk_ok h
 have hb := (bt_iff _ _ _).1 h'
 refine ⟨⟨h, hb, hw.1, hw.2.1, hw.2.2.1⟩, fun j hj => absurd hj (Nat.not_lt_zero _), ⟨?_, fun j _ x hx => ?_⟩, (e0 h h').symm⟩
 ·rw [eP h h']
  omega
 ·simp only [List.mem_cons, List.not_mem_nil, or_false] at hx
  rcases hx with rfl | rfl <;> exact True.intro
def S_eachO : Sx.Spec := fun l => match l with
 | [.agg [.x (.int .i64 c), .x (.int .i64 T), .x (.int .i64 lo), .x (.int .i64 hi), .lst 4 n fr, .lst 2 m ft, .x (.int .i64 pl), .x (.int .i64 ph), .x (.int .i64 dl), .x (.int .i64 dh)], .x (.int .i64 day), .fn (.func 18) [] []] => some ([isRec 4 n fr, isRec 2 m ft], .tup [.lst 2 (hdN c T lo hi n (col 0 fr) (col 1 fr) (col 2 fr) (col 3 fr) m (Pt.col 0 ft) (Pt.col 1 ft) pl ph dl dh day) (fun k => [i (onL (wkA c T lo hi n (col 0 fr) (col 1 fr) (col 2 fr) (col 3 fr) m (Pt.col 0 ft) (Pt.col 1 ft) pl ph dl dh) k day), i (onH (wkA c T lo hi n (col 0 fr) (col 1 fr) (col 2 fr) (col 3 fr) m (Pt.col 0 ft) (Pt.col 1 ft) pl ph dl dh) k day)]), i (hdE c T lo hi n (col 0 fr) (col 1 fr) (col 2 fr) (col 3 fr) m (Pt.col 0 ft) (Pt.col 1 ft) pl ph dl dh day)])
 | _ => none
theorem eachO_ok : SoundSpec Try.prog 17 S_eachO := by
 refine ⟨⟨_, Try.func17, by kernel_rfl, by kernel_rfl⟩, ?_⟩
 intro avs ns res h hn
 unfold S_eachO at h
 split at h
 ·cases h
  have hr : isRec 4 _ _ := hn _ List.mem_cons_self
  have ht : isRec 2 _ _ := hn _ (List.mem_cons_of_mem _ List.mem_cons_self)
  exact (eachO_at _ _ _ _ _ _ _ _ _ _ _ _ _ _ _ _ _).same (.cons (Sames.same (.cons (.refl _) (.cons (.refl _) (.cons (.refl _) (.cons (.refl _) (.cons (.lst 4 _ _ _ hr) (.cons (.lst 2 _ _ _ ht) (.cons (.refl _) (.cons (.refl _) (.cons (.refl _) (.cons (.refl _) .nil))))))))))) (.cons (.refl _) (.cons (.refl _) .nil)))
 ·cases h
def S_eachC : Sx.Spec := fun l => match l with
 | [.agg [.x (.int .i64 c), .x (.int .i64 T), .x (.int .i64 lo), .x (.int .i64 hi), .lst 4 n fr, .lst 2 m ft, .x (.int .i64 pl), .x (.int .i64 ph), .x (.int .i64 dl), .x (.int .i64 dh)], .x (.int .i64 day), .fn (.func 40) [] []] => some ([isRec 4 n fr, isRec 2 m ft], .tup [.lst 2 (hdN c T lo hi n (col 0 fr) (col 1 fr) (col 2 fr) (col 3 fr) m (Pt.col 0 ft) (Pt.col 1 ft) pl ph dl dh day) (fun k => [i (onL (wkA c T lo hi n (col 0 fr) (col 1 fr) (col 2 fr) (col 3 fr) m (Pt.col 0 ft) (Pt.col 1 ft) pl ph dl dh) k day - teM c k), i (onH (wkA c T lo hi n (col 0 fr) (col 1 fr) (col 2 fr) (col 3 fr) m (Pt.col 0 ft) (Pt.col 1 ft) pl ph dl dh) k day - teM c k)]), i (hdE c T lo hi n (col 0 fr) (col 1 fr) (col 2 fr) (col 3 fr) m (Pt.col 0 ft) (Pt.col 1 ft) pl ph dl dh day)])
 | _ => none
theorem eachC_ok : SoundSpec Try.prog 17 S_eachC := by
 refine ⟨⟨_, Try.func17, by kernel_rfl, by kernel_rfl⟩, ?_⟩
 intro avs ns res h hn
 unfold S_eachC at h
 split at h
 ·cases h
  have hr : isRec 4 _ _ := hn _ List.mem_cons_self
  have ht : isRec 2 _ _ := hn _ (List.mem_cons_of_mem _ List.mem_cons_self)
  exact (eachC_at _ _ _ _ _ _ _ _ _ _ _ _ _ _ _ _ _).same (.cons (Sames.same (.cons (.refl _) (.cons (.refl _) (.cons (.refl _) (.cons (.refl _) (.cons (.lst 4 _ _ _ hr) (.cons (.lst 2 _ _ _ ht) (.cons (.refl _) (.cons (.refl _) (.cons (.refl _) (.cons (.refl _) .nil))))))))))) (.cons (.refl _) (.cons (.refl _) .nil)))
 ·cases h
theorem Heights_at (c T lo hi : Int) (n : Nat) (a b u v : Nat → Int) (m : Nat) (p q : Nat → Int) (pl ph dl dh : Int) (day : Int) : SoundAtR Try.prog 6 [.agg [i c, i T, i lo, i hi, rds n a b u v, Pt.scs m p q, i pl, i ph, i dl, i dh], i day] (.tup [.lst 2 (hdN c T lo hi n a b u v m p q pl ph dl dh day) (fun k => [i (onL (wkA c T lo hi n a b u v m p q pl ph dl dh) k day), i (onH (wkA c T lo hi n a b u v m p q pl ph dl dh) k day)]), i (hdE c T lo hi n a b u v m p q pl ph dl dh day)]) := by
 refine soundAtR_fin (G := [(17, S_eachO)]) (X := {}) (L := []) (SoundG.cons eachO_ok (SoundG.nil _)) (SoundX.of (SoundRL.nil _) (SoundHL.nil _)) mixed Try.func6 (show Try.f6.body = some (bodyOf Try.f6) by kernel_rfl) noLoopsS (t := (need [isRec 4 n fun k => [Bo.i (a k), Bo.i (b k), Bo.i (u k), Bo.i (v k)], isRec 2 m fun k => [Pt.i (p k), Pt.i (q k)]] (leaf (tup [lst 2 (hdN c T lo hi n a b u v m p q pl ph dl dh day) fun k => [iI (onL (wkA c T lo hi n a b u v m p q pl ph dl dh) k day), iI (onH (wkA c T lo hi n a b u v m p q pl ph dl dh) k day)], iI (hdE c T lo hi n a b u v m p q pl ph dl dh day)])))) (by kernel_rfl) ?_
 simp only [Tree.sat, allP, true_and, and_true]
 exact ⟨⟨Bo.isRec4 n a b u v, Pt.isRec2 m p q⟩, ⟨rfl, rfl, fun _ _ => rfl⟩, ⟨rfl, rfl⟩, True.intro⟩
def S_Heights : Sx.Spec := fun l => match l with
 | [.agg [.x (.int .i64 c), .x (.int .i64 T), .x (.int .i64 lo), .x (.int .i64 hi), .lst 4 n fr, .lst 2 m ft, .x (.int .i64 pl), .x (.int .i64 ph), .x (.int .i64 dl), .x (.int .i64 dh)], .x (.int .i64 day)] => some ([isRec 4 n fr, isRec 2 m ft], .tup [.lst 2 (hdN c T lo hi n (col 0 fr) (col 1 fr) (col 2 fr) (col 3 fr) m (Pt.col 0 ft) (Pt.col 1 ft) pl ph dl dh day) (fun k => [i (onL (wkA c T lo hi n (col 0 fr) (col 1 fr) (col 2 fr) (col 3 fr) m (Pt.col 0 ft) (Pt.col 1 ft) pl ph dl dh) k day), i (onH (wkA c T lo hi n (col 0 fr) (col 1 fr) (col 2 fr) (col 3 fr) m (Pt.col 0 ft) (Pt.col 1 ft) pl ph dl dh) k day)]), i (hdE c T lo hi n (col 0 fr) (col 1 fr) (col 2 fr) (col 3 fr) m (Pt.col 0 ft) (Pt.col 1 ft) pl ph dl dh day)])
 | _ => none
theorem Heights_okR : SoundR Try.prog 6 S_Heights := by
 refine ⟨⟨_, Try.func6, by kernel_rfl, by kernel_rfl⟩, ?_⟩
 intro avs ns res h hn
 unfold S_Heights at h
 split at h
 ·cases h
  have hr : isRec 4 _ _ := hn _ List.mem_cons_self
  have ht : isRec 2 _ _ := hn _ (List.mem_cons_of_mem _ List.mem_cons_self)
  exact sameR (Heights_at _ _ _ _ _ _ _ _ _ _ _ _ _ _ _ _ _ ) (.cons (Sames.same (.cons (.refl _) (.cons (.refl _) (.cons (.refl _) (.cons (.refl _) (.cons (.lst 4 _ _ _ hr) (.cons (.lst 2 _ _ _ ht) (.cons (.refl _) (.cons (.refl _) (.cons (.refl _) (.cons (.refl _) .nil))))))))))) (.cons (.refl _) .nil))
 ·cases h
theorem Corrections_at (c T lo hi : Int) (n : Nat) (a b u v : Nat → Int) (m : Nat) (p q : Nat → Int) (pl ph dl dh : Int) (day : Int) : SoundAtR Try.prog 30 [.agg [i c, i T, i lo, i hi, rds n a b u v, Pt.scs m p q, i pl, i ph, i dl, i dh], i day] (.tup [.lst 2 (hdN c T lo hi n a b u v m p q pl ph dl dh day) (fun k => [i (onL (wkA c T lo hi n a b u v m p q pl ph dl dh) k day - teM c k), i (onH (wkA c T lo hi n a b u v m p q pl ph dl dh) k day - teM c k)]), i (hdE c T lo hi n a b u v m p q pl ph dl dh day)]) := by
 refine soundAtR_fin (G := [(17, S_eachC)]) (X := {}) (L := []) (SoundG.cons eachC_ok (SoundG.nil _)) (SoundX.of (SoundRL.nil _) (SoundHL.nil _)) mixed Try.func30 (show Try.f30.body = some (bodyOf Try.f30) by kernel_rfl) noLoopsS (t := (need [isRec 4 n fun k => [Bo.i (a k), Bo.i (b k), Bo.i (u k), Bo.i (v k)], isRec 2 m fun k => [Pt.i (p k), Pt.i (q k)]] (leaf (tup [lst 2 (hdN c T lo hi n a b u v m p q pl ph dl dh day) fun k => [iI (onL (wkA c T lo hi n a b u v m p q pl ph dl dh) k day - teM c k), iI (onH (wkA c T lo hi n a b u v m p q pl ph dl dh) k day - teM c k)], iI (hdE c T lo hi n a b u v m p q pl ph dl dh day)])))) (by kernel_rfl) ?_
 simp only [Tree.sat, allP, true_and, and_true]
 exact ⟨⟨Bo.isRec4 n a b u v, Pt.isRec2 m p q⟩, ⟨rfl, rfl, fun _ _ => rfl⟩, ⟨rfl, rfl⟩, True.intro⟩
def S_Corrections : Sx.Spec := fun l => match l with
 | [.agg [.x (.int .i64 c), .x (.int .i64 T), .x (.int .i64 lo), .x (.int .i64 hi), .lst 4 n fr, .lst 2 m ft, .x (.int .i64 pl), .x (.int .i64 ph), .x (.int .i64 dl), .x (.int .i64 dh)], .x (.int .i64 day)] => some ([isRec 4 n fr, isRec 2 m ft], .tup [.lst 2 (hdN c T lo hi n (col 0 fr) (col 1 fr) (col 2 fr) (col 3 fr) m (Pt.col 0 ft) (Pt.col 1 ft) pl ph dl dh day) (fun k => [i (onL (wkA c T lo hi n (col 0 fr) (col 1 fr) (col 2 fr) (col 3 fr) m (Pt.col 0 ft) (Pt.col 1 ft) pl ph dl dh) k day - teM c k), i (onH (wkA c T lo hi n (col 0 fr) (col 1 fr) (col 2 fr) (col 3 fr) m (Pt.col 0 ft) (Pt.col 1 ft) pl ph dl dh) k day - teM c k)]), i (hdE c T lo hi n (col 0 fr) (col 1 fr) (col 2 fr) (col 3 fr) m (Pt.col 0 ft) (Pt.col 1 ft) pl ph dl dh day)])
 | _ => none
theorem Corrections_okR : SoundR Try.prog 30 S_Corrections := by
 refine ⟨⟨_, Try.func30, by kernel_rfl, by kernel_rfl⟩, ?_⟩
 intro avs ns res h hn
 unfold S_Corrections at h
 split at h
 ·cases h
  have hr : isRec 4 _ _ := hn _ List.mem_cons_self
  have ht : isRec 2 _ _ := hn _ (List.mem_cons_of_mem _ List.mem_cons_self)
  exact sameR (Corrections_at _ _ _ _ _ _ _ _ _ _ _ _ _ _ _ _ _ ) (.cons (Sames.same (.cons (.refl _) (.cons (.refl _) (.cons (.refl _) (.cons (.refl _) (.cons (.lst 4 _ _ _ hr) (.cons (.lst 2 _ _ _ ht) (.cons (.refl _) (.cons (.refl _) (.cons (.refl _) (.cons (.refl _) .nil))))))))))) (.cons (.refl _) .nil))
 ·cases h
end Go.Proofs.Ytlinbkmpkcmniaa
namespace Go.Proofs.Ytlinbkmpkcmniaa
open Go Go.Sx Go.RowKit Bo
open Go.Sx.Tree (need branch leaf)
open Go.Sx.AV (lst ptr agg roI tup top)
def toE (c T lo hi : Int) (n : Nat) (a b u v : Nat → Int) (m : Nat) (p q : Nat → Int) (pl ph dl dh : Int) (sa sb mk day : Int) : Int := if rdE c T lo hi n a b u v m p q pl ph dl dh = 0 then (if Pt.scB sa sb then (if bt 0 mk c && bt 0 day 10000 then Pt.cvE 0 1000 sa sb (onL (wkA c T lo hi n a b u v m p q pl ph dl dh) mk.toNat day) (onH (wkA c T lo hi n a b u v m p q pl ph dl dh) mk.toNat day) else 2) else 1) else rdE c T lo hi n a b u v m p q pl ph dl dh
def toL (c T lo hi : Int) (n : Nat) (a b u v : Nat → Int) (m : Nat) (p q : Nat → Int) (pl ph dl dh : Int) (sa sb mk day : Int) : Int := if toE c T lo hi n a b u v m p q pl ph dl dh sa sb mk day = 0 then Pt.cvLo 0 1000 sa sb (onL (wkA c T lo hi n a b u v m p q pl ph dl dh) mk.toNat day) (onH (wkA c T lo hi n a b u v m p q pl ph dl dh) mk.toNat day) else 0
def toH (c T lo hi : Int) (n : Nat) (a b u v : Nat → Int) (m : Nat) (p q : Nat → Int) (pl ph dl dh : Int) (sa sb mk day : Int) : Int := if toE c T lo hi n a b u v m p q pl ph dl dh sa sb mk day = 0 then Pt.cvHi 0 1000 sa sb (onL (wkA c T lo hi n a b u v m p q pl ph dl dh) mk.toNat day) (onH (wkA c T lo hi n a b u v m p q pl ph dl dh) mk.toNat day) else 0
theorem Told_at (c T lo hi : Int) (n : Nat) (a b u v : Nat → Int) (m : Nat) (p q : Nat → Int) (pl ph dl dh : Int) (sa sb mk day : Int) : SoundAt Try.prog 14 [.agg [i c, i T, i lo, i hi, rds n a b u v, Pt.scs m p q, i pl, i ph, i dl, i dh], .agg [i sa, i sb], i mk, i day] (.tup [.agg [i (toL c T lo hi n a b u v m p q pl ph dl dh sa sb mk day), i (toH c T lo hi n a b u v m p q pl ph dl dh sa sb mk day)], i (toE c T lo hi n a b u v m p q pl ph dl dh sa sb mk day)]) := by
 refine soundAt_finX (G := [(28, Pt.S_CheckScale), (25, S_within), (18, S_on), (29, Pt.S_Convert)]) (X := { R := [], H := [], C := [(27, C_read)] }) (L := []) (SoundG.cons Pt.CheckScale_ok (SoundG.cons within_ok (SoundG.cons on_ok (SoundG.cons Pt.Convert_ok (SoundG.nil _))))) (SoundX.ofC (SoundRL.nil _) (SoundHL.nil _) (SoundCL.cons read_okC (SoundCL.nil _))) mixed Try.func14 (show Try.f14.body = some (bodyOf Try.f14) by kernel_rfl) noLoopsS (t := (let z0 := (Value.int IntKind.i64 (0 : Int)); let z1 := (wkA c T lo hi n a b u v m p q pl ph dl dh); let z2 := (leaf (RV.tup [RV.agg [RV.x z0, RV.x z0], RV.x (Value.int IntKind.i64 (2 : Int))])); let z3 := (leaf (RV.tup [RV.agg [RV.x z0, RV.x z0], RV.x (Value.int IntKind.i64 (1 : Int))])); let z4 := rdE c T lo hi n a b u v m p q pl ph dl dh; let z5 := (onL z1 (Int.toNat mk) day); let z6 := (onH z1 (Int.toNat mk) day); (need [isRec 4 n fun k => [Bo.i (a k), Bo.i (b k), Bo.i (u k), Bo.i (v k)], isRec 2 m fun k => [Pt.i (p k), Pt.i (q k)]] (branch (decide (z4 = (0 : Int))) (branch ((0 : Int) != (0 : Int)) (leaf (RV.tup [RV.agg [RV.x z0, RV.x z0], RV.x z0])) (branch ((if Pt.scB sa sb = true then (0 : Int) else (1 : Int)) != (0 : Int)) z3 (branch (!bt (0 : Int) mk c) z2 (branch (!bt (0 : Int) day (10000 : Int)) z2 (need [drB z1, bdB z1, (0 : Int) ≤ mk ∧ mk ≤ (10 : Int), (0 : Int) ≤ day ∧ day ≤ (100000 : Int)] (leaf (RV.tup [RV.agg [RV.x (Value.int IntKind.i64 (Pt.cvLo (0 : Int) (1000 : Int) sa sb z5 z6)), RV.x (Value.int IntKind.i64 (Pt.cvHi (0 : Int) (1000 : Int) sa sb z5 z6))], RV.x (Value.int IntKind.i64 (Pt.cvE (0 : Int) (1000 : Int) sa sb z5 z6))]))))))) (branch (z4 != (0 : Int)) (leaf (RV.tup [RV.agg [RV.x z0, RV.x z0], RV.x (Value.int IntKind.i64 (z4))])) (branch ((if Pt.scB sa sb = true then (0 : Int) else (1 : Int)) != (0 : Int)) z3 (branch (!bt (0 : Int) mk c) z2 (branch (!bt (0 : Int) day (10000 : Int)) z2 Tree.fail)))))))) (by kernel_rfl) ?_
 simp only [Tree.sat, allP, fitP, fitL, valEq, true_and, and_true, decide_eq_true_eq, decide_eq_false_iff_not, bne_iff_ne, ne_eq, bne_eq_false_iff_eq, beq_iff_eq, beq_eq_false_iff_ne, Bool.not_eq_true', Bool.not_eq_false', not_true_eq_false, false_imp_iff, true_imp_iff]
 have er : ¬ rdE c T lo hi n a b u v m p q pl ph dl dh = 0 → toE c T lo hi n a b u v m p q pl ph dl dh sa sb mk day = rdE c T lo hi n a b u v m p q pl ph dl dh := fun h => if_neg h
 have e1 : rdE c T lo hi n a b u v m p q pl ph dl dh = 0 → ¬ Pt.scB sa sb = true → toE c T lo hi n a b u v m p q pl ph dl dh sa sb mk day = 1 := fun h h' => by
  unfold toE
  rw [if_pos h, if_neg h']
 have e2 : rdE c T lo hi n a b u v m p q pl ph dl dh = 0 → Pt.scB sa sb = true → (bt 0 mk c = false ∨ bt 0 day 10000 = false) → toE c T lo hi n a b u v m p q pl ph dl dh sa sb mk day = 2 := fun h h' h'' => by
  unfold toE
  rw [if_pos h, if_pos h', if_neg (by rcases h'' with h'' | h'' <;> simp [h''])]
 have e0 : rdE c T lo hi n a b u v m p q pl ph dl dh = 0 → Pt.scB sa sb = true → bt 0 mk c = true → bt 0 day 10000 = true → toE c T lo hi n a b u v m p q pl ph dl dh sa sb mk day = Pt.cvE 0 1000 sa sb (onL (wkA c T lo hi n a b u v m p q pl ph dl dh) mk.toNat day) (onH (wkA c T lo hi n a b u v m p q pl ph dl dh) mk.toNat day) := fun h h' h1 h2 => by
  unfold toE
  rw [if_pos h, if_pos h', h1, h2]
  rfl
 have bad : ∀ k : Int, toE c T lo hi n a b u v m p q pl ph dl dh sa sb mk day = k → k ≠ 0 → (0 = toL c T lo hi n a b u v m p q pl ph dl dh sa sb mk day ∧ 0 = toH c T lo hi n a b u v m p q pl ph dl dh sa sb mk day) ∧ k = toE c T lo hi n a b u v m p q pl ph dl dh sa sb mk day := fun k h hk => ⟨⟨(if_neg (by rw [h]; exact hk)).symm, (if_neg (by rw [h]; exact hk)).symm⟩, h.symm⟩
 have sc : (if Pt.scB sa sb = true then (0 : Int) else 1) = 0 → Pt.scB sa sb = true := fun h => by
  split at h
  ·assumption
  ·cases h
 refine ⟨⟨Bo.isRec4 n a b u v, Pt.isRec2 m p q⟩, fun h => ⟨fun g => bad 1 (e1 h fun g' => g (by rw [if_pos g'])) (by decide), fun g => ⟨fun g' => bad 2 (e2 h (sc g) (.inl g')) (by decide), fun g' => ⟨fun g'' => bad 2 (e2 h (sc g) (.inr g'')) (by decide), fun g'' => ?_⟩⟩⟩, fun h => ⟨fun _ => bad _ (er h) h, fun h' => absurd h' h⟩⟩
 have hw := wk_ok h
 have b1 := (bt_iff _ _ _).1 g'
 have b2 := (bt_iff _ _ _).1 g''
 have e := e0 h (sc g) g' g''
 refine ⟨⟨hw.1, hw.2.1, by omega, by omega⟩, ?_, e.symm⟩
 by_cases hz : Pt.cvE 0 1000 sa sb (onL (wkA c T lo hi n a b u v m p q pl ph dl dh) mk.toNat day) (onH (wkA c T lo hi n a b u v m p q pl ph dl dh) mk.toNat day) = 0
 ·exact ⟨(if_pos (e.trans hz)).symm, (if_pos (e.trans hz)).symm⟩
 ·have hz' : ¬ toE c T lo hi n a b u v m p q pl ph dl dh sa sb mk day = 0 := by rw [e]; exact hz
  exact ⟨(if_neg hz).trans (if_neg hz').symm, (if_neg hz).trans (if_neg hz').symm⟩
def S_Told : Sx.Spec := fun l => match l with
 | [.agg [.x (.int .i64 c), .x (.int .i64 T), .x (.int .i64 lo), .x (.int .i64 hi), .lst 4 n fr, .lst 2 m ft, .x (.int .i64 pl), .x (.int .i64 ph), .x (.int .i64 dl), .x (.int .i64 dh)], .agg [.x (.int .i64 sa), .x (.int .i64 sb)], .x (.int .i64 mk), .x (.int .i64 day)] => some ([isRec 4 n fr, isRec 2 m ft], .tup [.agg [i (toL c T lo hi n (col 0 fr) (col 1 fr) (col 2 fr) (col 3 fr) m (Pt.col 0 ft) (Pt.col 1 ft) pl ph dl dh sa sb mk day), i (toH c T lo hi n (col 0 fr) (col 1 fr) (col 2 fr) (col 3 fr) m (Pt.col 0 ft) (Pt.col 1 ft) pl ph dl dh sa sb mk day)], i (toE c T lo hi n (col 0 fr) (col 1 fr) (col 2 fr) (col 3 fr) m (Pt.col 0 ft) (Pt.col 1 ft) pl ph dl dh sa sb mk day)])
 | _ => none
theorem Told_ok : SoundSpec Try.prog 14 S_Told := by
 refine ⟨⟨_, Try.func14, by kernel_rfl, by kernel_rfl⟩, ?_⟩
 intro avs ns res h hn
 unfold S_Told at h
 split at h
 ·cases h
  have hr : isRec 4 _ _ := hn _ List.mem_cons_self
  have ht : isRec 2 _ _ := hn _ (List.mem_cons_of_mem _ List.mem_cons_self)
  exact (Told_at _ _ _ _ _ _ _ _ _ _ _ _ _ _ _ _ _ _ _ _ ).same (.cons (Sames.same (.cons (.refl _) (.cons (.refl _) (.cons (.refl _) (.cons (.refl _) (.cons (.lst 4 _ _ _ hr) (.cons (.lst 2 _ _ _ ht) (.cons (.refl _) (.cons (.refl _) (.cons (.refl _) (.cons (.refl _) .nil))))))))))) (.cons (.refl _) (.cons (.refl _) (.cons (.refl _) .nil))))
 ·cases h
end Go.Proofs.Ytlinbkmpkcmniaa
namespace Go.Proofs.Ytlinbkmpkcmniaa
open Go Go.Sx Go.RowKit Bo
open Go.Sx.Tree (need branch leaf)
open Go.Sx.AV (lst ptr agg roI tup top)
def selB (bits : Int) (k : Nat) : Bool := andI (bits / 2 ^ k) 1 == 1
def selL (bits : Int) : Nat → List Nat
 | 0 => []
 | k + 1 => if selB bits k then selL bits k ++ [k] else selL bits k
def sg (f : Nat → Int) (l : List Nat) (j : Nat) : Int := f (l.getD j 0)
def enS (c T lo hi : Int) (n : Nat) (a b u v : Nat → Int) (m : Nat) (p q : Nat → Int) (pl ph dl dh : Int) (u0 u1 wi day : Int) (l : List Nat) : Bool := decide (rdE c T lo hi l.length (sg a l) (sg b l) (sg u l) (sg v l) m p q pl ph dl dh = 0) && keB c (wkA c T lo hi l.length (sg a l) (sg b l) (sg u l) (sg v l) m p q pl ph dl dh) u0 u1 wi day
def enB (c T lo hi : Int) (n : Nat) (a b u v : Nat → Int) (m : Nat) (p q : Nat → Int) (pl ph dl dh : Int) (u0 u1 wi day : Int) (bits : Int) : Bool := enS c T lo hi n a b u v m p q pl ph dl dh u0 u1 wi day (selL bits n)
def enH : Value → Prop := fun v => ∃ x : Int, v = .agg #[.int .i64 x]
def keyI : Value → Int := fun y => match y with
 | .agg l => match l.toList with
  | [.int _ x] => x
  | _ => 0
 | _ => 0
def enF (c T lo hi : Int) (n : Nat) (a b u v : Nat → Int) (m : Nat) (p q : Nat → Int) (pl ph dl dh : Int) (u0 u1 wi day : Int) : Value → Value := fun y => .bool (enB c T lo hi n a b u v m p q pl ph dl dh u0 u1 wi day (keyI y))
def whI (n : Nat) : Int := 1 * 2 ^ n - 1
def buI (n k : Nat) : Int := anI (whI n) (1 * 2 ^ k)
def hgL (c T lo hi : Int) (n : Nat) (a b u v : Nat → Int) (m : Nat) (p q : Nat → Int) (pl ph dl dh : Int) (u0 u1 wi day : Int) : Nat → List Int
 | 0 => []
 | k + 1 => if enB c T lo hi n a b u v m p q pl ph dl dh u0 u1 wi day (buI n k) then hgL c T lo hi n a b u v m p q pl ph dl dh u0 u1 wi day k else hgL c T lo hi n a b u v m p q pl ph dl dh u0 u1 wi day k ++ [(k : Int)]
noncomputable def H_trial : HSpec := inlH Try.prog [(26, S_kept)] { R := [], H := [], C := [(19, C_asked)] } [] Try.f21 (bodyOf Try.f21)
theorem trial_okH : SoundHSpec Try.prog 21 H_trial :=
 inl_sound (G := [(26, S_kept)]) (X := { R := [], H := [], C := [(19, C_asked)] }) (L := []) (SoundG.cons kept_ok (SoundG.nil _)) (SoundX.ofC (SoundRL.nil _) (SoundHL.nil _) (SoundCL.cons asked_okC (SoundCL.nil _))) mixed ⟨_, Try.func21, by kernel_rfl, by kernel_rfl⟩ Try.func21 (show Try.f21.body = some (bodyOf Try.f21) by kernel_rfl) noLoopsS
noncomputable def E_ha (c T lo hi : Int) (n : Nat) (a b u v : Nat → Int) (m : Nat) (p q : Nat → Int) (pl ph dl dh : Int) (u0 u1 wi day : Int) : St := (some { σ := mkS 48 [(0, .agg [i c, i T, i lo, i hi, rds n a b u v, Pt.scs m p q, i pl, i ph, i dl, i dh]), (1, .agg [i u0, i u1, i wi]), (2, i day), (3, .ptr 0 0), (4, .ptr 1 0), (6, .x (.slice none 0 0)), (7, i 0), (8, .ptr 33 0), (9, .ptr 47 0), (10, i 0), (11, .fn (.func 23) [.ptr 33 0] []), (12, .row 900), (13, .top), (29, i n), (30, .top)], m := [(900, .row 3 1 (hgL c T lo hi n a b u v m p q pl ph dl dh u0 u1 wi day 0).length (fun j => [i (nthJ (hgL c T lo hi n a b u v m p q pl ph dl dh u0 u1 wi day 0) j)])), (47, .cells 71 [i (whI n)]), (31, .memo enH (enF c T lo hi n a b u v m p q pl ph dl dh u0 u1 wi day)), (33, .cells 94 [i c, i T, i lo, i hi, rds n a b u v, Pt.scs m p q, i pl, i ph, i dl, i dh, i u0, i u1, i wi, i day, .mp 31]), (0, .cells 31 [i c, i T, i lo, i hi, rds n a b u v, Pt.scs m p q, i pl, i ph, i dl, i dh])], nx := 901 } : Option St).getD { σ := [], m := [], nx := 0 }
noncomputable def B_ha : Code := loopBody (loopAt (bodyOf Try.f12) 0)
noncomputable def inv_ha (c T lo hi : Int) (n : Nat) (a b u v : Nat → Int) (m : Nat) (p q : Nat → Int) (pl ph dl dh : Int) (u0 u1 wi day : Int) (k : Nat) : St := { σ := ovrS [(30, i k)] (E_ha c T lo hi n a b u v m p q pl ph dl dh u0 u1 wi day).σ, m := [(900, .row 3 1 (hgL c T lo hi n a b u v m p q pl ph dl dh u0 u1 wi day k).length (fun j => [i (nthJ (hgL c T lo hi n a b u v m p q pl ph dl dh u0 u1 wi day k) j)])), (47, .cells 71 [i (whI n)]), (31, .memo enH (enF c T lo hi n a b u v m p q pl ph dl dh u0 u1 wi day)), (33, .cells 94 [i c, i T, i lo, i hi, rds n a b u v, Pt.scs m p q, i pl, i ph, i dl, i dh, i u0, i u1, i wi, i day, .mp 31]), (0, .cells 31 [i c, i T, i lo, i hi, rds n a b u v, Pt.scs m p q, i pl, i ph, i dl, i dh])], nx := (E_ha c T lo hi n a b u v m p q pl ph dl dh u0 u1 wi day).nx }
noncomputable def out_ha (c T lo hi : Int) (n : Nat) (a b u v : Nat → Int) (m : Nat) (p q : Nat → Int) (pl ph dl dh : Int) (u0 u1 wi day : Int) (k : Nat) : AEx → Option St := fun ex => match ex with
 | .exit 0 => some { σ := ovrS [] (E_ha c T lo hi n a b u v m p q pl ph dl dh u0 u1 wi day).σ, m := [(900, .row 3 1 (hgL c T lo hi n a b u v m p q pl ph dl dh u0 u1 wi day n).length (fun j => [i (nthJ (hgL c T lo hi n a b u v m p q pl ph dl dh u0 u1 wi day n) j)])), (47, .cells 71 [i (whI n)]), (31, .memo enH (enF c T lo hi n a b u v m p q pl ph dl dh u0 u1 wi day)), (33, .cells 94 [i c, i T, i lo, i hi, rds n a b u v, Pt.scs m p q, i pl, i ph, i dl, i dh, i u0, i u1, i wi, i day, .mp 31]), (0, .cells 31 [i c, i T, i lo, i hi, rds n a b u v, Pt.scs m p q, i pl, i ph, i dl, i dh])], nx := (E_ha c T lo hi n a b u v m p q pl ph dl dh u0 u1 wi day).nx }
 | _ => none
noncomputable def T_ha (c T lo hi : Int) (n : Nat) (a b u v : Nat → Int) (m : Nat) (p q : Nat → Int) (pl ph dl dh : Int) (u0 u1 wi day : Int) : CT := .leaf (.exit 0, ( out_ha c T lo hi n a b u v m p q pl ph dl dh u0 u1 wi day 0 (.exit 0)).getD (E_ha c T lo hi n a b u v m p q pl ph dl dh u0 u1 wi day))
noncomputable def LS_ha (c T lo hi : Int) (n : Nat) (a b u v : Nat → Int) (m : Nat) (p q : Nat → Int) (pl ph dl dh : Int) (u0 u1 wi day : Int) : LSpec := normSp [(.slot 12, 900, 3, 1)] (sumL (inv_ha c T lo hi n a b u v m p q pl ph dl dh u0 u1 wi day (0)) (T_ha c T lo hi n a b u v m p q pl ph dl dh u0 u1 wi day))
theorem mapKey_en (x : Int) : MapKey Try.prog 92 enH (.agg #[.int .i64 x]) (.bool false) := by
 refine ⟨⟨71, 4, (match Try.prog.underlying 71 with | some (.struct fs) => fs | _ => #[]), by kernel_rfl, by kernel_rfl, ?_, ?_, ?_⟩, by simp [Instr.sameBits]⟩
 ·intro b' w
  kernel_rfl
 ·rintro k' ⟨x', rfl⟩ w
  refine ⟨x == x' && true, eqA_sound (P := Try.prog) (e := freshE w w) Op.maxDepth 71 (.agg [i x]) (.agg [i x']) _ _ _ (by kernel_rfl) (Rep.aggL (RepL.one (.x _))) (Rep.aggL (RepL.one (.x _))), fun h => ?_⟩
  simp only [Bool.and_true, beq_iff_eq] at h
  subst h
  rfl
 ·intro w
  kernel_rfl
theorem selL_len (bits : Int) : ∀ k, (selL bits k).length ≤ k
 | 0 => Nat.le_refl _
 | k + 1 => by
  have := selL_len bits k
  unfold selL
  split
  ·rw [List.length_append]; simp; omega
  ·omega
theorem sg_cat {l : List Nat} {a b u v : Nat → Int} {j q : Nat} (h : q < l.length + 1) : catF l.length (fun q => [i (sg a l q), i (sg b l q), i (sg u l q), i (sg v l q)]) (chunk 4 [i (a j), i (b j), i (u j), i (v j)]) q = [i (sg a (l ++ [j]) q), i (sg b (l ++ [j]) q), i (sg u (l ++ [j]) q), i (sg v (l ++ [j]) q)] := by
 have e : ∀ f : Nat → Int, sg f (l ++ [j]) q = if q < l.length then sg f l q else f j := fun f => by
  unfold sg
  rw [List.getD_eq_getElem?_getD, List.getD_eq_getElem?_getD]
  split
  ·rename_i hq
   rw [List.getElem?_append_left hq]
  ·rename_i hq
   rw [show q = l.length by omega, List.getElem?_append_right (Nat.le_refl _)]
   simp
 rw [e, e, e, e]
 by_cases hq : q < l.length
 ·rw [if_pos hq, if_pos hq, if_pos hq, if_pos hq]
  show mergeL (decide (q < l.length)) _ (chunk 4 _ (q - l.length)) = _
  rw [decide_eq_true hq, show q - l.length = 0 by omega]
  rfl
 ·rw [if_neg hq, if_neg hq, if_neg hq, if_neg hq]
  show mergeL (decide (q < l.length)) _ (chunk 4 _ (q - l.length)) = _
  rw [decide_eq_false hq, show q - l.length = 0 by omega]
  rfl
noncomputable def E_en (c T lo hi : Int) (n : Nat) (a b u v : Nat → Int) (m : Nat) (p q : Nat → Int) (pl ph dl dh : Int) (u0 u1 wi day : Int) (k : Nat) : St := (some { σ := [ptr 33 0, agg [iI (buI n k)], top, ptr 911 0, AV.lit false, AV.x (Value.bool false), AV.lit false, ptr 919 0] ++ tpL 24 [lst 4 n fun k => [iI (a k), iI (b k), iI (u k), iI (v k)], iI (↑n : Int)] ++ tpL 44 [], m := [(950, Res.row 57 4 0 fun x => []), (919, Res.cells 31 [iI c, iI T, iI lo, iI hi, AV.row 950, lst 2 m fun k => [iI (p k), iI (q k)], iI pl, iI ph, iI dl, iI dh]), (911, Res.cells 71 [iI (buI n k)]), (900, Res.row 3 1 (List.length (hgL c T lo hi n a b u v m p q pl ph dl dh u0 u1 wi day k)) fun j => [iI (nthJ (hgL c T lo hi n a b u v m p q pl ph dl dh u0 u1 wi day k) j)]), (47, Res.cells 71 [iI (whI n)]), (31, Res.memo (fun a => enH a) fun a_1 => Value.bool (enB c T lo hi n a b u v m p q pl ph dl dh u0 u1 wi day (keyI a_1))), (33, Res.cells 94 [iI c, iI T, iI lo, iI hi, lst 4 n fun k => [iI (a k), iI (b k), iI (u k), iI (v k)], lst 2 m fun k => [iI (p k), iI (q k)], iI pl, iI ph, iI dl, iI dh, iI u0, iI u1, iI wi, iI day, AV.mp 31]), (0, Res.cells 31 [iI c, iI T, iI lo, iI hi, lst 4 n fun k => [iI (a k), iI (b k), iI (u k), iI (v k)], lst 2 m fun k => [iI (p k), iI (q k)], iI pl, iI ph, iI dl, iI dh])], nx := 951, sv := [[agg [iI c, iI T, iI lo, iI hi, lst 4 n fun k => [iI (a k), iI (b k), iI (u k), iI (v k)], lst 2 m fun k => [iI (p k), iI (q k)], iI pl, iI ph, iI dl, iI dh], agg [iI u0, iI u1, iI wi], iI day, ptr 0 0, ptr 1 0, top, AV.x (Value.slice none 0 0), iI (0 : Int), ptr 33 0, ptr 47 0, iI (0 : Int), AV.fn (Fn.func 23) [ptr 33 0] [], AV.row 900, iI (↑k : Int), top, top, top, top, top, top, top, top, top, top, top, top, top, top, top, iI (↑n : Int), iI (↑k : Int), AV.lit true, iI (↑k : Int), AV.fn (Fn.func 23) [ptr 33 0] [], ptr 47 0, iI (whI n), iI (↑k : Int), iI ((1 : Int) * (2 : Int) ^ k), iI (buI n k), agg [iI (buI n k)], top, top, top, top, top, top, top, top]] } : Option St).getD { σ := [], m := [], nx := 0 }
noncomputable def B_en : Code := loopBody (loopAt (bodyOf Try.f23) 0)
noncomputable def inv_en (c T lo hi : Int) (n : Nat) (a b u v : Nat → Int) (m : Nat) (p q : Nat → Int) (pl ph dl dh : Int) (u0 u1 wi day : Int) (k : Nat) (j : Nat) : St := { σ := ovrS [(34, i j)] (E_en c T lo hi n a b u v m p q pl ph dl dh u0 u1 wi day k).σ, m := [(950, .row 57 4 (selL (buI n k) j).length (fun q => [i (sg a (selL (buI n k) j) q), i (sg b (selL (buI n k) j) q), i (sg u (selL (buI n k) j) q), i (sg v (selL (buI n k) j) q)])), (919, .cells 31 [i c, i T, i lo, i hi, .row 950, Pt.scs m p q, i pl, i ph, i dl, i dh]), (911, .cells 71 [i (buI n k)]), (900, .row 3 1 (hgL c T lo hi n a b u v m p q pl ph dl dh u0 u1 wi day k).length (fun j => [i (nthJ (hgL c T lo hi n a b u v m p q pl ph dl dh u0 u1 wi day k) j)])), (47, .cells 71 [i (whI n)]), (31, .memo enH (enF c T lo hi n a b u v m p q pl ph dl dh u0 u1 wi day)), (33, .cells 94 [i c, i T, i lo, i hi, rds n a b u v, Pt.scs m p q, i pl, i ph, i dl, i dh, i u0, i u1, i wi, i day, .mp 31]), (0, .cells 31 [i c, i T, i lo, i hi, rds n a b u v, Pt.scs m p q, i pl, i ph, i dl, i dh])], nx := 951, sv := [mkS 48 [(0, .agg [i c, i T, i lo, i hi, rds n a b u v, Pt.scs m p q, i pl, i ph, i dl, i dh]), (1, .agg [i u0, i u1, i wi]), (2, i day), (3, .ptr 0 0), (4, .ptr 1 0), (6, .x (.slice none 0 0)), (7, i 0), (8, .ptr 33 0), (9, .ptr 47 0), (10, i 0), (11, .fn (.func 23) [.ptr 33 0] []), (12, .row 900), (13, i k), (29, i n), (30, i k), (31, .lit true), (32, i k), (33, .fn (.func 23) [.ptr 33 0] []), (34, .ptr 47 0), (35, i (whI n)), (36, i k), (37, i (1 * 2 ^ k)), (38, i (buI n k)), (39, .agg [i (buI n k)])]] }
noncomputable def out_en (c T lo hi : Int) (n : Nat) (a b u v : Nat → Int) (m : Nat) (p q : Nat → Int) (pl ph dl dh : Int) (u0 u1 wi day : Int) (k : Nat) (j : Nat) : AEx → Option St := fun ex => match ex with
 | .exit 0 => some { σ := ovrS [] (E_en c T lo hi n a b u v m p q pl ph dl dh u0 u1 wi day k).σ, m := [(950, .row 57 4 (selL (buI n k) n).length (fun q => [i (sg a (selL (buI n k) n) q), i (sg b (selL (buI n k) n) q), i (sg u (selL (buI n k) n) q), i (sg v (selL (buI n k) n) q)])), (919, .cells 31 [i c, i T, i lo, i hi, .row 950, Pt.scs m p q, i pl, i ph, i dl, i dh]), (911, .cells 71 [i (buI n k)]), (900, .row 3 1 (hgL c T lo hi n a b u v m p q pl ph dl dh u0 u1 wi day k).length (fun j => [i (nthJ (hgL c T lo hi n a b u v m p q pl ph dl dh u0 u1 wi day k) j)])), (47, .cells 71 [i (whI n)]), (31, .memo enH (enF c T lo hi n a b u v m p q pl ph dl dh u0 u1 wi day)), (33, .cells 94 [i c, i T, i lo, i hi, rds n a b u v, Pt.scs m p q, i pl, i ph, i dl, i dh, i u0, i u1, i wi, i day, .mp 31]), (0, .cells 31 [i c, i T, i lo, i hi, rds n a b u v, Pt.scs m p q, i pl, i ph, i dl, i dh])], nx := 951, sv := [mkS 48 [(0, .agg [i c, i T, i lo, i hi, rds n a b u v, Pt.scs m p q, i pl, i ph, i dl, i dh]), (1, .agg [i u0, i u1, i wi]), (2, i day), (3, .ptr 0 0), (4, .ptr 1 0), (6, .x (.slice none 0 0)), (7, i 0), (8, .ptr 33 0), (9, .ptr 47 0), (10, i 0), (11, .fn (.func 23) [.ptr 33 0] []), (12, .row 900), (13, i k), (29, i n), (30, i k), (31, .lit true), (32, i k), (33, .fn (.func 23) [.ptr 33 0] []), (34, .ptr 47 0), (35, i (whI n)), (36, i k), (37, i (1 * 2 ^ k)), (38, i (buI n k)), (39, .agg [i (buI n k)])]] }
 | _ => none
noncomputable def T_en (c T lo hi : Int) (n : Nat) (a b u v : Nat → Int) (m : Nat) (p q : Nat → Int) (pl ph dl dh : Int) (u0 u1 wi day : Int) (k : Nat) : CT := .leaf (.exit 0, ( out_en c T lo hi n a b u v m p q pl ph dl dh u0 u1 wi day k 0 (.exit 0)).getD (E_en c T lo hi n a b u v m p q pl ph dl dh u0 u1 wi day k))
noncomputable def LS_en (c T lo hi : Int) (n : Nat) (a b u v : Nat → Int) (m : Nat) (p q : Nat → Int) (pl ph dl dh : Int) (u0 u1 wi day : Int) (k : Nat) : LSpec := normSp [(.cell 919 4, 950, 57, 4)] (sumL (inv_en c T lo hi n a b u v m p q pl ph dl dh u0 u1 wi day k (0)) (T_en c T lo hi n a b u v m p q pl ph dl dh u0 u1 wi day k))
theorem en_ls (c T lo hi : Int) (n : Nat) (a b u v : Nat → Int) (m : Nat) (p q : Nat → Int) (pl ph dl dh : Int) (u0 u1 wi day : Int) (k : Nat) (pre0 : n ≤ 12) : LSound Try.prog (.loop B_en) (LS_en c T lo hi n a b u v m p q pl ph dl dh u0 u1 wi day k) := by
 refine loop_roundsX [(.cell 919 4, 950, 57, 4)] (E := {}) (G := []) (L := []) (SoundG.nil _) (SoundX.of (SoundRL.nil _) (SoundHL.nil _)) mixed noLoops (X := Nat) (inv_en c T lo hi n a b u v m p q pl ph dl dh u0 u1 wi day k) (fun j => j ≤ n) (fun j => n - j) (out_en c T lo hi n a b u v m p q pl ph dl dh u0 u1 wi day k) (x0 := 0) (by simp) ?_ ?_ ?_
 ·rintro j
  kernel_rfl
 ·rintro j y E h
  unfold out_en at h
  split at h
  ·cases h; kernel_rfl
  ·cases h
 ·rintro Q hQ j hx
  refine ⟨(j + 1), ?_⟩
  have e : roundX Try.prog [] {} [] [(.cell 919 4, 950, 57, 4)] B_en (inv_en c T lo hi n a b u v m p q pl ph dl dh u0 u1 wi day k j) (inv_en c T lo hi n a b u v m p q pl ph dl dh u0 u1 wi day k ((j + 1))) (out_en c T lo hi n a b u v m p q pl ph dl dh u0 u1 wi day k j) = (let z0 := hgL c T lo hi n a b u v m p q pl ph dl dh u0 u1 wi day; let z1 := enF c T lo hi n a b u v m p q pl ph dl dh u0 u1 wi day; let z2 := (AV.fn (Fn.func 23) [ptr 33 0] []); let z3 := (lst 4 n (rq4 a b u v)); let z4 := (agg [iI u0, iI u1, iI wi]); let z5 := (AV.x (Value.slice none 0 0)); (branch (decide ((↑j : Int) < (↑n : Int))) (need [(0 : Int) ≤ (↑j : Int) ∧ (↑j : Int) < (↑n : Int)] (need [(0 : Int) ≤ (↑j : Int) ∧ (↑j : Int) ≤ 64] (branch (IntKind.wrap IntKind.i64 (↑(BitVec.toNat (BitVec.ofInt 64 (buI n k / (2 : Int) ^ j) &&& BitVec.ofInt 64 (1 : Int))) : Int) == (1 : Int)) (need [(List.length (selL (buI n k) j) + 1) * 32 ≤ 140737488355328, ∀ (i : Nat), i < 1 → ∀ (a_2 : AV), a_2 ∈ chunk 4 [iI (a j), iI (b j), iI (u j), iI (v j)] i → AV.one a_2 = true] (need [inI64 ((↑j : Int) + 1)] (need [Eq1 (ptr 33 0), Eq1 (agg [iI (buI n k)]), Eq1 (ptr 911 0), Eq1 (AV.lit false), false = false, Eq1 (AV.lit false), Eq1 (ptr 919 0), z3 = lst 4 n (rq4 a b u v), Eq1 (↑n : Int), (↑j : Int) + 1 = (↑(j + 1) : Int), List.length (selL (buI n k) j) + 1 = List.length (selL (buI n k) (j + 1)), ∀ (i : Nat), i < List.length (selL (buI n k) (j + 1)) → catF (List.length (selL (buI n k) j)) (fun q => [Ytlinbkmpkcmniaa.i (sg a (selL (buI n k) j) q), Ytlinbkmpkcmniaa.i (sg b (selL (buI n k) j) q), Ytlinbkmpkcmniaa.i (sg u (selL (buI n k) j) q), Ytlinbkmpkcmniaa.i (sg v (selL (buI n k) j) q)]) (chunk 4 [iI (a j), iI (b j), iI (u j), iI (v j)]) i = [Ytlinbkmpkcmniaa.i (sg a (selL (buI n k) (j + 1)) i), Ytlinbkmpkcmniaa.i (sg b (selL (buI n k) (j + 1)) i), Ytlinbkmpkcmniaa.i (sg u (selL (buI n k) (j + 1)) i), Ytlinbkmpkcmniaa.i (sg v (selL (buI n k) (j + 1)) i)], c = c, T = T, lo = lo, hi = hi, Eq1 (AV.row 950), (lst 2 m fun k => [iI (p k), iI (q k)]) = lst 2 m fun k => [iI (p k), iI (q k)], pl = pl, ph = ph, dl = dl, dh = dh, Eq1 (buI n k), Eq1 (List.length (z0 k)), ∀ (i : Nat), i < List.length (z0 k) → [Ytlinbkmpkcmniaa.i (nthJ (z0 k) i)] = [Ytlinbkmpkcmniaa.i (nthJ (z0 k) i)], whI n = whI n, ∀ (k : Value), enH k → enH k ∧ z1 k = z1 k, c = c, T = T, lo = lo, hi = hi, z3 = lst 4 n (rq4 a b u v), (lst 2 m fun k => [iI (p k), iI (q k)]) = lst 2 m fun k => [iI (p k), iI (q k)], pl = pl, ph = ph, dl = dl, dh = dh, u0 = u0, u1 = u1, wi = wi, day = day, Eq1 (AV.mp 31), c = c, T = T, lo = lo, hi = hi, z3 = lst 4 n (rq4 a b u v), (lst 2 m fun k => [iI (p k), iI (q k)]) = lst 2 m fun k => [iI (p k), iI (q k)], pl = pl, ph = ph, dl = dl, dh = dh, Eq1 (agg [iI c, iI T, iI lo, iI hi, lst 4 n (rq4 a b u v), lst 2 m fun k => [iI (p k), iI (q k)], iI pl, iI ph, iI dl, iI dh]), Eq1 z4, day = day, Eq1 (ptr 0 0), Eq1 (ptr 1 0), Eq1 z5, Eq1 (0 : Int), Eq1 (ptr 33 0), Eq1 (ptr 47 0), Eq1 (0 : Int), Eq1 z2, Eq1 (AV.row 900), Eq1 (↑k : Int), Eq1 (↑n : Int), Eq1 (↑k : Int), Eq1 (AV.lit true), Eq1 (↑k : Int), Eq1 z2, Eq1 (ptr 47 0), whI n = whI n, Eq1 (↑k : Int), Eq1 ((1 : Int) * 2 ^ k), Eq1 (buI n k), Eq1 (agg [iI (buI n k)])] (leaf AEx.normal)))) (need [inI64 ((↑j : Int) + 1)] (need [Eq1 (ptr 33 0), Eq1 (agg [iI (buI n k)]), Eq1 (ptr 911 0), Eq1 (AV.lit false), false = false, Eq1 (AV.lit false), Eq1 (ptr 919 0), z3 = lst 4 n (rq4 a b u v), Eq1 (↑n : Int), (↑j : Int) + 1 = (↑(j + 1) : Int), List.length (selL (buI n k) j) = List.length (selL (buI n k) (j + 1)), ∀ (i : Nat), i < List.length (selL (buI n k) (j + 1)) → [Ytlinbkmpkcmniaa.i (sg a (selL (buI n k) j) i), Ytlinbkmpkcmniaa.i (sg b (selL (buI n k) j) i), Ytlinbkmpkcmniaa.i (sg u (selL (buI n k) j) i), Ytlinbkmpkcmniaa.i (sg v (selL (buI n k) j) i)] = [Ytlinbkmpkcmniaa.i (sg a (selL (buI n k) (j + 1)) i), Ytlinbkmpkcmniaa.i (sg b (selL (buI n k) (j + 1)) i), Ytlinbkmpkcmniaa.i (sg u (selL (buI n k) (j + 1)) i), Ytlinbkmpkcmniaa.i (sg v (selL (buI n k) (j + 1)) i)], c = c, T = T, lo = lo, hi = hi, Eq1 (AV.row 950), (lst 2 m fun k => [iI (p k), iI (q k)]) = lst 2 m fun k => [iI (p k), iI (q k)], pl = pl, ph = ph, dl = dl, dh = dh, Eq1 (buI n k), Eq1 (List.length (z0 k)), ∀ (i : Nat), i < List.length (z0 k) → [Ytlinbkmpkcmniaa.i (nthJ (z0 k) i)] = [Ytlinbkmpkcmniaa.i (nthJ (z0 k) i)], whI n = whI n, ∀ (k : Value), enH k → enH k ∧ z1 k = z1 k, c = c, T = T, lo = lo, hi = hi, z3 = lst 4 n (rq4 a b u v), (lst 2 m fun k => [iI (p k), iI (q k)]) = lst 2 m fun k => [iI (p k), iI (q k)], pl = pl, ph = ph, dl = dl, dh = dh, u0 = u0, u1 = u1, wi = wi, day = day, Eq1 (AV.mp 31), c = c, T = T, lo = lo, hi = hi, z3 = lst 4 n (rq4 a b u v), (lst 2 m fun k => [iI (p k), iI (q k)]) = lst 2 m fun k => [iI (p k), iI (q k)], pl = pl, ph = ph, dl = dl, dh = dh, Eq1 (agg [iI c, iI T, iI lo, iI hi, lst 4 n (rq4 a b u v), lst 2 m fun k => [iI (p k), iI (q k)], iI pl, iI ph, iI dl, iI dh]), Eq1 z4, day = day, Eq1 (ptr 0 0), Eq1 (ptr 1 0), Eq1 z5, Eq1 (0 : Int), Eq1 (ptr 33 0), Eq1 (ptr 47 0), Eq1 (0 : Int), Eq1 z2, Eq1 (AV.row 900), Eq1 (↑k : Int), Eq1 (↑n : Int), Eq1 (↑k : Int), Eq1 (AV.lit true), Eq1 (↑k : Int), Eq1 z2, Eq1 (ptr 47 0), whI n = whI n, Eq1 (↑k : Int), Eq1 ((1 : Int) * 2 ^ k), Eq1 (buI n k), Eq1 (agg [iI (buI n k)])] (leaf AEx.normal)))))) (need [Eq1 (ptr 33 0), Eq1 (agg [iI (buI n k)]), Eq1 (ptr 911 0), Eq1 (AV.lit false), false = false, Eq1 (AV.lit false), Eq1 (ptr 919 0), z3 = lst 4 n (rq4 a b u v), Eq1 (↑n : Int), List.length (selL (buI n k) j) = List.length (selL (buI n k) n), ∀ (i : Nat), i < List.length (selL (buI n k) n) → [Ytlinbkmpkcmniaa.i (sg a (selL (buI n k) j) i), Ytlinbkmpkcmniaa.i (sg b (selL (buI n k) j) i), Ytlinbkmpkcmniaa.i (sg u (selL (buI n k) j) i), Ytlinbkmpkcmniaa.i (sg v (selL (buI n k) j) i)] = [Ytlinbkmpkcmniaa.i (sg a (selL (buI n k) n) i), Ytlinbkmpkcmniaa.i (sg b (selL (buI n k) n) i), Ytlinbkmpkcmniaa.i (sg u (selL (buI n k) n) i), Ytlinbkmpkcmniaa.i (sg v (selL (buI n k) n) i)], c = c, T = T, lo = lo, hi = hi, Eq1 (AV.row 950), (lst 2 m fun k => [iI (p k), iI (q k)]) = lst 2 m fun k => [iI (p k), iI (q k)], pl = pl, ph = ph, dl = dl, dh = dh, Eq1 (buI n k), Eq1 (List.length (z0 k)), ∀ (i : Nat), i < List.length (z0 k) → [Ytlinbkmpkcmniaa.i (nthJ (z0 k) i)] = [Ytlinbkmpkcmniaa.i (nthJ (z0 k) i)], whI n = whI n, ∀ (k : Value), enH k → enH k ∧ z1 k = z1 k, c = c, T = T, lo = lo, hi = hi, z3 = lst 4 n (rq4 a b u v), (lst 2 m fun k => [iI (p k), iI (q k)]) = lst 2 m fun k => [iI (p k), iI (q k)], pl = pl, ph = ph, dl = dl, dh = dh, u0 = u0, u1 = u1, wi = wi, day = day, Eq1 (AV.mp 31), c = c, T = T, lo = lo, hi = hi, z3 = lst 4 n (rq4 a b u v), (lst 2 m fun k => [iI (p k), iI (q k)]) = lst 2 m fun k => [iI (p k), iI (q k)], pl = pl, ph = ph, dl = dl, dh = dh, Eq1 (agg [iI c, iI T, iI lo, iI hi, lst 4 n (rq4 a b u v), lst 2 m fun k => [iI (p k), iI (q k)], iI pl, iI ph, iI dl, iI dh]), Eq1 z4, day = day, Eq1 (ptr 0 0), Eq1 (ptr 1 0), Eq1 z5, Eq1 (0 : Int), Eq1 (ptr 33 0), Eq1 (ptr 47 0), Eq1 (0 : Int), Eq1 z2, Eq1 (AV.row 900), Eq1 (↑k : Int), Eq1 (↑n : Int), Eq1 (↑k : Int), Eq1 (AV.lit true), Eq1 (↑k : Int), Eq1 z2, Eq1 (ptr 47 0), whI n = whI n, Eq1 (↑k : Int), Eq1 ((1 : Int) * 2 ^ k), Eq1 (buI n k), Eq1 (agg [iI (buI n k)])] (leaf (AEx.exit 0))))) := by kernel_rfl
  rw [e]
  simp only [T_en, out_en, Tree.sat, Option.getD_some] at hQ
  have hl := selL_len (buI n k) j
  have hs : selL (buI n k) (j + 1) = if selB (buI n k) j then selL (buI n k) j ++ [j] else selL (buI n k) j := rfl
  have hB : selB (buI n k) j = (andI (buI n k / 2 ^ j) 1 == 1) := rfl
  simp only [Tree.sat, allP, fitP, fitL, valEq, inI64, true_and, and_true, decide_eq_true_eq, decide_eq_false_iff_not, Int.toNat_natCast]
  clear e
  have hc4 : ∀ x1 x2 x3 x4 : Int, ∀ (q : Nat), q < 1 → ∀ y, y ∈ chunk 4 [iI x1, iI x2, iI x3, iI x4] q → AV.one y = true := fun _ _ _ _ q _ y hy => one_of hy (by simp [AV.one, Value.oneCell'])
  refine ⟨fun h => ⟨by omega, by omega, fun h2 => ?_, fun h2 => ?_⟩, fun h => ?_⟩
  ·have h3 : selB (buI n k) j = true := h2
   rw [if_pos h3] at hs
   rw [hs, List.length_append]
   (repeat' first | with_reducible apply And.intro | with_reducible intro _)
   all_goals first | exact True.intro | omega | with_reducible rfl | exact hc4 _ _ _ _ _ (by assumption) _ (by assumption) | exact sg_cat (by assumption) | assumption | rfl
  ·have h3 : selB (buI n k) j = false := h2
   rw [if_neg (by rw [h3]; simp)] at hs
   rw [hs]
   (repeat' first | with_reducible apply And.intro | with_reducible intro _)
   all_goals first | exact True.intro | omega | with_reducible rfl | assumption | rfl
  ·obtain rfl : j = n := by omega
   (repeat' first | with_reducible apply And.intro | with_reducible intro _)
   all_goals first | exact True.intro | omega | with_reducible rfl | (rename_i E hE; cases hE; exact hQ) | assumption | rfl
end Go.Proofs.Ytlinbkmpkcmniaa
namespace Go.Proofs.Ytlinbkmpkcmniaa
open Go Go.Sx Go.RowKit Bo
open Go.Sx.Tree (need branch leaf)
open Go.Sx.AV (lst ptr agg roI tup top)
noncomputable def F_en (c T lo hi : Int) (n : Nat) (a b u v : Nat → Int) (m : Nat) (p q : Nat → Int) (pl ph dl dh : Int) (u0 u1 wi day : Int) : St → Option LSpec := fun s => match s.sv with
 | σ :: _ => match σ.getD 30 .top with
  | .x (.int _ ke) => some (needSp [n ≤ 12] (LS_en c T lo hi n a b u v m p q pl ph dl dh u0 u1 wi day ke.toNat))
  | _ => none
 | [] => none
noncomputable def H_en (c T lo hi : Int) (n : Nat) (a b u v : Nat → Int) (m : Nat) (p q : Nat → Int) (pl ph dl dh : Int) (u0 u1 wi day : Int) : HSpec := inlH Try.prog [(26, S_kept)] { R := [], H := [], C := [(27, C_read)] } [stSp (F_en c T lo hi n a b u v m p q pl ph dl dh u0 u1 wi day)] Try.f23 (bodyOf Try.f23)
theorem en_okH (c T lo hi : Int) (n : Nat) (a b u v : Nat → Int) (m : Nat) (p q : Nat → Int) (pl ph dl dh : Int) (u0 u1 wi day : Int) : SoundHSpec Try.prog 23 (H_en c T lo hi n a b u v m p q pl ph dl dh u0 u1 wi day) :=
 inl_sound (G := [(26, S_kept)]) (X := { R := [], H := [], C := [(27, C_read)] }) (L := [stSp (F_en c T lo hi n a b u v m p q pl ph dl dh u0 u1 wi day)]) (SoundG.cons kept_ok (SoundG.nil _)) (SoundX.ofC (SoundRL.nil _) (SoundHL.nil _) (SoundCL.cons read_okC (SoundCL.nil _))) mixed ⟨_, Try.func23, by kernel_rfl, by kernel_rfl⟩ Try.func23 (show Try.f23.body = some (bodyOf Try.f23) by kernel_rfl) (one_loop (fun cj hcj => by
  have e : loopAt (bodyOf Try.f23) 0 = some (.loop B_en) := by kernel_rfl
  rw [e] at hcj; cases hcj
  refine stSp_sound (fun s l hl => ?_)
  unfold F_en at hl
  split at hl
  ·split at hl
   ·cases hl
    exact needSp_sound (fun h => en_ls c T lo hi n a b u v m p q pl ph dl dh u0 u1 wi day _ h)
   ·cases hl
  ·cases hl))
theorem nthJ_app (l m : List Int) : ∀ k, nthJ (l ++ m) k = if k < l.length then nthJ l k else nthJ m (k - l.length) := by
 induction l with
 | nil => intro k; simp
 | cons x l ih =>
  intro k
  cases k with
  | zero => simp [nthJ]
  | succ k =>
   show nthJ (l ++ m) k = _
   rw [ih]
   simp only [List.length_cons, Nat.add_lt_add_iff_right, Nat.add_sub_add_right]
   rfl
theorem catJ1 {l : List Int} {x : Int} {j : Nat} (h : j < l.length + 1) : catF l.length (fun j => [i (nthJ l j)]) (chunk 1 [i x]) j = [i (nthJ (l ++ [x]) j)] := by
 rw [nthJ_app]
 show mergeL (decide (j < l.length)) _ (chunk 1 [i x] (j - l.length)) = _
 rw [show j - l.length = 0 by omega]
 by_cases hj : j < l.length
 ·rw [decide_eq_true hj, if_pos hj]; rfl
 ·rw [decide_eq_false hj, if_neg hj]; rfl
theorem hgL_len (c T lo hi : Int) (n : Nat) (a b u v : Nat → Int) (m : Nat) (p q : Nat → Int) (pl ph dl dh : Int) (u0 u1 wi day : Int) : ∀ k, (hgL c T lo hi n a b u v m p q pl ph dl dh u0 u1 wi day k).length ≤ k
 | 0 => Nat.le_refl _
 | k + 1 => by
  have := hgL_len c T lo hi n a b u v m p q pl ph dl dh u0 u1 wi day k
  unfold hgL
  split
  ·omega
  ·rw [List.length_append]; simp; omega
theorem pow12 {k : Nat} (h : k ≤ 12) : (1 : Int) ≤ 1 * 2 ^ k ∧ (1 : Int) * 2 ^ k ≤ 4096 := by
 rcases (show k = 0 ∨ k = 1 ∨ k = 2 ∨ k = 3 ∨ k = 4 ∨ k = 5 ∨ k = 6 ∨ k = 7 ∨ k = 8 ∨ k = 9 ∨ k = 10 ∨ k = 11 ∨ k = 12 by omega) with rfl | rfl | rfl | rfl | rfl | rfl | rfl | rfl | rfl | rfl | rfl | rfl | rfl <;> decide
theorem ha_ls (c T lo hi : Int) (n : Nat) (a b u v : Nat → Int) (m : Nat) (p q : Nat → Int) (pl ph dl dh : Int) (u0 u1 wi day : Int) (pre0 : n ≤ 12) (pre1 : usB c u0 u1 wi = true) (pre2 : 0 ≤ day ∧ day ≤ 10000) : LSound Try.prog (.loop B_ha) (LS_ha c T lo hi n a b u v m p q pl ph dl dh u0 u1 wi day) := by
 refine loop_roundsX [(.slot 12, 900, 3, 1)] (E := { R := [], H := [(23, (H_en c T lo hi n a b u v m p q pl ph dl dh u0 u1 wi day))] }) (G := []) (L := []) (SoundG.nil _) (SoundX.of (SoundRL.nil _) (SoundHL.cons (en_okH c T lo hi n a b u v m p q pl ph dl dh u0 u1 wi day) (SoundHL.nil _))) mixed noLoops (X := Nat) (inv_ha c T lo hi n a b u v m p q pl ph dl dh u0 u1 wi day) (fun k => k ≤ n) (fun k => n - k) (out_ha c T lo hi n a b u v m p q pl ph dl dh u0 u1 wi day) (x0 := 0) (by simp) ?_ ?_ ?_
 ·rintro k
  kernel_rfl
 ·rintro k y E h
  unfold out_ha at h
  split at h
  ·cases h; kernel_rfl
  ·cases h
 ·rintro Q hQ k hx
  refine ⟨(k + 1), ?_⟩
  have e : roundX Try.prog [] { R := [], H := [(23, (H_en c T lo hi n a b u v m p q pl ph dl dh u0 u1 wi day))] } [] [(.slot 12, 900, 3, 1)] B_ha (inv_ha c T lo hi n a b u v m p q pl ph dl dh u0 u1 wi day k) (inv_ha c T lo hi n a b u v m p q pl ph dl dh u0 u1 wi day ((k + 1))) (out_ha c T lo hi n a b u v m p q pl ph dl dh u0 u1 wi day k) = (let z4 := hgL c T lo hi n a b u v m p q pl ph dl dh u0 u1 wi day; let z7 := (agg [iI c, iI T, iI lo, iI hi, lst 4 n (rq4 a b u v), lst 2 m fun k => [iI (p k), iI (q k)], iI pl, iI ph, iI dl, iI dh]); let z11 := (agg [iI u0, iI u1, iI wi]); let z12 := (AV.x (Value.slice none 0 0)); let z8 := (AV.fn (Fn.func 23) [ptr 33 0] []); let z2 := enF c T lo hi n a b u v m p q pl ph dl dh u0 u1 wi day; let z0 := (need [(List.length (z4 k) + 1) * 8 ≤ 140737488355328, ∀ (i : Nat), i < 1 → ∀ (a : AV), a ∈ chunk 1 [iI (↑k : Int)] i → AV.one a = true] (need [inI64 ((↑k : Int) + 1)] (need [Eq1 z7, Eq1 z11, day = day, Eq1 (ptr 0 0), Eq1 (ptr 1 0), Eq1 z12, Eq1 (0 : Int), Eq1 (ptr 33 0), Eq1 (ptr 47 0), Eq1 (0 : Int), Eq1 z8, Eq1 (AV.row 900), Eq1 (↑n : Int), (↑k : Int) + 1 = (↑(k + 1) : Int), List.length (z4 k) + 1 = List.length (z4 (k + 1)), ∀ (i : Nat), i < List.length (z4 (k + 1)) → catF (List.length (z4 k)) (fun j => [Ytlinbkmpkcmniaa.i (nthJ (z4 k) j)]) (chunk 1 [iI (↑k : Int)]) i = [Ytlinbkmpkcmniaa.i (nthJ (z4 (k + 1)) i)], whI n = whI n, ∀ (k : Value), enH k → enH k ∧ z2 k = z2 k, c = c, T = T, lo = lo, hi = hi, (lst 4 n (rq4 a b u v)) = lst 4 n (rq4 a b u v), (lst 2 m fun k => [iI (p k), iI (q k)]) = lst 2 m fun k => [iI (p k), iI (q k)], pl = pl, ph = ph, dl = dl, dh = dh, u0 = u0, u1 = u1, wi = wi, day = day, Eq1 (AV.mp 31), c = c, T = T, lo = lo, hi = hi, (lst 4 n (rq4 a b u v)) = lst 4 n (rq4 a b u v), (lst 2 m fun k => [iI (p k), iI (q k)]) = lst 2 m fun k => [iI (p k), iI (q k)], pl = pl, ph = ph, dl = dl, dh = dh] (leaf AEx.normal)))); let z1 := (need [inI64 ((↑k : Int) + 1)] (need [Eq1 z7, Eq1 z11, day = day, Eq1 (ptr 0 0), Eq1 (ptr 1 0), Eq1 z12, Eq1 (0 : Int), Eq1 (ptr 33 0), Eq1 (ptr 47 0), Eq1 (0 : Int), Eq1 z8, Eq1 (AV.row 900), Eq1 (↑n : Int), (↑k : Int) + 1 = (↑(k + 1) : Int), List.length (z4 k) = List.length (z4 (k + 1)), ∀ (i : Nat), i < List.length (z4 (k + 1)) → [Ytlinbkmpkcmniaa.i (nthJ (z4 k) i)] = [Ytlinbkmpkcmniaa.i (nthJ (z4 (k + 1)) i)], whI n = whI n, ∀ (k : Value), enH k → enH k ∧ z2 k = z2 k, c = c, T = T, lo = lo, hi = hi, (lst 4 n (rq4 a b u v)) = lst 4 n (rq4 a b u v), (lst 2 m fun k => [iI (p k), iI (q k)]) = lst 2 m fun k => [iI (p k), iI (q k)], pl = pl, ph = ph, dl = dl, dh = dh, u0 = u0, u1 = u1, wi = wi, day = day, Eq1 (AV.mp 31), c = c, T = T, lo = lo, hi = hi, (lst 4 n (rq4 a b u v)) = lst 4 n (rq4 a b u v), (lst 2 m fun k => [iI (p k), iI (q k)]) = lst 2 m fun k => [iI (p k), iI (q k)], pl = pl, ph = ph, dl = dl, dh = dh] (leaf AEx.normal))); let z10 := (List.length (selL (buI n k) n)); let z3 := (wkA c T lo hi z10 (sg a (selL (buI n k) n)) (sg b (selL (buI n k) n)) (sg u (selL (buI n k) n)) (sg v (selL (buI n k) n)) m p q pl ph dl dh); let z5 := (IntKind.wrap IntKind.i64 (↑(BitVec.toNat (BitVec.ofInt 64 (whI n) &&& ~~~BitVec.ofInt 64 ((1 : Int) * 2 ^ k))) : Int)); let z6 := (Value.agg #[Value.int IntKind.i64 (buI n k)]); let z9 := (need [MapKey Try.prog 92 enH z6 (Value.bool false), enH z6, Value.bool false = z2 z6] z0); let z13 := (Value.agg #[Value.int IntKind.i64 z5]); (branch (decide ((↑k : Int) < (↑n : Int))) (need [(0 : Int) ≤ (↑k : Int) ∧ (↑k : Int) ≤ 64, inI64 ((1 : Int) * 2 ^ k)] (need [MapKey Try.prog 92 enH z13 (Value.bool false)] (Tree.may (enH z13) (branch (!enB c T lo hi n a b u v m p q pl ph dl dh u0 u1 wi day (keyI z13)) z0 z1) (need [n ≤ 12] (need [Eq1 (ptr 33 0), agg [iI z5] = agg [iI (buI n k)], Eq1 (ptr 911 0), Eq1 (AV.lit false), false = false, Eq1 (AV.lit false), Eq1 (ptr 919 0), (lst 4 n (rq4 a b u v)) = lst 4 n (rq4 a b u v), Eq1 (↑n : Int), (0 : Int) = (↑(0 : Nat) : Int), 0 = List.length (selL (buI n k) 0), ∀ (i : Nat), i < List.length (selL (buI n k) 0) → [] = [Ytlinbkmpkcmniaa.i (sg a (selL (buI n k) 0) i), Ytlinbkmpkcmniaa.i (sg b (selL (buI n k) 0) i), Ytlinbkmpkcmniaa.i (sg u (selL (buI n k) 0) i), Ytlinbkmpkcmniaa.i (sg v (selL (buI n k) 0) i)], c = c, T = T, lo = lo, hi = hi, Eq1 (AV.row 950), (lst 2 m fun k => [iI (p k), iI (q k)]) = lst 2 m fun k => [iI (p k), iI (q k)], pl = pl, ph = ph, dl = dl, dh = dh, IntKind.wrap IntKind.i64 (↑(BitVec.toNat (BitVec.ofInt 64 (whI n) &&& ~~~BitVec.ofInt 64 ((1 : Int) * 2 ^ k))) : Int) = buI n k, Eq1 (List.length (z4 k)), ∀ (i : Nat), i < List.length (z4 k) → [Ytlinbkmpkcmniaa.i (nthJ (z4 k) i)] = [Ytlinbkmpkcmniaa.i (nthJ (z4 k) i)], whI n = whI n, ∀ (k : Value), enH k → enH k ∧ z2 k = z2 k, c = c, T = T, lo = lo, hi = hi, (lst 4 n (rq4 a b u v)) = lst 4 n (rq4 a b u v), (lst 2 m fun k => [iI (p k), iI (q k)]) = lst 2 m fun k => [iI (p k), iI (q k)], pl = pl, ph = ph, dl = dl, dh = dh, u0 = u0, u1 = u1, wi = wi, day = day, Eq1 (AV.mp 31), c = c, T = T, lo = lo, hi = hi, (lst 4 n (rq4 a b u v)) = lst 4 n (rq4 a b u v), (lst 2 m fun k => [iI (p k), iI (q k)]) = lst 2 m fun k => [iI (p k), iI (q k)], pl = pl, ph = ph, dl = dl, dh = dh, Eq1 z7, Eq1 z11, day = day, Eq1 (ptr 0 0), Eq1 (ptr 1 0), Eq1 z12, Eq1 (0 : Int), Eq1 (ptr 33 0), Eq1 (ptr 47 0), Eq1 (0 : Int), Eq1 z8, Eq1 (AV.row 900), Eq1 (↑k : Int), Eq1 (↑n : Int), Eq1 (↑k : Int), Eq1 (AV.lit true), Eq1 (↑k : Int), Eq1 z8, Eq1 (ptr 47 0), whI n = whI n, Eq1 (↑k : Int), Eq1 ((1 : Int) * 2 ^ k), IntKind.wrap IntKind.i64 (↑(BitVec.toNat (BitVec.ofInt 64 (whI n) &&& ~~~BitVec.ofInt 64 ((1 : Int) * 2 ^ k))) : Int) = buI n k, agg [iI z5] = agg [iI (buI n k)]] (need [isRec 4 z10 fun q => [i (sg a (selL (buI n k) n) q), i (sg b (selL (buI n k) n) q), i (sg u (selL (buI n k) n) q), i (sg v (selL (buI n k) n) q)], isRec 2 m fun k => [Pt.i (p k), Pt.i (q k)]] (branch (decide (rdE c T lo hi z10 (sg a (selL (buI n k) n)) (sg b (selL (buI n k) n)) (sg u (selL (buI n k) n)) (sg v (selL (buI n k) n)) m p q pl ph dl dh = (0 : Int))) (branch ((0 : Int) == (0 : Int)) (need [drB z3, bdB z3, (1 : Int) ≤ c ∧ c ≤ (10 : Int), (0 : Int) ≤ u0 ∧ u0 ≤ u1 ∧ u1 ≤ (10 : Int), (0 : Int) ≤ wi ∧ wi ≤ (1000000 : Int), (0 : Int) ≤ day ∧ day ≤ (100000 : Int)] (need [MapKey Try.prog 92 enH z6 (Value.bool false), enH z6, Value.bool (keB c z3 u0 u1 wi day) = z2 z6] (branch (!keB c z3 u0 u1 wi day) z0 z1))) z9) (branch (rdE c T lo hi z10 (sg a (selL (buI n k) n)) (sg b (selL (buI n k) n)) (sg u (selL (buI n k) n)) (sg v (selL (buI n k) n)) m p q pl ph dl dh == (0 : Int)) Tree.fail z9)))))))) (need [Eq1 z7, Eq1 z11, day = day, Eq1 (ptr 0 0), Eq1 (ptr 1 0), Eq1 z12, Eq1 (0 : Int), Eq1 (ptr 33 0), Eq1 (ptr 47 0), Eq1 (0 : Int), Eq1 z8, Eq1 (AV.row 900), Eq1 (↑n : Int), List.length (z4 k) = List.length (z4 n), ∀ (i : Nat), i < List.length (z4 n) → [Ytlinbkmpkcmniaa.i (nthJ (z4 k) i)] = [Ytlinbkmpkcmniaa.i (nthJ (z4 n) i)], whI n = whI n, ∀ (k : Value), enH k → enH k ∧ z2 k = z2 k, c = c, T = T, lo = lo, hi = hi, (lst 4 n (rq4 a b u v)) = lst 4 n (rq4 a b u v), (lst 2 m fun k => [iI (p k), iI (q k)]) = lst 2 m fun k => [iI (p k), iI (q k)], pl = pl, ph = ph, dl = dl, dh = dh, u0 = u0, u1 = u1, wi = wi, day = day, Eq1 (AV.mp 31), c = c, T = T, lo = lo, hi = hi, (lst 4 n (rq4 a b u v)) = lst 4 n (rq4 a b u v), (lst 2 m fun k => [iI (p k), iI (q k)]) = lst 2 m fun k => [iI (p k), iI (q k)], pl = pl, ph = ph, dl = dl, dh = dh] (leaf (AEx.exit 0))))) := by kernel_rfl
  rw [e]
  simp only [T_ha, out_ha, Tree.sat, Option.getD_some] at hQ
  simp only [Tree.sat, allP, fitP, fitL, valEq, inI64, true_and, and_true, decide_eq_true_eq, decide_eq_false_iff_not, Int.toNat_natCast]
  clear e
  have eb : IntKind.i64.wrap ((BitVec.ofInt 64 (whI n) &&& ~~~BitVec.ofInt 64 (1 * 2 ^ k)).toNat : Int) = buI n k := rfl
  have ek : ∀ x : Int, keyI (Value.agg #[Value.int IntKind.i64 x]) = x := fun _ => rfl
  simp only [eb, ek]
  have hg : hgL c T lo hi n a b u v m p q pl ph dl dh u0 u1 wi day (k + 1) = if enB c T lo hi n a b u v m p q pl ph dl dh u0 u1 wi day (buI n k) then hgL c T lo hi n a b u v m p q pl ph dl dh u0 u1 wi day k else hgL c T lo hi n a b u v m p q pl ph dl dh u0 u1 wi day k ++ [(k : Int)] := rfl
  have hl := hgL_len c T lo hi n a b u v m p q pl ph dl dh u0 u1 wi day k
  have hc1 : ∀ x : Int, ∀ (j : Nat), j < 1 → ∀ y, y ∈ chunk 1 [iI x] j → AV.one y = true := fun x j _ y hy => one_of hy (by simp [AV.one, Value.oneCell'])
  have hE : enB c T lo hi n a b u v m p q pl ph dl dh u0 u1 wi day (buI n k) = (decide (rdE c T lo hi (selL (buI n k) n).length (sg a (selL (buI n k) n)) (sg b (selL (buI n k) n)) (sg u (selL (buI n k) n)) (sg v (selL (buI n k) n)) m p q pl ph dl dh = 0) && keB c (wkA c T lo hi (selL (buI n k) n).length (sg a (selL (buI n k) n)) (sg b (selL (buI n k) n)) (sg u (selL (buI n k) n)) (sg v (selL (buI n k) n)) m p q pl ph dl dh) u0 u1 wi day) := rfl
  have hF : enF c T lo hi n a b u v m p q pl ph dl dh u0 u1 wi day (Value.agg #[Value.int IntKind.i64 (buI n k)]) = .bool (enB c T lo hi n a b u v m p q pl ph dl dh u0 u1 wi day (buI n k)) := rfl
  have hH : enH (Value.agg #[Value.int IntKind.i64 (buI n k)]) := ⟨_, rfl⟩
  have mk := mapKey_en (buI n k)
  rw [hF]
  generalize selL (buI n k) n = L at hE ⊢
  generalize hgL c T lo hi n a b u v m p q pl ph dl dh u0 u1 wi day (k + 1) = H' at hg ⊢
  generalize hHk : hgL c T lo hi n a b u v m p q pl ph dl dh u0 u1 wi day k = H at hl hg ⊢
  generalize enB c T lo hi n a b u v m p q pl ph dl dh u0 u1 wi day (buI n k) = B at hE hg ⊢
  have yes : B = true → H' = H := fun h => by rw [hg, if_pos h]
  have no : B = false → H' = H ++ [(k : Int)] := fun h => by rw [hg, if_neg (by rw [h]; simp)]
  have hu := usB_iff.1 pre1
  refine ⟨fun h => ⟨⟨by omega, ?_⟩, mk, fun _ => ⟨fun h2 => ?_, fun h2 => ?_⟩, pre0, ⟨trivial, rfl, rfl, fun j hj => absurd hj (Nat.not_lt_zero _), trivial, fun _ _ => trivial, fun _ h => h, trivial, trivial⟩, ⟨Bo.isRec4 _ _ _ _ _, Pt.isRec2 _ _ _⟩, fun h3 => ⟨fun _ => ⟨?_, ⟨mk, hH, ?_⟩, fun h2 => ?_, fun h2 => ?_⟩, fun h2 => by simp at h2⟩, fun h3 => ⟨fun h2 => absurd (by simpa using h2) h3, fun _ => ⟨⟨mk, hH, ?_⟩, ?_⟩⟩⟩, fun h => ?_⟩
  ·have := pow12 (k := k) (by omega)
   omega
  ·rw [no (by simpa using h2), List.length_append]
   (repeat' first | with_reducible apply And.intro | with_reducible intro _)
   all_goals first | exact True.intro | omega | with_reducible rfl | exact hc1 _ _ (by assumption) _ (by assumption) | exact catJ1 (by assumption) | assumption | rfl
  ·rw [yes (by simpa using h2)]
   (repeat' first | with_reducible apply And.intro | with_reducible intro _)
   all_goals first | exact True.intro | omega | with_reducible rfl | exact hc1 _ _ (by assumption) _ (by assumption) | exact catJ1 (by assumption) | assumption | rfl
  ·have hw := wk_ok h3
   exact ⟨hw.1, hw.2.1, hw.2.2.1, by omega, by omega, by omega⟩
  ·rw [hE, decide_eq_true h3]
   rfl
  ·have hB : B = false := by
    rw [hE, decide_eq_true h3]
    simpa using h2
   rw [no hB, List.length_append]
   (repeat' first | with_reducible apply And.intro | with_reducible intro _)
   all_goals first | exact True.intro | omega | with_reducible rfl | exact hc1 _ _ (by assumption) _ (by assumption) | exact catJ1 (by assumption) | assumption | rfl
  ·have hB : B = true := by
    rw [hE, decide_eq_true h3]
    simpa using h2
   rw [yes hB]
   (repeat' first | with_reducible apply And.intro | with_reducible intro _)
   all_goals first | exact True.intro | omega | with_reducible rfl | exact hc1 _ _ (by assumption) _ (by assumption) | exact catJ1 (by assumption) | assumption | rfl
  ·rw [hE, decide_eq_false h3]
   rfl
  ·have hB : B = false := by
    rw [hE, decide_eq_false h3]
    rfl
   rw [no hB, List.length_append]
   (repeat' first | with_reducible apply And.intro | with_reducible intro _)
   all_goals first | exact True.intro | omega | with_reducible rfl | exact hc1 _ _ (by assumption) _ (by assumption) | exact catJ1 (by assumption) | assumption | rfl
  ·obtain rfl : k = n := by omega
   subst hHk
   (repeat' first | with_reducible apply And.intro | with_reducible intro _)
   all_goals first | exact True.intro | omega | with_reducible rfl | (rename_i E hE; cases hE; exact hQ) | assumption | rfl
def hgE (c T lo hi : Int) (n : Nat) (a b u v : Nat → Int) (m : Nat) (p q : Nat → Int) (pl ph dl dh : Int) (u0 u1 wi day : Int) : Int := if asE c T lo hi n a b u v m p q pl ph dl dh u0 u1 wi day = 0 then (if keB c (wkA c T lo hi n a b u v m p q pl ph dl dh) u0 u1 wi day then 0 else 10) else asE c T lo hi n a b u v m p q pl ph dl dh u0 u1 wi day
def hgR (c T lo hi : Int) (n : Nat) (a b u v : Nat → Int) (m : Nat) (p q : Nat → Int) (pl ph dl dh : Int) (u0 u1 wi day : Int) : List Int := if hgE c T lo hi n a b u v m p q pl ph dl dh u0 u1 wi day = 0 then hgL c T lo hi n a b u v m p q pl ph dl dh u0 u1 wi day n else []
theorem Hangs_at (c T lo hi : Int) (n : Nat) (a b u v : Nat → Int) (m : Nat) (p q : Nat → Int) (pl ph dl dh : Int) (u0 u1 wi day : Int) : SoundAt Try.prog 12 [.agg [i c, i T, i lo, i hi, rds n a b u v, Pt.scs m p q, i pl, i ph, i dl, i dh], .agg [i u0, i u1, i wi], i day] (.tup [.lst 1 (hgR c T lo hi n a b u v m p q pl ph dl dh u0 u1 wi day).length (fun j => [i (nthJ (hgR c T lo hi n a b u v m p q pl ph dl dh u0 u1 wi day) j)]), i (hgE c T lo hi n a b u v m p q pl ph dl dh u0 u1 wi day)]) := by
 refine soundAt_finX (G := []) (X := { R := [], H := [(21, H_trial), (23, (H_en c T lo hi n a b u v m p q pl ph dl dh u0 u1 wi day))] }) (L := [needSp [n ≤ 12, usB c u0 u1 wi = true, 0 ≤ day ∧ day ≤ 10000] (LS_ha c T lo hi n a b u v m p q pl ph dl dh u0 u1 wi day)]) (SoundG.nil _) (SoundX.of (SoundRL.nil _) (SoundHL.cons trial_okH (SoundHL.cons (en_okH c T lo hi n a b u v m p q pl ph dl dh u0 u1 wi day) (SoundHL.nil _)))) mixed Try.func12 (show Try.f12.body = some (bodyOf Try.f12) by kernel_rfl) (one_loop (lpE (b := .loop B_ha) (by kernel_rfl) <| (needSp_sound (ps := [n ≤ 12, usB c u0 u1 wi = true, 0 ≤ day ∧ day ≤ 10000]) (fun h => ha_ls c T lo hi n a b u v m p q pl ph dl dh u0 u1 wi day h.1 h.2.1 h.2.2)).N)) (t := (let z9 := (hgL c T lo hi n a b u v m p q pl ph dl dh u0 u1 wi day n); let z0 := (leaf (RV.tup [RV.lst 1 (List.length z9) fun j => [iI (nthJ z9 j)], RV.x (Value.int IntKind.i64 (0 : Int))])); let z1 := (hgL c T lo hi n a b u v m p q pl ph dl dh u0 u1 wi day 0); let z2 := (agg [iI c, iI T, iI lo, iI hi, lst 4 n (rq4 a b u v), lst 2 m fun k => [iI (p k), iI (q k)], iI pl, iI ph, iI dl, iI dh]); let z3 := asE c T lo hi n a b u v m p q pl ph dl dh u0 u1 wi day; let z4 := (lst 4 n (rq4 a b u v)); let z5 := (leaf (RV.tup [RV.x (Value.slice none 0 0), RV.x (Value.int IntKind.i64 (0 : Int))])); let z6 := (agg [iI u0, iI u1, iI wi]); let z7 := (wkA c T lo hi n a b u v m p q pl ph dl dh); let z8 := (AV.x (Value.slice none 0 0)); (need [isRec 4 n fun k => [Bo.i (a k), Bo.i (b k), Bo.i (u k), Bo.i (v k)], isRec 2 m fun k => [Pt.i (p k), Pt.i (q k)]] (branch (decide (z3 = (0 : Int))) (branch ((0 : Int) != (0 : Int)) (branch ((0 : Int) != (0 : Int)) z5 (need [n ≤ 12, usB c u0 u1 wi = true, (0 : Int) ≤ day ∧ day ≤ (10000 : Int)] (need [Eq1 z2, Eq1 z6, day = day, Eq1 (ptr 0 0), Eq1 (ptr 1 0), Eq1 z8, Eq1 (0 : Int), AV.x (Value.pointer none) = ptr 33 0, ptr 32 0 = ptr 47 0, Eq1 (0 : Int), AV.fn (Fn.func 23) [AV.x (Value.pointer none)] [] = AV.fn (Fn.func 23) [ptr 33 0] [], Eq1 (AV.row 900), Eq1 (↑n : Int), (0 : Int) = (↑(0 : Nat) : Int), 0 = List.length z1, ∀ (i : Nat), i < List.length z1 → [] = [Ytlinbkmpkcmniaa.i (nthJ z1 i)], False, False, False, c = c, T = T, lo = lo, hi = hi, z4 = lst 4 n (rq4 a b u v), (lst 2 m fun k => [iI (p k), iI (q k)]) = lst 2 m fun k => [iI (p k), iI (q k)], pl = pl, ph = ph, dl = dl, dh = dh] z0))) (need [drB z7, bdB z7, (1 : Int) ≤ c ∧ c ≤ (10 : Int), (0 : Int) ≤ u0 ∧ u0 ≤ u1 ∧ u1 ≤ (10 : Int), (0 : Int) ≤ wi ∧ wi ≤ (1000000 : Int), (0 : Int) ≤ day ∧ day ≤ (100000 : Int)] (branch (!keB c z7 u0 u1 wi day) (branch ((10 : Int) != (0 : Int)) (leaf (RV.tup [RV.x (Value.slice none 0 0), RV.x (Value.int IntKind.i64 (10 : Int))])) (need [n ≤ 12, usB c u0 u1 wi = true, (0 : Int) ≤ day ∧ day ≤ (10000 : Int)] (need [Eq1 z2, Eq1 z6, day = day, Eq1 (ptr 0 0), Eq1 (ptr 1 0), Eq1 z8, Eq1 (0 : Int), AV.x (Value.pointer none) = ptr 33 0, ptr 36 0 = ptr 47 0, (10 : Int) = 0, AV.fn (Fn.func 23) [AV.x (Value.pointer none)] [] = AV.fn (Fn.func 23) [ptr 33 0] [], Eq1 (AV.row 900), Eq1 (↑n : Int), (0 : Int) = (↑(0 : Nat) : Int), 0 = List.length z1, ∀ (i : Nat), i < List.length z1 → [] = [Ytlinbkmpkcmniaa.i (nthJ z1 i)], False, False, False, c = c, T = T, lo = lo, hi = hi, z4 = lst 4 n (rq4 a b u v), (lst 2 m fun k => [iI (p k), iI (q k)]) = lst 2 m fun k => [iI (p k), iI (q k)], pl = pl, ph = ph, dl = dl, dh = dh] z0))) (need [(0 : Int) ≤ (↑n : Int) ∧ (↑n : Int) ≤ 64, inI64 ((1 : Int) * 2 ^ n)] (need [inI64 ((1 : Int) * 2 ^ n - (1 : Int))] (branch ((0 : Int) != (0 : Int)) z5 (need [n ≤ 12, usB c u0 u1 wi = true, (0 : Int) ≤ day ∧ day ≤ (10000 : Int)] (need [Eq1 z2, Eq1 z6, day = day, Eq1 (ptr 0 0), Eq1 (ptr 1 0), Eq1 z8, Eq1 (0 : Int), Eq1 (ptr 33 0), Eq1 (ptr 47 0), Eq1 (0 : Int), Eq1 (AV.fn (Fn.func 23) [ptr 33 0] []), Eq1 (AV.row 900), Eq1 (↑n : Int), (0 : Int) = (↑(0 : Nat) : Int), 0 = List.length z1, ∀ (i : Nat), i < List.length z1 → [] = [Ytlinbkmpkcmniaa.i (nthJ z1 i)], (1 : Int) * 2 ^ n - (1 : Int) = whI n, ∀ (k : Value), False → enH k ∧ k = enF c T lo hi n a b u v m p q pl ph dl dh u0 u1 wi day k, c = c, T = T, lo = lo, hi = hi, z4 = lst 4 n (rq4 a b u v), (lst 2 m fun k => [iI (p k), iI (q k)]) = lst 2 m fun k => [iI (p k), iI (q k)], pl = pl, ph = ph, dl = dl, dh = dh, u0 = u0, u1 = u1, wi = wi, day = day, Eq1 (AV.mp 31), c = c, T = T, lo = lo, hi = hi, z4 = lst 4 n (rq4 a b u v), (lst 2 m fun k => [iI (p k), iI (q k)]) = lst 2 m fun k => [iI (p k), iI (q k)], pl = pl, ph = ph, dl = dl, dh = dh] z0)))))))) (branch (z3 != (0 : Int)) (branch (z3 != (0 : Int)) (leaf (RV.tup [RV.x (Value.slice none 0 0), RV.x (Value.int IntKind.i64 (z3))])) (need [n ≤ 12, usB c u0 u1 wi = true, (0 : Int) ≤ day ∧ day ≤ (10000 : Int)] (need [Eq1 z2, Eq1 z6, day = day, Eq1 (ptr 0 0), Eq1 (ptr 1 0), Eq1 z8, Eq1 (0 : Int), AV.x (Value.pointer none) = ptr 33 0, ptr 32 0 = ptr 47 0, z3 = (0 : Int), AV.fn (Fn.func 23) [AV.x (Value.pointer none)] [] = AV.fn (Fn.func 23) [ptr 33 0] [], Eq1 (AV.row 900), Eq1 (↑n : Int), (0 : Int) = (↑(0 : Nat) : Int), 0 = List.length z1, ∀ (i : Nat), i < List.length z1 → [] = [Ytlinbkmpkcmniaa.i (nthJ z1 i)], False, False, False, c = c, T = T, lo = lo, hi = hi, z4 = lst 4 n (rq4 a b u v), (lst 2 m fun k => [iI (p k), iI (q k)]) = lst 2 m fun k => [iI (p k), iI (q k)], pl = pl, ph = ph, dl = dl, dh = dh] z0))) Tree.fail))))) (by kernel_rfl) ?_
 simp only [Tree.sat, allP, fitP, fitL, valEq, true_and, and_true, decide_eq_true_eq, decide_eq_false_iff_not, bne_iff_ne, ne_eq, bne_eq_false_iff_eq, beq_iff_eq, beq_eq_false_iff_ne, Bool.not_eq_true', Bool.not_eq_false', not_true_eq_false, false_imp_iff, true_imp_iff]
 have ISR : (isRec 4 n fun k => [Bo.i (a k), Bo.i (b k), Bo.i (u k), Bo.i (v k)]) ∧ isRec 2 m fun k => [Pt.i (p k), Pt.i (q k)] := ⟨Bo.isRec4 n a b u v, Pt.isRec2 m p q⟩
 have eR : hgE c T lo hi n a b u v m p q pl ph dl dh u0 u1 wi day = 0 → hgR c T lo hi n a b u v m p q pl ph dl dh u0 u1 wi day = hgL c T lo hi n a b u v m p q pl ph dl dh u0 u1 wi day n := fun h => if_pos h
 have eN : ∀ k : Int, hgE c T lo hi n a b u v m p q pl ph dl dh u0 u1 wi day = k → k ≠ 0 → (isNil (Value.slice none 0 0) ∧ (hgR c T lo hi n a b u v m p q pl ph dl dh u0 u1 wi day).length = 0) ∧ k = hgE c T lo hi n a b u v m p q pl ph dl dh u0 u1 wi day := fun k h hk => by
  refine ⟨⟨by trivial, ?_⟩, h.symm⟩
  unfold hgR
  rw [if_neg (by rw [h]; exact hk)]
  rfl
 refine ⟨ISR, fun h => ⟨?_, fun h' => ⟨fun _ => eN 10 ?_ (by decide), fun h2 => absurd h2 (by decide)⟩, fun h' => ?_⟩, fun h => ⟨fun _ => ⟨fun _ => eN _ (if_neg h) h, fun h2 => absurd h2 h⟩, fun h2 => h h2⟩⟩
 ·obtain ⟨h1, h2, h3⟩ := asE_0 h
  have hw := wk_ok h1
  have hu := usB_iff.1 h2
  exact ⟨hw.1, hw.2.1, hw.2.2.1, by omega, by omega, by omega⟩
 ·unfold hgE
  rw [if_pos h, h']
  rfl
 ·obtain ⟨h1, h2, h3⟩ := asE_0 h
  have hn := (rdE_0 h1).1
  have hp := pow12 hn
  have h0 : hgE c T lo hi n a b u v m p q pl ph dl dh u0 u1 wi day = 0 := by
   unfold hgE
   rw [if_pos h, h']
   rfl
  rw [eR h0, h0]
  refine ⟨⟨by omega, ?_⟩, ?_, ⟨hn, h2, h3⟩, ⟨rfl, rfl, fun j hj => absurd hj (Nat.not_lt_zero _), rfl, fun _ => trivial⟩, ⟨rfl, fun j hj => ⟨rfl, fun x hx => ?_⟩⟩, rfl⟩
  ·simp only [inI64] at *
   omega
  ·simp only [inI64] at *
   omega
  ·cases List.mem_singleton.1 hx
   exact True.intro
def S_Hangs : Sx.Spec := fun l => match l with
 | [.agg [.x (.int .i64 c), .x (.int .i64 T), .x (.int .i64 lo), .x (.int .i64 hi), .lst 4 n fr, .lst 2 m ft, .x (.int .i64 pl), .x (.int .i64 ph), .x (.int .i64 dl), .x (.int .i64 dh)], .agg [.x (.int .i64 u0), .x (.int .i64 u1), .x (.int .i64 wi)], .x (.int .i64 day)] => some ([isRec 4 n fr, isRec 2 m ft], .tup [.lst 1 (hgR c T lo hi n (col 0 fr) (col 1 fr) (col 2 fr) (col 3 fr) m (Pt.col 0 ft) (Pt.col 1 ft) pl ph dl dh u0 u1 wi day).length (fun j => [i (nthJ (hgR c T lo hi n (col 0 fr) (col 1 fr) (col 2 fr) (col 3 fr) m (Pt.col 0 ft) (Pt.col 1 ft) pl ph dl dh u0 u1 wi day) j)]), i (hgE c T lo hi n (col 0 fr) (col 1 fr) (col 2 fr) (col 3 fr) m (Pt.col 0 ft) (Pt.col 1 ft) pl ph dl dh u0 u1 wi day)])
 | _ => none
theorem Hangs_ok : SoundSpec Try.prog 12 S_Hangs := by
 refine ⟨⟨_, Try.func12, by kernel_rfl, by kernel_rfl⟩, ?_⟩
 intro avs ns res h hn
 unfold S_Hangs at h
 split at h
 ·cases h
  have hr : isRec 4 _ _ := hn _ List.mem_cons_self
  have ht : isRec 2 _ _ := hn _ (List.mem_cons_of_mem _ List.mem_cons_self)
  exact (Hangs_at _ _ _ _ _ _ _ _ _ _ _ _ _ _ _ _ _ _ _ _ ).same (.cons (Sames.same (.cons (.refl _) (.cons (.refl _) (.cons (.refl _) (.cons (.refl _) (.cons (.lst 4 _ _ _ hr) (.cons (.lst 2 _ _ _ ht) (.cons (.refl _) (.cons (.refl _) (.cons (.refl _) (.cons (.refl _) .nil))))))))))) (.cons (.refl _) (.cons (.refl _) .nil)))
 ·cases h
end Go.Proofs.Ytlinbkmpkcmniaa
