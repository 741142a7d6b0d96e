/- Texts of this claim, put together: PtA, PtB, PtC, PtD, PtE, PtF, PtM, PtG, PtH, PtI, PtJ, PtK, PtN, PtO, BoA, BoB, BoC, BoD, BoE, BoF, BoG, BoH, BoI, BoJ, BoK, BoL -/
import Derived.Test.YtlinbkmpkcmniaaMj
import Derived.Test.YtlinbkmpkcmniaaRows
set_option linter.unusedSimpArgs false
set_option linter.unusedVariables false
set_option maxRecDepth 100000
namespace Go.Proofs.Ytlinbkmpkcmniaa.Pt
open Go Go.Sx Go.RowKit
open Go.Sx.Tree (need branch leaf)
open Go.Sx.AV (lst ptr agg roI tup top)
theorem mixed : Try.prog.follows .mixedOrders = true := by kernel_rfl
abbrev i (n : Int) : AV := .x (.int .i64 n)
abbrev iI (n : Int) : AV := .x (.int .i64 n)
abbrev bl (b : Bool) : AV := .x (.bool b)
def bt (lo n hi : Int) : Bool := decide (lo ≤ n) && decide (n ≤ hi)
def insB (lo a b hi : Int) : Bool := decide (lo ≤ a) && decide (a ≤ b) && decide (b ≤ hi)
theorem insB_iff (lo a b hi : Int) : insB lo a b hi = true ↔ lo ≤ a ∧ a ≤ b ∧ b ≤ hi := by simp [insB, and_assoc]
def scB (a b : Int) : Bool := bt (-1000) a 1000 && bt (-1000) b 1000 && (a != b)
theorem scB_iff (a b : Int) : scB a b = true ↔ -1000 ≤ a ∧ a ≤ 1000 ∧ -1000 ≤ b ∧ b ≤ 1000 ∧ a ≠ b := by simp [scB, bt, and_assoc]
def S_within : Sx.Spec := fun l => match l with
 | [.x (.int .i64 n), .x (.int .i64 lo), .x (.int .i64 hi)] => some ([], bl (bt lo n hi))
 | _ => none
theorem within_at (n lo hi : Int) : SoundAt Try.prog 60 [i n, i lo, i hi] (bl (bt lo n hi)) := by
 refine soundAt_fin (G := []) (L := []) (SoundG.nil _) mixed Try.func60 (show Try.f60.body = some (bodyOf Try.f60) by kernel_rfl) noLoops (t := (branch (decide (lo ≤ n)) (leaf (RV.x (Value.bool (decide (n ≤ hi))))) (leaf (RV.x (Value.bool false))))) (by kernel_rfl) ?_
 simp only [Tree.sat, allP, fitP, fitL, valEq, true_and, and_true]
 all_goals (simp +contextual [bt, insB, scB, Bool.and_assoc])
 all_goals omega
theorem within_ok : SoundSpec Try.prog 60 S_within := by
 refine ⟨⟨_, Try.func60, by kernel_rfl, by kernel_rfl⟩, ?_⟩
 intro avs ns res h hn
 unfold S_within at h
 split at h
 ·cases h
  exact within_at _ _ _
 ·cases h
def S_inside : Sx.Spec := fun l => match l with
 | [.agg [.x (.int .i64 a), .x (.int .i64 b)], .x (.int .i64 lo), .x (.int .i64 hi)] => some ([], bl (insB lo a b hi))
 | _ => none
theorem inside_at (a b lo hi : Int) : SoundAt Try.prog 67 [.agg [i a, i b], i lo, i hi] (bl (insB lo a b hi)) := by
 refine soundAt_fin (G := []) (L := []) (SoundG.nil _) mixed Try.func67 (show Try.f67.body = some (bodyOf Try.f67) by kernel_rfl) noLoops (t := (branch (decide (lo ≤ a)) (branch (decide (a ≤ b)) (leaf (RV.x (Value.bool (decide (b ≤ hi))))) (leaf (RV.x (Value.bool false)))) (leaf (RV.x (Value.bool false))))) (by kernel_rfl) ?_
 simp only [Tree.sat, allP, fitP, fitL, valEq, true_and, and_true]
 all_goals (simp +contextual [bt, insB, scB, Bool.and_assoc])
 all_goals omega
theorem inside_ok : SoundSpec Try.prog 67 S_inside := by
 refine ⟨⟨_, Try.func67, by kernel_rfl, by kernel_rfl⟩, ?_⟩
 intro avs ns res h hn
 unfold S_inside at h
 split at h
 ·cases h
  exact inside_at _ _ _ _
 ·cases h
def S_readings : Sx.Spec := fun l => match l with
 | [.agg [.x (.int .i64 a), .x (.int .i64 b)]] => some ([], bl (insB (-1000000) a b 1000000))
 | _ => none
theorem readings_at (a b : Int) : SoundAt Try.prog 62 [.agg [i a, i b]] (bl (insB (-1000000) a b 1000000)) := by
 refine soundAt_fin (G := [(67, S_inside)]) (L := []) (SoundG.cons inside_ok (SoundG.nil _)) mixed Try.func62 (show Try.f62.body = some (bodyOf Try.f62) by kernel_rfl) noLoops (t := (leaf (RV.x (Value.bool (insB (-1000000 : Int) a b (1000000 : Int)))))) (by kernel_rfl) ?_
 simp only [Tree.sat, allP, fitP, fitL, valEq, true_and, and_true]
 all_goals (simp +contextual [bt, insB, scB, Bool.and_assoc])
 all_goals omega
theorem readings_ok : SoundSpec Try.prog 62 S_readings := by
 refine ⟨⟨_, Try.func62, by kernel_rfl, by kernel_rfl⟩, ?_⟩
 intro avs ns res h hn
 unfold S_readings at h
 split at h
 ·cases h
  exact readings_at _ _
 ·cases h
def S_valid : Sx.Spec := fun l => match l with
 | [.agg [.x (.int .i64 a), .x (.int .i64 b)]] => some ([], bl (scB a b))
 | _ => none
theorem valid_at (a b : Int) : SoundAt Try.prog 46 [.agg [i a, i b]] (bl (scB a b)) := by
 refine soundAt_fin (G := [(60, S_within)]) (L := []) (SoundG.cons within_ok (SoundG.nil _)) mixed Try.func46 (show Try.f46.body = some (bodyOf Try.f46) by kernel_rfl) noLoops (t := (branch (bt (-1000 : Int) a (1000 : Int)) (branch (bt (-1000 : Int) b (1000 : Int)) (leaf (RV.x (Value.bool (a != b)))) (leaf (RV.x (Value.bool false)))) (leaf (RV.x (Value.bool false))))) (by kernel_rfl) ?_
 simp only [Tree.sat, allP, fitP, fitL, valEq, true_and, and_true]
 all_goals (simp +contextual [bt, insB, scB, Bool.and_assoc])
 all_goals omega
theorem valid_ok : SoundSpec Try.prog 46 S_valid := by
 refine ⟨⟨_, Try.func46, by kernel_rfl, by kernel_rfl⟩, ?_⟩
 intro avs ns res h hn
 unfold S_valid at h
 split at h
 ·cases h
  exact valid_at _ _
 ·cases h
def S_CheckScale : Sx.Spec := fun l => match l with
 | [.agg [.x (.int .i64 a), .x (.int .i64 b)]] => some ([], i (if scB a b then 0 else 1))
 | _ => none
theorem CheckScale_at (a b : Int) : SoundAt Try.prog 28 [.agg [i a, i b]] (i (if scB a b then 0 else 1)) := by
 refine soundAt_fin (G := [(46, S_valid)]) (L := []) (SoundG.cons valid_ok (SoundG.nil _)) mixed Try.func28 (show Try.f28.body = some (bodyOf Try.f28) by kernel_rfl) noLoops (t := (branch (!scB a b) (leaf (RV.x (Value.int IntKind.i64 (1 : Int)))) (leaf (RV.x (Value.int IntKind.i64 (0 : Int)))))) (by kernel_rfl) ?_
 simp only [Tree.sat, fitP, valEq]
 cases scB a b <;> simp
theorem CheckScale_ok : SoundSpec Try.prog 28 S_CheckScale := by
 refine ⟨⟨_, Try.func28, by kernel_rfl, by kernel_rfl⟩, ?_⟩
 intro avs ns res h hn
 unfold S_CheckScale at h
 split at h
 ·cases h
  exact CheckScale_at _ _
 ·cases h
def sizeI (a b : Int) : Int := if b > a then 2 * (b - a) else 2 * (a - b)
def alLo (a b lo hi : Int) : Int := if b > a then 2 * lo - 1 - 2 * a else 2 * a - (2 * hi + 1)
def alHi (a b lo hi : Int) : Int := if b > a then 2 * hi + 1 - 2 * a else 2 * a - (2 * lo - 1)
end Go.Proofs.Ytlinbkmpkcmniaa.Pt
namespace Go.Proofs.Ytlinbkmpkcmniaa.Pt
open Go Go.Sx Go.RowKit
open Go.Sx.Tree (need branch leaf)
open Go.Sx.AV (lst ptr agg roI tup top)
def ceI (n d : Int) : Int := -((-n) / d)
theorem div_facts (a b : Int) (hb : 0 < b) : ∃ m, a.tmod b = m ∧ a.tdiv b * b = a - m ∧ (0 ≤ a → 0 ≤ m ∧ m < b) ∧ (a ≤ 0 → -b < m ∧ m ≤ 0) ∧
  (0 ≤ m → a / b = a.tdiv b) ∧ (m < 0 → a / b = a.tdiv b - 1) ∧ (m ≤ 0 → ceI a b = a.tdiv b) ∧ (0 < m → ceI a b = a.tdiv b + 1) ∧ (0 ≤ a → 0 ≤ a.tdiv b ∧ a.tdiv b ≤ a) ∧ (a ≤ 0 → a ≤ a.tdiv b ∧ a.tdiv b ≤ 0) := by
 have h1 := Int.mul_tdiv_add_tmod a b
 have key : ∀ t m : Int, b * t + m = a → 0 ≤ m → m < b → a / b = t := by
  intro t m h h0 hlt
  rw [← h, Int.mul_add_ediv_left _ _ (by omega), Int.ediv_eq_zero_of_lt h0 hlt]; omega
 have keyN : ∀ t m : Int, b * t + m = -a → 0 ≤ m → m < b → (-a) / b = t := by
  intro t m h h0 hlt
  rw [← h, Int.mul_add_ediv_left _ _ (by omega), Int.ediv_eq_zero_of_lt h0 hlt]; omega
 have hpos : 0 ≤ a → 0 ≤ a.tmod b ∧ a.tmod b < b := by
  intro ha
  rw [Int.tmod_eq_emod_of_nonneg ha]
  exact ⟨Int.emod_nonneg _ (by omega), Int.emod_lt_of_pos _ hb⟩
 have hneg : a ≤ 0 → -b < a.tmod b ∧ a.tmod b ≤ 0 := by
  intro ha
  have e : a.tmod b = -((-a).tmod b) := by rw [Int.neg_tmod]; omega
  rw [e, Int.tmod_eq_emod_of_nonneg (by omega)]
  have g1 := Int.emod_nonneg (-a) (show b ≠ 0 by omega)
  have g2 := Int.emod_lt_of_pos (-a) hb
  omega
 generalize a.tmod b = m at *
 generalize a.tdiv b = t at *
 have hbt : t * b = b * t := Int.mul_comm _ _
 have hbt1 : b * (t - 1) = b * t - b := by rw [Int.mul_sub, Int.mul_one]
 have hbt2 : b * (t + 1) = b * t + b := by rw [Int.mul_add, Int.mul_one]
 have hnt : b * (-t) = -(b * t) := by rw [Int.mul_neg]
 have hnt1 : b * (-t - 1) = -(b * t) - b := by rw [Int.mul_sub, Int.mul_neg, Int.mul_one]
 refine ⟨m, rfl, by omega, hpos, hneg, ?_, ?_, ?_, ?_, ?_, ?_⟩
 ·intro hm
  by_cases ha : 0 ≤ a
  ·exact key t m h1 hm (hpos ha).2
  ·have := hneg (by omega); exact key t m h1 hm (by omega)
 ·intro hm
  have : ¬ 0 ≤ a := fun ha => by have := hpos ha; omega
  have := hneg (by omega)
  exact key (t - 1) (b + m) (by omega) (by omega) (by omega)
 ·intro hm
  have : (-a) / b = -t := by
   refine keyN (-t) (-m) (by omega) (by omega) ?_
   by_cases ha : 0 ≤ a
   ·have := hpos ha; omega
   ·have := hneg (by omega); omega
  unfold ceI; omega
 ·intro hm
  have ha : 0 ≤ a := by
   by_cases ha : 0 ≤ a
   ·exact ha
   ·have := hneg (by omega); omega
  have := hpos ha
  have : (-a) / b = -t - 1 := keyN (-t - 1) (b - m) (by omega) (by omega) (by omega)
  unfold ceI; omega
 ·intro ha
  have hm := hpos ha
  have h2 := key t m h1 hm.1 hm.2
  have g1 := Int.ediv_nonneg ha (show 0 ≤ b by omega)
  have g2 := Int.ediv_le_self b ha
  omega
 ·intro ha
  have hm := hneg ha
  have h2 : (-a) / b = -t := keyN (-t) (-m) (by omega) (by omega) (by omega)
  have g1 := Int.ediv_nonneg (show 0 ≤ -a by omega) (show 0 ≤ b by omega)
  have g2 := Int.ediv_le_self b (show 0 ≤ -a by omega)
  omega
def S_qdown : Sx.Spec := fun l => match l with
 | [.agg [.x (.int .i64 a), .x (.int .i64 b)]] => some ([-4611686018427387904 ≤ a ∧ a ≤ 4611686018427387904, 1 ≤ b], i (a / b))
 | _ => none
theorem qdown_at (a b : Int) (pre0 : -4611686018427387904 ≤ a ∧ a ≤ 4611686018427387904) (pre1 : 1 ≤ b) : SoundAt Try.prog 91 [.agg [i a, i b]] (i (a / b)) := by
 refine soundAt_fin (G := []) (L := []) (SoundG.nil _) mixed Try.func91 (show Try.f91.body = some (bodyOf Try.f91) by kernel_rfl) noLoops (t := (branch (decide (a < (0 : Int))) (need [b ≠ (0 : Int)] (branch (Int.tmod a b != (0 : Int)) (need [b ≠ (0 : Int), inI64 (Int.tdiv a b)] (need [inI64 (Int.tdiv a b - (1 : Int))] (leaf (RV.x (Value.int IntKind.i64 (Int.tdiv a b - (1 : Int))))))) (need [b ≠ (0 : Int), inI64 (Int.tdiv a b)] (leaf (RV.x (Value.int IntKind.i64 (Int.tdiv a b))))))) (need [b ≠ (0 : Int), inI64 (Int.tdiv a b)] (leaf (RV.x (Value.int IntKind.i64 (Int.tdiv a b))))))) (by kernel_rfl) ?_
 obtain ⟨m, hm, h1, h2, h3, h4, h5, h6, h7, h8, h9⟩ := div_facts a b (by omega)
 simp only [Tree.sat, allP, fitP, fitL, valEq, inI64, true_and, and_true, decide_eq_true_eq, decide_eq_false_iff_not, hm, bne_iff_ne, ne_eq, bne_eq_false_iff_eq]
 omega
theorem qdown_ok : SoundSpec Try.prog 91 S_qdown := by
 refine ⟨⟨_, Try.func91, by kernel_rfl, by kernel_rfl⟩, ?_⟩
 intro avs ns res h hn
 unfold S_qdown at h
 split at h
 ·cases h
  exact qdown_at _ _ (hn _ (by simp)) (hn _ (by simp))
 ·cases h
def S_qup : Sx.Spec := fun l => match l with
 | [.agg [.x (.int .i64 a), .x (.int .i64 b)]] => some ([-4611686018427387904 ≤ a ∧ a ≤ 4611686018427387904, 1 ≤ b], i (ceI a b))
 | _ => none
theorem qup_at (a b : Int) (pre0 : -4611686018427387904 ≤ a ∧ a ≤ 4611686018427387904) (pre1 : 1 ≤ b) : SoundAt Try.prog 90 [.agg [i a, i b]] (i (ceI a b)) := by
 refine soundAt_fin (G := [(91, S_qdown)]) (L := []) (SoundG.cons qdown_ok (SoundG.nil _)) mixed Try.func90 (show Try.f90.body = some (bodyOf Try.f90) by kernel_rfl) noLoops (t := (need [inI64 (-a)] (need [(-4611686018427387904 : Int) ≤ -a ∧ -a ≤ (4611686018427387904 : Int), (1 : Int) ≤ b] (need [inI64 (-(-a / b))] (leaf (RV.x (Value.int IntKind.i64 (-(-a / b))))))))) (by kernel_rfl) ?_
 have hb : ceI a b = -((-a) / b) := rfl
 obtain ⟨m, hm, h1, h2, h3, h4, h5, h6, h7, h8, h9⟩ := div_facts (-a) b (by omega)
 simp only [Tree.sat, allP, fitP, fitL, valEq, inI64, true_and, and_true]
 omega
theorem qup_ok : SoundSpec Try.prog 90 S_qup := by
 refine ⟨⟨_, Try.func90, by kernel_rfl, by kernel_rfl⟩, ?_⟩
 intro avs ns res h hn
 unfold S_qup at h
 split at h
 ·cases h
  exact qup_at _ _ (hn _ (by simp)) (hn _ (by simp))
 ·cases h
def S_pdown : Sx.Spec := fun l => match l with
 | [] => some ([], .agg [.fn (.func 91) [] []])
 | _ => none
theorem pdown_at  : SoundAt Try.prog 81 [] (.agg [.fn (.func 91) [] []]) := by
 refine soundAt_fin (G := []) (L := []) (SoundG.nil _) mixed Try.func81 (show Try.f81.body = some (bodyOf Try.f81) by kernel_rfl) noLoops (t := (leaf (RV.agg [RV.fn (Fn.func 91)]))) (by kernel_rfl) ?_
 simp only [Tree.sat, allP, fitP, fitL, valEq, inI64, true_and, and_true]
 all_goals first | omega | grind
theorem pdown_ok : SoundSpec Try.prog 81 S_pdown := by
 refine ⟨⟨_, Try.func81, by kernel_rfl, by kernel_rfl⟩, ?_⟩
 intro avs ns res h hn
 unfold S_pdown at h
 split at h
 ·cases h
  exact pdown_at 
 ·cases h
def S_pup : Sx.Spec := fun l => match l with
 | [] => some ([], .agg [.fn (.func 90) [] []])
 | _ => none
theorem pup_at  : SoundAt Try.prog 79 [] (.agg [.fn (.func 90) [] []]) := by
 refine soundAt_fin (G := []) (L := []) (SoundG.nil _) mixed Try.func79 (show Try.f79.body = some (bodyOf Try.f79) by kernel_rfl) noLoops (t := (leaf (RV.agg [RV.fn (Fn.func 90)]))) (by kernel_rfl) ?_
 simp only [Tree.sat, allP, fitP, fitL, valEq, inI64, true_and, and_true]
 all_goals first | omega | grind
theorem pup_ok : SoundSpec Try.prog 79 S_pup := by
 refine ⟨⟨_, Try.func79, by kernel_rfl, by kernel_rfl⟩, ?_⟩
 intro avs ns res h hn
 unfold S_pup at h
 split at h
 ·cases h
  exact pup_at 
 ·cases h
theorem sMin_at (a b : Int) : SoundAt Try.prog 50 [.lst 1 2 (fun k => [i (if k = 0 then a else b)])] (i (min a b)) := by
 refine soundAt_fin (G := []) (L := [fun s => some (unrollT Try.prog [] [] (loopBody (loopAt (bodyOf Try.f50) 0)) 3 s)]) (SoundG.nil _) mixed Try.func50 (show Try.f50.body = some (bodyOf Try.f50) by kernel_rfl) (one_loop (lpE (b := .loop (loopBody (loopAt (bodyOf Try.f50) 0))) (by kernel_rfl) <| unroll_sound (SoundG.nil _) mixed noLoops _)) (t := (let z0 := (min (if Int.toNat (0 : Int) = 0 then a else b) (if Int.toNat (1 : Int) = 0 then a else b)); (branch (decide ((↑(2 : Nat) : Int) < 1)) Tree.fail (need [(0 : Int) ≤ 0 ∧ (0 : Int) < (↑(2 : Nat) : Int)] (branch (decide ((1 : Int) < (↑(2 : Nat) : Int))) (need [(0 : Int) ≤ 1 ∧ (1 : Int) < (↑(2 : Nat) : Int)] (need [inI64 ((1 : Int) + 1)] (branch (decide ((1 : Int) + 1 < (↑(2 : Nat) : Int))) (need [(0 : Int) ≤ 1 + (1 : Int) ∧ (1 : Int) + 1 < (↑(2 : Nat) : Int)] (need [inI64 ((1 : Int) + 1 + 1)] (branch (decide ((1 : Int) + 1 + 1 < (↑(2 : Nat) : Int))) (need [(0 : Int) ≤ 1 + (1 : Int) + 1 ∧ (1 : Int) + 1 + 1 < (↑(2 : Nat) : Int)] (need [inI64 ((1 : Int) + 1 + 1 + 1)] Tree.fail)) (leaf (RV.x (Value.int IntKind.i64 (min z0 (if Int.toNat ((1 : Int) + 1) = 0 then a else b)))))))) (leaf (RV.x (Value.int IntKind.i64 z0)))))) (leaf (RV.x (Value.int IntKind.i64 (if Int.toNat (0 : Int) = 0 then a else b))))))))) (by kernel_rfl) ?_
 simp [Tree.sat, allP, fitP, fitL, valEq, inI64]
theorem sMax_at (a b : Int) : SoundAt Try.prog 51 [.lst 1 2 (fun k => [i (if k = 0 then a else b)])] (i (max a b)) := by
 refine soundAt_fin (G := []) (L := [fun s => some (unrollT Try.prog [] [] (loopBody (loopAt (bodyOf Try.f51) 0)) 3 s)]) (SoundG.nil _) mixed Try.func51 (show Try.f51.body = some (bodyOf Try.f51) by kernel_rfl) (one_loop (lpE (b := .loop (loopBody (loopAt (bodyOf Try.f51) 0))) (by kernel_rfl) <| unroll_sound (SoundG.nil _) mixed noLoops _)) (t := (let z0 := (max (if Int.toNat (0 : Int) = 0 then a else b) (if Int.toNat (1 : Int) = 0 then a else b)); (branch (decide ((↑(2 : Nat) : Int) < 1)) Tree.fail (need [(0 : Int) ≤ 0 ∧ (0 : Int) < (↑(2 : Nat) : Int)] (branch (decide ((1 : Int) < (↑(2 : Nat) : Int))) (need [(0 : Int) ≤ 1 ∧ (1 : Int) < (↑(2 : Nat) : Int)] (need [inI64 ((1 : Int) + 1)] (branch (decide ((1 : Int) + 1 < (↑(2 : Nat) : Int))) (need [(0 : Int) ≤ 1 + (1 : Int) ∧ (1 : Int) + 1 < (↑(2 : Nat) : Int)] (need [inI64 ((1 : Int) + 1 + 1)] (branch (decide ((1 : Int) + 1 + 1 < (↑(2 : Nat) : Int))) (need [(0 : Int) ≤ 1 + (1 : Int) + 1 ∧ (1 : Int) + 1 + 1 < (↑(2 : Nat) : Int)] (need [inI64 ((1 : Int) + 1 + 1 + 1)] Tree.fail)) (leaf (RV.x (Value.int IntKind.i64 (max z0 (if Int.toNat ((1 : Int) + 1) = 0 then a else b)))))))) (leaf (RV.x (Value.int IntKind.i64 z0)))))) (leaf (RV.x (Value.int IntKind.i64 (if Int.toNat (0 : Int) = 0 then a else b))))))))) (by kernel_rfl) ?_
 simp [Tree.sat, allP, fitP, fitL, valEq, inI64]
end Go.Proofs.Ytlinbkmpkcmniaa.Pt
namespace Go.Proofs.Ytlinbkmpkcmniaa.Pt
open Go Go.Sx Go.RowKit
open Go.Sx.Tree (need branch leaf)
open Go.Sx.AV (lst ptr agg roI tup top)
def S_sMin : Sx.Spec := fun l => match l with
 | [.lst 1 2 f] => (match f 0, f 1 with
  | [.x (.int .i64 a)], [.x (.int .i64 b)] => some ([], i (min a b))
  | _, _ => none)
 | _ => none
theorem sMin_ok : SoundSpec Try.prog 50 S_sMin := by
 refine ⟨⟨_, Try.func50, by kernel_rfl, by kernel_rfl⟩, ?_⟩
 intro avs ns res h hn
 unfold S_sMin at h
 split at h
 ·rename_i f
  split at h
  ·rename_i a b h0 h1
   cases h
   refine (sMin_at a b).same (.cons (.lst 1 2 _ _ ?_) .nil)
   intro k hk
   rcases (show k = 0 ∨ k = 1 by omega) with rfl | rfl
   ·exact h0
   ·exact h1
  ·cases h
 ·cases h
def S_sMax : Sx.Spec := fun l => match l with
 | [.lst 1 2 f] => (match f 0, f 1 with
  | [.x (.int .i64 a)], [.x (.int .i64 b)] => some ([], i (max a b))
  | _, _ => none)
 | _ => none
theorem sMax_ok : SoundSpec Try.prog 51 S_sMax := by
 refine ⟨⟨_, Try.func51, by kernel_rfl, by kernel_rfl⟩, ?_⟩
 intro avs ns res h hn
 unfold S_sMax at h
 split at h
 ·rename_i f
  split at h
  ·rename_i a b h0 h1
   cases h
   refine (sMax_at a b).same (.cons (.lst 1 2 _ _ ?_) .nil)
   intro k hk
   rcases (show k = 0 ∨ k = 1 by omega) with rfl | rfl
   ·exact h0
   ·exact h1
  ·cases h
 ·cases h
theorem least_at (a b : Int) : SoundAt Try.prog 80 [.lst 1 2 (fun k => [i (if k = 0 then a else b)])] (i (min a b)) := by
 refine soundAt_fin (G := [(50, S_sMin)]) (L := []) (SoundG.cons sMin_ok (SoundG.nil _)) mixed Try.func80 (show Try.f80.body = some (bodyOf Try.f80) by kernel_rfl) noLoops (t := (leaf (RV.x (Value.int IntKind.i64 (min (if 0 = 0 then a else b) (if 1 = 0 then a else b)))))) (by kernel_rfl) ?_
 simp [Tree.sat, fitP, valEq]
def S_least : Sx.Spec := S_sMin
theorem least_ok : SoundSpec Try.prog 80 S_least := by
 refine ⟨⟨_, Try.func80, by kernel_rfl, by kernel_rfl⟩, ?_⟩
 intro avs ns res h hn
 unfold S_least S_sMin at h
 split at h
 ·rename_i f
  split at h
  ·rename_i a b h0 h1
   cases h
   refine (least_at a b).same (.cons (.lst 1 2 _ _ ?_) .nil)
   intro k hk
   rcases (show k = 0 ∨ k = 1 by omega) with rfl | rfl
   ·exact h0
   ·exact h1
  ·cases h
 ·cases h
theorem greatest_at (a b : Int) : SoundAt Try.prog 82 [.lst 1 2 (fun k => [i (if k = 0 then a else b)])] (i (max a b)) := by
 refine soundAt_fin (G := [(51, S_sMax)]) (L := []) (SoundG.cons sMax_ok (SoundG.nil _)) mixed Try.func82 (show Try.f82.body = some (bodyOf Try.f82) by kernel_rfl) noLoops (t := (leaf (RV.x (Value.int IntKind.i64 (max (if 0 = 0 then a else b) (if 1 = 0 then a else b)))))) (by kernel_rfl) ?_
 simp [Tree.sat, fitP, valEq]
def S_greatest : Sx.Spec := S_sMax
theorem greatest_ok : SoundSpec Try.prog 82 S_greatest := by
 refine ⟨⟨_, Try.func82, by kernel_rfl, by kernel_rfl⟩, ?_⟩
 intro avs ns res h hn
 unfold S_greatest S_sMax at h
 split at h
 ·rename_i f
  split at h
  ·rename_i a b h0 h1
   cases h
   refine (greatest_at a b).same (.cons (.lst 1 2 _ _ ?_) .nil)
   intro k hk
   rcases (show k = 0 ∨ k = 1 by omega) with rfl | rfl
   ·exact h0
   ·exact h1
  ·cases h
 ·cases h
def S_rod : Sx.Spec := fun l => match l with
 | [.agg [.x (.int .i64 a), .x (.int .i64 b)]] => some ([-1000 ≤ a ∧ a ≤ 1000 ∧ -1000 ≤ b ∧ b ≤ 1000], .agg [i a, i b, i (sizeI a b)])
 | _ => none
theorem rod_at (a b : Int) (pre0 : -1000 ≤ a ∧ a ≤ 1000 ∧ -1000 ≤ b ∧ b ≤ 1000) : SoundAt Try.prog 77 [.agg [i a, i b]] (.agg [i a, i b, i (sizeI a b)]) := by
 refine soundAt_fin (G := [(82, S_greatest)]) (L := []) (SoundG.cons greatest_ok (SoundG.nil _)) mixed Try.func77 (show Try.f77.body = some (bodyOf Try.f77) by kernel_rfl) noLoops (t := (need [inI64 (b - a)] (need [inI64 (-(b - a))] (need [inI64 ((2 : Int) * max (b - a) (-(b - a)))] (leaf (RV.agg [RV.x (Value.int IntKind.i64 a), RV.x (Value.int IntKind.i64 b), RV.x (Value.int IntKind.i64 ((2 : Int) * max (b - a) (-(b - a))))])))))) (by kernel_rfl) ?_
 simp only [Tree.sat, allP, fitP, fitL, valEq, inI64, true_and, and_true, sizeI]
 split <;> omega
theorem rod_ok : SoundSpec Try.prog 77 S_rod := by
 refine ⟨⟨_, Try.func77, by kernel_rfl, by kernel_rfl⟩, ?_⟩
 intro avs ns res h hn
 unfold S_rod at h
 split at h
 ·cases h
  exact rod_at _ _ (hn _ (by simp))
 ·cases h
def S_heights : Sx.Spec := fun l => match l with
 | [.agg [.x (.int .i64 a), .x (.int .i64 b), .x (.int .i64 c)], .agg [.x (.int .i64 lo), .x (.int .i64 hi)]] => some ([-1000 ≤ a ∧ a ≤ 1000 ∧ -1000 ≤ b ∧ b ≤ 1000 ∧ a ≠ b, -100000000 ≤ lo ∧ lo ≤ hi ∧ hi ≤ 100000000], .agg [i (alLo a b lo hi), i (alHi a b lo hi)])
 | _ => none
theorem heights_at (a b c lo hi : Int) (pre0 : -1000 ≤ a ∧ a ≤ 1000 ∧ -1000 ≤ b ∧ b ≤ 1000 ∧ a ≠ b) (pre1 : -100000000 ≤ lo ∧ lo ≤ hi ∧ hi ≤ 100000000) : SoundAt Try.prog 78 [.agg [i a, i b, i c], .agg [i lo, i hi]] (.agg [i (alLo a b lo hi), i (alHi a b lo hi)]) := by
 refine soundAt_fin (G := []) (L := []) (SoundG.nil _) mixed Try.func78 (show Try.f78.body = some (bodyOf Try.f78) by kernel_rfl) noLoops (t := (need [inI64 ((2 : Int) * lo)] (need [inI64 ((2 : Int) * lo - (1 : Int))] (need [inI64 ((2 : Int) * a)] (need [inI64 ((2 : Int) * lo - (1 : Int) - 2 * a)] (need [inI64 ((2 : Int) * hi)] (need [inI64 ((2 : Int) * hi + (1 : Int))] (need [inI64 ((2 : Int) * a)] (need [inI64 ((2 : Int) * hi + (1 : Int) - 2 * a)] (branch (decide (b < a)) (need [inI64 (-((2 : Int) * hi + (1 : Int) - 2 * a))] (need [inI64 (-((2 : Int) * lo - (1 : Int) - 2 * a))] (leaf (RV.agg [RV.x (Value.int IntKind.i64 (-((2 : Int) * hi + (1 : Int) - 2 * a))), RV.x (Value.int IntKind.i64 (-((2 : Int) * lo - (1 : Int) - 2 * a)))])))) (leaf (RV.agg [RV.x (Value.int IntKind.i64 ((2 : Int) * lo - (1 : Int) - 2 * a)), RV.x (Value.int IntKind.i64 ((2 : Int) * hi + (1 : Int) - 2 * a))])))))))))))) (by kernel_rfl) ?_
 simp only [Tree.sat, allP, fitP, fitL, valEq, inI64, true_and, and_true, alLo, alHi, decide_eq_true_eq, decide_eq_false_iff_not]
 split <;> omega
theorem heights_ok : SoundSpec Try.prog 78 S_heights := by
 refine ⟨⟨_, Try.func78, by kernel_rfl, by kernel_rfl⟩, ?_⟩
 intro avs ns res h hn
 unfold S_heights at h
 split at h
 ·cases h
  exact heights_at _ _ _ _ _ (hn _ (by simp)) (hn _ (by simp))
 ·cases h
theorem sizeI_pos {a b : Int} (h : a ≠ b) : 2 ≤ sizeI a b := by unfold sizeI; split <;> omega
theorem sizeI_le {a b : Int} (h : -1000 ≤ a ∧ a ≤ 1000 ∧ -1000 ≤ b ∧ b ≤ 1000) : sizeI a b ≤ 4000 := by unfold sizeI; split <;> omega
theorem mul_bd {x y X Y : Int} (hx : -X ≤ x ∧ x ≤ X) (hy : -Y ≤ y ∧ y ≤ Y) : -(X * Y) ≤ x * y ∧ x * y ≤ X * Y := by
 have h1 : x.natAbs ≤ X.natAbs := by omega
 have h2 : y.natAbs ≤ Y.natAbs := by omega
 have h3 : (x * y).natAbs ≤ (X * Y).natAbs := by rw [Int.natAbs_mul, Int.natAbs_mul]; exact Nat.mul_le_mul h1 h2
 have h4 : 0 ≤ X * Y := Int.mul_nonneg (by omega) (by omega)
 omega
theorem div_bd {n d N : Int} (hd : 1 ≤ d) (h : -N ≤ n ∧ n ≤ N) : -N ≤ n / d ∧ n / d ≤ N := by
 have hN : 0 ≤ N := by omega
 have hm : N * 1 ≤ N * d := Int.mul_le_mul_of_nonneg_left hd hN
 constructor
 ·rw [Int.le_ediv_iff_mul_le (by omega), Int.neg_mul]; omega
 ·exact Int.ediv_le_of_le_mul (by omega) (by omega)
theorem ce_bd {n d N : Int} (hd : 1 ≤ d) (h : -N ≤ n ∧ n ≤ N) : -N ≤ ceI n d ∧ ceI n d ≤ N := by
 have := div_bd (n := -n) hd (show -N ≤ -n ∧ -n ≤ N by omega)
 unfold ceI; omega
def stA (a b c d lo hi : Int) : Int := min (alLo a b lo hi * (d - c)) (alHi a b lo hi * (d - c)) - sizeI a b / 2
def stB (a b c d lo hi : Int) : Int := max (alLo a b lo hi * (d - c)) (alHi a b lo hi * (d - c)) + sizeI a b / 2
def stLo (a b c d lo hi : Int) : Int := c + ceI (stA a b c d lo hi) (sizeI a b)
def stHi (a b c d lo hi : Int) : Int := c + stB a b c d lo hi / sizeI a b
theorem scB_bd {a b : Int} (h : scB a b = true) : -1000 ≤ a ∧ a ≤ 1000 ∧ -1000 ≤ b ∧ b ≤ 1000 ∧ a ≠ b := (scB_iff a b).1 h
theorem st_bd {a b c d lo hi : Int} (h : -1000 ≤ a ∧ a ≤ 1000 ∧ -1000 ≤ b ∧ b ≤ 1000 ∧ a ≠ b) (k : -1000 ≤ c ∧ c ≤ 1000 ∧ -1000 ≤ d ∧ d ≤ 1000 ∧ c ≠ d) (r : -1000000 ≤ lo ∧ lo ≤ hi ∧ hi ≤ 1000000) :
  (-8000000000 ≤ alLo a b lo hi * (d - c) ∧ alLo a b lo hi * (d - c) ≤ 8000000000) ∧ (-8000000000 ≤ alHi a b lo hi * (d - c) ∧ alHi a b lo hi * (d - c) ≤ 8000000000) ∧ (2 ≤ sizeI a b ∧ sizeI a b ≤ 4000) ∧
  (-9000000000 ≤ stA a b c d lo hi ∧ stA a b c d lo hi ≤ 9000000000) ∧ (-9000000000 ≤ stB a b c d lo hi ∧ stB a b c d lo hi ≤ 9000000000) ∧
  (-10000000000 ≤ stLo a b c d lo hi ∧ stLo a b c d lo hi ≤ 10000000000) ∧ (-10000000000 ≤ stHi a b c d lo hi ∧ stHi a b c d lo hi ≤ 10000000000) := by
 have e1 : -4000000 ≤ alLo a b lo hi ∧ alLo a b lo hi ≤ 4000000 := by unfold alLo; split <;> omega
 have e2 : -4000000 ≤ alHi a b lo hi ∧ alHi a b lo hi ≤ 4000000 := by unfold alHi; split <;> omega
 have e3 : -2000 ≤ d - c ∧ d - c ≤ 2000 := by omega
 have m1 := mul_bd e1 e3
 have m2 := mul_bd e2 e3
 have s1 := sizeI_pos h.2.2.2.2
 have s2 := sizeI_le (a := a) (b := b) (by omega)
 have hA : -9000000000 ≤ stA a b c d lo hi ∧ stA a b c d lo hi ≤ 9000000000 := by unfold stA; omega
 have hB : -9000000000 ≤ stB a b c d lo hi ∧ stB a b c d lo hi ≤ 9000000000 := by unfold stB; omega
 have hC := ce_bd (d := sizeI a b) (by omega) hA
 have hD := div_bd (d := sizeI a b) (by omega) hB
 refine ⟨by omega, by omega, by omega, hA, hB, ?_, ?_⟩
 ·unfold stLo; omega
 ·unfold stHi; omega
def S_stand : Sx.Spec := fun l => match l with
 | [.agg [.x (.int .i64 a), .x (.int .i64 b)], .agg [.x (.int .i64 c), .x (.int .i64 d)], .agg [.x (.int .i64 lo), .x (.int .i64 hi)]] => some ([-1000 ≤ a ∧ a ≤ 1000 ∧ -1000 ≤ b ∧ b ≤ 1000 ∧ a ≠ b, -1000 ≤ c ∧ c ≤ 1000 ∧ -1000 ≤ d ∧ d ≤ 1000 ∧ c ≠ d, -1000000 ≤ lo ∧ lo ≤ hi ∧ hi ≤ 1000000], .agg [i (stLo a b c d lo hi), i (stHi a b c d lo hi)])
 | _ => none
theorem stand_at (a b c d lo hi : Int) (pre0 : -1000 ≤ a ∧ a ≤ 1000 ∧ -1000 ≤ b ∧ b ≤ 1000 ∧ a ≠ b) (pre1 : -1000 ≤ c ∧ c ≤ 1000 ∧ -1000 ≤ d ∧ d ≤ 1000 ∧ c ≠ d) (pre2 : -1000000 ≤ lo ∧ lo ≤ hi ∧ hi ≤ 1000000) : SoundAt Try.prog 64 [.agg [i a, i b], .agg [i c, i d], .agg [i lo, i hi]] (.agg [i (stLo a b c d lo hi), i (stHi a b c d lo hi)]) := by
 refine soundAt_fin (G := [(77, S_rod), (78, S_heights), (80, S_least), (82, S_greatest), (81, S_pdown), (79, S_pup), (91, S_qdown), (90, S_qup)]) (L := []) (SoundG.cons rod_ok (SoundG.cons heights_ok (SoundG.cons least_ok (SoundG.cons greatest_ok (SoundG.cons pdown_ok (SoundG.cons pup_ok (SoundG.cons qdown_ok (SoundG.cons qup_ok (SoundG.nil _))))))))) mixed Try.func64 (show Try.f64.body = some (bodyOf Try.f64) by kernel_rfl) noLoops (t := (let z0 := alLo a b lo hi; let z1 := alHi a b lo hi; (need [(-1000 : Int) ≤ a ∧ a ≤ (1000 : Int) ∧ (-1000 : Int) ≤ b ∧ b ≤ (1000 : Int)] (need [(-1000 : Int) ≤ a ∧ a ≤ (1000 : Int) ∧ (-1000 : Int) ≤ b ∧ b ≤ (1000 : Int) ∧ a ≠ b, (-100000000 : Int) ≤ lo ∧ lo ≤ hi ∧ hi ≤ (100000000 : Int)] (need [inI64 (d - c)] (need [inI64 (z0 * (d - c))] (need [inI64 (z1 * (d - c))] (need [(2 : Int) ≠ (0 : Int), inI64 (Int.tdiv (sizeI a b) (2 : Int))] (need [inI64 (min (z0 * (d - c)) (z1 * (d - c)) - Int.tdiv (sizeI a b) (2 : Int))] (need [(-4611686018427387904 : Int) ≤ min (z0 * (d - c)) (z1 * (d - c)) - Int.tdiv (sizeI a b) (2 : Int) ∧ min (z0 * (d - c)) (z1 * (d - c)) - Int.tdiv (sizeI a b) (2 : Int) ≤ 4611686018427387904, (1 : Int) ≤ sizeI a b] (need [inI64 (c + ceI (min (z0 * (d - c)) (z1 * (d - c)) - Int.tdiv (sizeI a b) (2 : Int)) (sizeI a b))] (need [inI64 (max (z0 * (d - c)) (z1 * (d - c)) + Int.tdiv (sizeI a b) (2 : Int))] (need [(-4611686018427387904 : Int) ≤ max (z0 * (d - c)) (z1 * (d - c)) + Int.tdiv (sizeI a b) (2 : Int) ∧ max (z0 * (d - c)) (z1 * (d - c)) + Int.tdiv (sizeI a b) (2 : Int) ≤ 4611686018427387904, (1 : Int) ≤ sizeI a b] (need [inI64 (c + (max (z0 * (d - c)) (z1 * (d - c)) + Int.tdiv (sizeI a b) (2 : Int)) / sizeI a b)] (leaf (RV.agg [RV.x (Value.int IntKind.i64 (c + ceI (min (z0 * (d - c)) (z1 * (d - c)) - Int.tdiv (sizeI a b) (2 : Int)) (sizeI a b))), RV.x (Value.int IntKind.i64 (c + (max (z0 * (d - c)) (z1 * (d - c)) + Int.tdiv (sizeI a b) (2 : Int)) / sizeI a b))])))))))))))))))) (by kernel_rfl) ?_
 obtain ⟨b1, b2, b3, b4, b5, b6, b7⟩ := st_bd pre0 pre1 pre2
 have e1 : (sizeI a b).tdiv 2 = sizeI a b / 2 := Int.tdiv_eq_ediv_of_nonneg (by omega)
 have e2 : min (alLo a b lo hi * (d - c)) (alHi a b lo hi * (d - c)) - sizeI a b / 2 = stA a b c d lo hi := rfl
 have e3 : max (alLo a b lo hi * (d - c)) (alHi a b lo hi * (d - c)) + sizeI a b / 2 = stB a b c d lo hi := rfl
 simp only [Tree.sat, allP, fitP, fitL, valEq, inI64, true_and, and_true, e1, e2, e3]
 refine ⟨by omega, ⟨by omega, by omega⟩, by omega, by omega, by omega, ?_⟩
 have e4 : c + ceI (stA a b c d lo hi) (sizeI a b) = stLo a b c d lo hi := rfl
 have e5 : c + stB a b c d lo hi / sizeI a b = stHi a b c d lo hi := rfl
 rw [e4, e5]
 omega
theorem stand_ok : SoundSpec Try.prog 64 S_stand := by
 refine ⟨⟨_, Try.func64, by kernel_rfl, by kernel_rfl⟩, ?_⟩
 intro avs ns res h hn
 unfold S_stand at h
 split at h
 ·cases h
  exact stand_at _ _ _ _ _ _ (hn _ (by simp)) (hn _ (by simp)) (hn _ (by simp))
 ·cases h
end Go.Proofs.Ytlinbkmpkcmniaa.Pt
namespace Go.Proofs.Ytlinbkmpkcmniaa.Pt
open Go Go.Sx Go.RowKit
open Go.Sx.Tree (need branch leaf)
open Go.Sx.AV (lst ptr agg roI tup top)
def S_pall1 : Sx.Spec := fun l => match l with
 | [.agg [.x (.int .i64 a), .x (.int .i64 b)], .ro [.fn (.func 46) [] []]] => some ([], bl (!scB a b))
 | _ => none
theorem pall1_at (a b : Int) : SoundAt Try.prog 76 [.agg [i a, i b], .ro [.fn (.func 46) [] []]] (bl (!scB a b)) := by
 refine soundAt_fin (G := [(46, S_valid)]) (L := []) (SoundG.cons valid_ok (SoundG.nil _)) mixed Try.func76 (show Try.f76.body = some (bodyOf Try.f76) by kernel_rfl) noLoops (t := (leaf (RV.x (Value.bool !scB a b)))) (by kernel_rfl) ?_
 simp [Tree.sat, fitP, valEq]
theorem pall1_ok : SoundSpec Try.prog 76 S_pall1 := by
 refine ⟨⟨_, Try.func76, by kernel_rfl, by kernel_rfl⟩, ?_⟩
 intro avs ns res h hn
 unfold S_pall1 at h
 split at h
 ·cases h
  exact pall1_at _ _
 ·cases h
abbrev scs (n : Nat) (a b : Nat → Int) : AV := .lst 2 n (fun k => [i (a k), i (b k)])
def notS (a b : Nat → Int) (k : Nat) : Bool := !scB (a k) (b k)
def allS (n : Nat) (a b : Nat → Int) : Bool := allI (fun k => scB (a k) (b k)) n
noncomputable def E_xf (n : Nat) (a b : Nat → Int) : St := (some { σ := [lst 2 n fun k => [iI (a k), iI (b k)], AV.fn (Fn.func 76) [] [AV.ro [AV.fn (Fn.func 46) [] []]]] ++ tpL 5 [iI (↑n : Int)] ++ tpL 11 [], m := [], nx := 4 } : Option St).getD { σ := [], m := [], nx := 0 }
noncomputable def B_xf : Code := loopBody (loopAt (bodyOf Try.f89) 0)
noncomputable def inv_xf (n : Nat) (a b : Nat → Int) (k : Nat) : St := { σ := ovrS [(8, i k)] (E_xf n a b).σ, m := (E_xf n a b).m, nx := (E_xf n a b).nx }
noncomputable def out_xf (n : Nat) (a b : Nat → Int) (k : Nat) : AEx → Option St := fun ex => match ex with
 | .ret => some { σ := ovrS [(4, i (fstI (notS a b) n))] (E_xf n a b).σ, m := (E_xf n a b).m, nx := (E_xf n a b).nx }
 | .exit 0 => some { σ := ovrS [] (E_xf n a b).σ, m := (E_xf n a b).m, nx := (E_xf n a b).nx }
 | _ => none
noncomputable def T_xf (n : Nat) (a b : Nat → Int) : CT := .branch (decide (fstI (notS a b) n < n)) (.leaf (.ret, ( out_xf n a b 0 .ret).getD (E_xf n a b))) (.leaf (.exit 0, ( out_xf n a b 0 (.exit 0)).getD (E_xf n a b)))
noncomputable def LS_xf (n : Nat) (a b : Nat → Int) : LSpec := (sumL (inv_xf n a b (0)) (T_xf n a b))
theorem xf_ls (n : Nat) (a b : Nat → Int) (pre0 : n ≤ 100000) : LSound Try.prog (.loop B_xf) (LS_xf n a b) := by
 refine loop_rounds (G := [(76, S_pall1)]) (L := []) (SoundG.cons pall1_ok (SoundG.nil _)) mixed noLoops (X := Nat) (inv_xf n a b) (fun k => k ≤ n ∧ ∀ j, j < k → notS a b j = false) (fun k => n - k) (out_xf n a b) (x0 := 0) (by simp) ?_ ?_ ?_
 ·rintro k
  kernel_rfl
 ·rintro k y E h
  unfold out_xf at h
  split at h
  ·cases h; kernel_rfl
  ·cases h; kernel_rfl
  ·cases h
 ·rintro Q hQ k hx
  refine ⟨(k + 1), ?_⟩
  have e : roundT Try.prog [(76, S_pall1)] [] B_xf (inv_xf n a b k) (inv_xf n a b ((k + 1))) (out_xf n a b k) = (let z0 := (AV.fn (Fn.func 76) [] [AV.ro [AV.fn (Fn.func 46) [] []]]); let z1 := (lst 2 n fun k => [iI (a k), iI (b k)]); (branch (decide ((↑k : Int) < (↑n : Int))) (need [(0 : Int) ≤ (↑k : Int) ∧ (↑k : Int) < (↑n : Int)] (branch (!scB (a k) (b k)) (need [z1 = lst 2 n fun k => [iI (a k), iI (b k)], Eq1 z0, (↑k : Int) = (↑(fstI (notS a b) n) : Int), Eq1 (↑n : Int)] (leaf AEx.ret)) (need [inI64 ((↑k : Int) + 1)] (need [z1 = lst 2 n fun k => [iI (a k), iI (b k)], Eq1 z0, Eq1 (↑n : Int), (↑k : Int) + 1 = (↑(k + 1) : Int)] (leaf AEx.normal))))) (need [z1 = lst 2 n fun k => [iI (a k), iI (b k)], Eq1 z0, Eq1 (↑n : Int)] (leaf (AEx.exit 0))))) := by kernel_rfl
  rw [e]
  simp only [T_xf, out_xf, Tree.sat, Option.getD_some, decide_eq_true_eq, decide_eq_false_iff_not] at hQ
  simp only [Tree.sat, allP, true_and, and_true, decide_eq_true_eq, decide_eq_false_iff_not, inI64, out_xf, Int.toNat_natCast]
  refine ⟨fun h => ⟨by omega, fun hb => ?_, fun hb => ?_⟩, fun h => ?_⟩
  ·have hf : fstI (notS a b) n = k := fstI_eq (by omega) hb hx.2
   refine ⟨by omega, fun E hE => ?_⟩
   cases hE
   exact hQ.1 (by omega)
  ·refine ⟨by omega, by omega, ⟨by omega, fun j hj => ?_⟩, by omega⟩
   rcases (show j < k ∨ j = k by omega) with h1 | rfl
   ·exact hx.2 j h1
   ·exact hb
  ·have hf : fstI (notS a b) n = n := fstI_none (fun j hj => hx.2 j (by omega))
   intro E hE
   cases hE
   exact hQ.2 (by omega)
theorem xf_at (n : Nat) (a b : Nat → Int) (pre0 : n ≤ 100000) : SoundAt Try.prog 89 [scs n a b, .fn (.func 76) [] [.ro [.fn (.func 46) [] []]]] (i (if fstI (notS a b) n < n then (fstI (notS a b) n : Int) else -1)) := by
 refine soundAt_fin (G := [(76, S_pall1)]) (L := [LS_xf n a b]) (SoundG.cons pall1_ok (SoundG.nil _)) mixed Try.func89 (show Try.f89.body = some (bodyOf Try.f89) by kernel_rfl) (one_loop (lpE (b := .loop B_xf) (by kernel_rfl) <| xf_ls n a b pre0)) (t := (need [(lst 2 n fun k => [iI (a k), iI (b k)]) = lst 2 n fun k => [iI (a k), iI (b k)], Eq1 (AV.fn (Fn.func 76) [] [AV.ro [AV.fn (Fn.func 46) [] []]]), Eq1 (↑n : Int), (0 : Int) = (↑(0 : Nat) : Int)] (branch (decide (fstI (notS a b) n < n)) (leaf (RV.x (Value.int IntKind.i64 (↑(fstI (notS a b) n) : Int)))) (leaf (RV.x (Value.int IntKind.i64 (-1 : Int))))))) (by kernel_rfl) ?_
 simp only [Tree.sat, allP, fitP, valEq, true_and, and_true, decide_eq_true_eq, decide_eq_false_iff_not]
 simp +contextual
theorem isRec2 (n : Nat) (a b : Nat → Int) : isRec 2 n (fun k => [i (a k), i (b k)]) := fun _ _ => rfl
def col (j : Nat) (f : Nat → List AV) : Nat → Int := fun k => intAt (f k) j
def S_xf : Sx.Spec := fun l => match l with
 | [.lst 2 n f, .fn (.func 76) [] [.ro [.fn (.func 46) [] []]]] => some ([isRec 2 n f, n ≤ 100000], i (if fstI (notS (col 0 f) (col 1 f)) n < n then (fstI (notS (col 0 f) (col 1 f)) n : Int) else -1))
 | _ => none
def S_cf : Sx.Spec := fun l => match l with
 | [.lst 2 n f, .fn (.func 76) [] [.ro [.fn (.func 46) [] []]]] => some ([isRec 2 n f, n ≤ 100000], bl (!allS n (col 0 f) (col 1 f)))
 | _ => none
def S_pall : Sx.Spec := fun l => match l with
 | [.lst 2 n f, .fn (.func 46) [] []] => some ([isRec 2 n f, n ≤ 100000], bl (allS n (col 0 f) (col 1 f)))
 | _ => none
theorem xf_ok : SoundSpec Try.prog 89 S_xf := by
 refine ⟨⟨_, Try.func89, by kernel_rfl, by kernel_rfl⟩, ?_⟩
 intro avs ns res h hn
 unfold S_xf at h
 split at h
 ·rename_i n f
  cases h
  have hr : isRec 2 n f := hn _ (by simp)
  exact (xf_at n (col 0 f) (col 1 f) (hn _ (by simp))).same (.cons (.lst 2 n _ _ hr) (.cons (.refl _) .nil))
 ·cases h
theorem cf_at (n : Nat) (a b : Nat → Int) (pre0 : n ≤ 100000) : SoundAt Try.prog 75 [scs n a b, .fn (.func 76) [] [.ro [.fn (.func 46) [] []]]] (bl (!allS n a b)) := by
 refine soundAt_fin (G := [(89, S_xf)]) (L := []) (SoundG.cons xf_ok (SoundG.nil _)) mixed Try.func75 (show Try.f75.body = some (bodyOf Try.f75) by kernel_rfl) noLoops (t := (need [isRec 2 n fun k => [i (a k), i (b k)], n ≤ 100000] (leaf (RV.x (Value.bool (decide ((if fstI (notS a b) n < n then (↑(fstI (notS a b) n) : Int) else (-1 : Int)) ≥ (0 : Int)))))))) (by kernel_rfl) ?_
 simp only [Tree.sat, allP, fitP, valEq, true_and, and_true]
 refine ⟨⟨isRec2 n _ _, pre0⟩, ?_⟩
 unfold allS
 rw [allI_fst]
 have := fstI_spec (notS a b) n
 have e : (fun k => !(fun k => scB (a k) (b k)) k) = notS a b := rfl
 rw [e]
 have e3 : notS (col 0 (fun k => [i (a k), i (b k)])) (col 1 (fun k => [i (a k), i (b k)])) = notS a b := rfl
 try rw [e3]
 split <;> simp <;> omega
theorem cf_ok : SoundSpec Try.prog 75 S_cf := by
 refine ⟨⟨_, Try.func75, by kernel_rfl, by kernel_rfl⟩, ?_⟩
 intro avs ns res h hn
 unfold S_cf at h
 split at h
 ·rename_i n f
  cases h
  have hr : isRec 2 n f := hn _ (by simp)
  exact (cf_at n (col 0 f) (col 1 f) (hn _ (by simp))).same (.cons (.lst 2 n _ _ hr) (.cons (.refl _) .nil))
 ·cases h
theorem pall_at (n : Nat) (a b : Nat → Int) (pre0 : n ≤ 100000) : SoundAt Try.prog 61 [scs n a b, .fn (.func 46) [] []] (bl (allS n a b)) := by
 refine soundAt_fin (G := [(75, S_cf)]) (L := []) (SoundG.cons cf_ok (SoundG.nil _)) mixed Try.func61 (show Try.f61.body = some (bodyOf Try.f61) by kernel_rfl) noLoops (t := (need [isRec 2 n fun k => [i (a k), i (b k)], n ≤ 100000] (leaf (RV.x (Value.bool !!allS n a b))))) (by kernel_rfl) ?_
 simp only [Tree.sat, allP, fitP, valEq, true_and, and_true]
 refine ⟨⟨isRec2 n _ _, pre0⟩, ?_⟩
 have e3 : allS n (col 0 (fun k => [i (a k), i (b k)])) (col 1 (fun k => [i (a k), i (b k)])) = allS n a b := rfl
 simp [e3]
theorem pall_ok : SoundSpec Try.prog 61 S_pall := by
 refine ⟨⟨_, Try.func61, by kernel_rfl, by kernel_rfl⟩, ?_⟩
 intro avs ns res h hn
 unfold S_pall at h
 split at h
 ·rename_i n f
  cases h
  have hr : isRec 2 n f := hn _ (by simp)
  exact (pall_at n (col 0 f) (col 1 f) (hn _ (by simp))).same (.cons (.lst 2 n _ _ hr) (.cons (.refl _) .nil))
 ·cases h
end Go.Proofs.Ytlinbkmpkcmniaa.Pt
namespace Go.Proofs.Ytlinbkmpkcmniaa.Pt
open Go Go.Sx Go.RowKit
open Go.Sx.Tree (need branch leaf)
open Go.Sx.AV (lst ptr agg roI tup top)
def onL (n : Nat) (f : Nat → List AV) : Nat → List AV
 | 0 => [.fn (.func 63) [] [.top, .top]]
 | d + 1 => [.fn (.func 63) [] [.ro [.lst 2 n f], .ro (onL n f d)]]
def thr (a b : Nat → Int) : Nat → Nat → Int → Int → Option (Int × Int)
 | 0, _, lo, hi => if insB (-1000000) lo hi 1000000 then some (lo, hi) else none
 | m + 1, k, lo, hi => if insB (-1000000) lo hi 1000000 then thr a b m (k + 1) (stLo (a k) (b k) (a (k + 1)) (b (k + 1)) lo hi) (stHi (a k) (b k) (a (k + 1)) (b (k + 1)) lo hi) else none
def rgO (o : Option (Int × Int)) : AV := .agg [i (match o with | some p => p.1 | none => 0), i (match o with | some p => p.2 | none => 0)]
def erO (o : Option (Int × Int)) (e : Int) : AV := i (match o with | some _ => 0 | none => e)
def S_T1 (d : Nat) : Sx.Spec := fun l => match l with
 | [.x (.int .i64 k), .agg [.x (.int .i64 lo), .x (.int .i64 hi)], .ro [.lst 2 n f], .ro b] => some ([b = onL n f d, f = (fun k => [i (col 0 f k), i (col 1 f k)]), 0 ≤ k ∧ k < n ∧ n ≤ k + d ∧ n ≤ 1000, allS n (col 0 f) (col 1 f) = true],
   .tup [rgO (thr (col 0 f) (col 1 f) (n - 1 - k.toNat) k.toNat lo hi), erO (thr (col 0 f) (col 1 f) (n - 1 - k.toNat) k.toNat lo hi) 10])
 | _ => none
theorem Through1_at (d n k : Nat) (lo hi : Int) (a b : Nat → Int) (pre0 : SoundSpec Try.prog 63 (S_T1 d)) (pre1 : k < n ∧ n ≤ k + (d + 1) ∧ n ≤ 1000) (pre2 : allS n a b = true) : SoundAt Try.prog 63 [i k, .agg [i lo, i hi], .ro [scs n a b], (.ro (onL n (fun k => [i (a k), i (b k)]) (d + 1)))] (.tup [rgO (thr a b (n - 1 - k) k lo hi), erO (thr a b (n - 1 - k) k lo hi) 10]) := by
 refine soundAt_fin (G := [(62, S_readings), (64, S_stand), (63, S_T1 d)]) (L := []) (SoundG.cons readings_ok (SoundG.cons stand_ok (SoundG.cons pre0 (SoundG.nil _)))) mixed Try.func63 (show Try.f63.body = some (bodyOf Try.f63) by kernel_rfl) noLoops (t := (let z0 := (Int.toNat ((↑k : Int) + 1)); let z1 := (stLo (a k) (b k) (a z0) (b z0) lo hi); let z2 := (stHi (a k) (b k) (a z0) (b z0) lo hi); let z3 := (Value.int IntKind.i64 (0 : Int)); (branch (!insB (-1000000 : Int) lo hi (1000000 : Int)) (leaf (RV.tup [RV.agg [RV.x z3, RV.x z3], RV.x (Value.int IntKind.i64 (10 : Int))])) (need [inI64 ((↑k : Int) + 1)] (branch ((↑k : Int) + 1 == (↑n : Int)) (leaf (RV.tup [RV.agg [RV.x (Value.int IntKind.i64 lo), RV.x (Value.int IntKind.i64 hi)], RV.x z3])) (need [inI64 ((↑k : Int) + 1)] (need [(0 : Int) ≤ (↑k : Int) ∧ (↑k : Int) < (↑n : Int)] (need [inI64 ((↑k : Int) + 1)] (need [(0 : Int) ≤ (↑k : Int) + 1 ∧ (↑k : Int) + 1 < (↑n : Int)] (need [(-1000 : Int) ≤ a k ∧ a k ≤ (1000 : Int) ∧ (-1000 : Int) ≤ b k ∧ b k ≤ (1000 : Int) ∧ a k ≠ b k, (-1000 : Int) ≤ a z0 ∧ a z0 ≤ (1000 : Int) ∧ (-1000 : Int) ≤ b z0 ∧ b z0 ≤ (1000 : Int) ∧ a z0 ≠ b z0, (-1000000 : Int) ≤ lo ∧ lo ≤ hi ∧ hi ≤ (1000000 : Int)] (need [Eq1 (onL n (fun k => [i (a k), i (b k)]) d), (fun k => [i (a k), i (b k)]) = fun k => [i (a k), i (b k)], (0 : Int) ≤ (↑k : Int) + 1 ∧ (↑k : Int) + 1 < (↑n : Int) ∧ (↑n : Int) ≤ (↑k : Int) + 1 + (↑d : Int) ∧ n ≤ 1000, allS n a b = true] (leaf (RV.tup [RV.agg [RV.x (Value.int IntKind.i64 (match thr a b (n - 1 - Int.toNat ((↑k : Int) + 1)) z0 z1 z2 with | some p => Prod.fst p | none => (0 : Int))), RV.x (Value.int IntKind.i64 (match thr a b (n - 1 - Int.toNat ((↑k : Int) + 1)) z0 z1 z2 with | some p => Prod.snd p | none => (0 : Int)))], RV.x (Value.int IntKind.i64 (match thr a b (n - 1 - Int.toNat ((↑k : Int) + 1)) z0 z1 z2 with | some val => (0 : Int) | none => (10 : Int)))]))))))))))))) (by kernel_rfl) ?_
 obtain ⟨m, hm⟩ : ∃ m, n = k + 1 + m := ⟨n - k - 1, by omega⟩
 have hA : ∀ j, j < n → scB (a j) (b j) = true := allI_iff.1 pre2
 have b1 := scB_bd (hA k (by omega))
 have e0 : n - 1 - k = m := by omega
 have t1 : ((k : Int) + 1).toNat = k + 1 := by omega
 simp only [Tree.sat, allP, fitP, fitL, valEq, inI64, true_and, and_true, Int.toNat_natCast, t1, e0, rgO, erO]
 refine ⟨fun h => ?_, fun h => ⟨by omega, fun h2 => ?_, fun h2 => ?_⟩⟩
 ·cases m <;> simp_all [thr]
 ·have : m = 0 := by simp at h2; omega
  subst this
  have h' : insB (-1000000) lo hi 1000000 = true := by simpa using h
  simp [thr, h']
 ·have hm1 : 1 ≤ m := by simp at h2; omega
  obtain ⟨m', rfl⟩ : ∃ m', m = m' + 1 := ⟨m - 1, by omega⟩
  have h' : insB (-1000000) lo hi 1000000 = true := by simpa using h
  have e2 : n - 1 - (k + 1) = m' := by omega
  have b2 := scB_bd (hA (k + 1) (by omega))
  have b3 := (insB_iff _ _ _ _).1 h'
  refine ⟨by omega, by omega, by omega, by omega, ⟨b1, b2, b3⟩, (by first | exact ⟨rfl, by omega, pre2⟩ | exact ⟨by omega, pre2⟩), ?_⟩
  rw [e2]
  simp only [thr, h', if_true]
  first | exact ⟨⟨rfl, rfl⟩, rfl⟩ | exact ⟨trivial, trivial⟩ | simp
theorem T1_ok : ∀ d, SoundSpec Try.prog 63 (S_T1 d) := by
 intro d
 induction d with
 | zero =>
  refine ⟨⟨_, Try.func63, by kernel_rfl, by kernel_rfl⟩, ?_⟩
  intro avs ns res h hn
  unfold S_T1 at h
  split at h
  ·cases h
   have h3 := hn _ (List.mem_cons_of_mem _ (List.mem_cons_of_mem _ List.mem_cons_self))
   exfalso
   omega
  ·cases h
 | succ d ih =>
  refine ⟨⟨_, Try.func63, by kernel_rfl, by kernel_rfl⟩, ?_⟩
  intro avs ns res h hn
  unfold S_T1 at h
  split at h
  ·rename_i k lo hi n f bb
   cases h
   have h1 := hn _ List.mem_cons_self
   have h2 := hn _ (List.mem_cons_of_mem _ List.mem_cons_self)
   have h3 := hn _ (List.mem_cons_of_mem _ (List.mem_cons_of_mem _ List.mem_cons_self))
   have h4 : allS n (col 0 f) (col 1 f) = true := hn _ (List.mem_cons_of_mem _ (List.mem_cons_of_mem _ (List.mem_cons_of_mem _ List.mem_cons_self)))
   obtain ⟨k', rfl⟩ := Int.eq_ofNat_of_zero_le h3.1
   have key := Through1_at d n k' lo hi (col 0 f) (col 1 f) ih (by omega) h4
   rw [← h2] at key
   subst h1
   have e : scs n (col 0 f) (col 1 f) = .lst 2 n f := by unfold scs; rw [← h2]
   rw [e] at key
   simpa using key
  ·cases h
def thE (n : Nat) (a b : Nat → Int) (lo hi : Int) : Int := if 8 < n then 3 else if n = 0 then 1 else if allS n a b then (if insB (-1000000) lo hi 1000000 then (match thr a b (n - 1) 0 lo hi with | some _ => 0 | none => 10) else 2) else 1
def thR (n : Nat) (a b : Nat → Int) (lo hi : Int) : Option (Int × Int) := if thE n a b lo hi = 0 then thr a b (n - 1) 0 lo hi else none
def S_Through : Sx.Spec := fun l => match l with
 | [.lst 2 n f, .agg [.x (.int .i64 lo), .x (.int .i64 hi)]] => some ([isRec 2 n f], .tup [rgO (thR n (col 0 f) (col 1 f) lo hi), i (thE n (col 0 f) (col 1 f) lo hi)])
 | _ => none
theorem Through_at (n : Nat) (a b : Nat → Int) (lo hi : Int) : SoundAt Try.prog 47 [scs n a b, .agg [i lo, i hi]] (.tup [rgO (thR n a b lo hi), i (thE n a b lo hi)]) := by
 refine soundAt_fin (G := [(61, S_pall), (62, S_readings), (63, S_T1 19)]) (L := []) (SoundG.cons pall_ok (SoundG.cons readings_ok (SoundG.cons (T1_ok 19) (SoundG.nil _)))) mixed Try.func47 (show Try.f47.body = some (bodyOf Try.f47) by kernel_rfl) noLoops (t := (let z0 := (Value.int IntKind.i64 (0 : Int)); let z1 := (leaf (RV.tup [RV.agg [RV.x z0, RV.x z0], RV.x (Value.int IntKind.i64 (1 : Int))])); (branch (decide ((↑n : Int) > (8 : Int))) (leaf (RV.tup [RV.agg [RV.x z0, RV.x z0], RV.x (Value.int IntKind.i64 (3 : Int))])) (branch ((↑n : Int) == (0 : Int)) z1 (need [isRec 2 n fun k => [i (a k), i (b k)], n ≤ 100000] (branch (!allS n a b) z1 (branch (!insB (-1000000 : Int) lo hi (1000000 : Int)) (leaf (RV.tup [RV.agg [RV.x z0, RV.x z0], RV.x (Value.int IntKind.i64 (2 : Int))])) (need [Eq1 ([AV.fn (Fn.func 63) [] [AV.ro [lst 2 n fun k => [iI (a k), iI (b k)]], AV.ro [AV.fn (Fn.func 63) [] [AV.ro [lst 2 n fun k => [iI (a k), iI (b k)]], AV.ro [AV.fn (Fn.func 63) [] [AV.ro [lst 2 n fun k => [iI (a k), iI (b k)]], AV.ro [AV.fn (Fn.func 63) [] [AV.ro [lst 2 n fun k => [iI (a k), iI (b k)]], AV.ro [AV.fn (Fn.func 63) [] [AV.ro [lst 2 n fun k => [iI (a k), iI (b k)]], AV.ro [AV.fn (Fn.func 63) [] [AV.ro [lst 2 n fun k => [iI (a k), iI (b k)]], AV.ro [AV.fn (Fn.func 63) [] [AV.ro [lst 2 n fun k => [iI (a k), iI (b k)]], AV.ro [AV.fn (Fn.func 63) [] [AV.ro [lst 2 n fun k => [iI (a k), iI (b k)]], AV.ro [AV.fn (Fn.func 63) [] [AV.ro [lst 2 n fun k => [iI (a k), iI (b k)]], AV.ro [AV.fn (Fn.func 63) [] [AV.ro [lst 2 n fun k => [iI (a k), iI (b k)]], AV.ro [AV.fn (Fn.func 63) [] [AV.ro [lst 2 n fun k => [iI (a k), iI (b k)]], AV.ro [AV.fn (Fn.func 63) [] [AV.ro [lst 2 n fun k => [iI (a k), iI (b k)]], AV.ro [AV.fn (Fn.func 63) [] [AV.ro [lst 2 n fun k => [iI (a k), iI (b k)]], AV.ro [AV.fn (Fn.func 63) [] [AV.ro [lst 2 n fun k => [iI (a k), iI (b k)]], AV.ro [AV.fn (Fn.func 63) [] [AV.ro [lst 2 n fun k => [iI (a k), iI (b k)]], AV.ro [AV.fn (Fn.func 63) [] [AV.ro [lst 2 n fun k => [iI (a k), iI (b k)]], AV.ro [AV.fn (Fn.func 63) [] [AV.ro [lst 2 n fun k => [iI (a k), iI (b k)]], AV.ro [AV.fn (Fn.func 63) [] [AV.ro [lst 2 n fun k => [iI (a k), iI (b k)]], AV.ro [AV.fn (Fn.func 63) [] [AV.ro [lst 2 n fun k => [iI (a k), iI (b k)]], AV.ro [AV.fn (Fn.func 63) [] [top, top]]]]]]]]]]]]]]]]]]]]]]]]]]]]]]]]]]]]]]]]), (fun k => [i (a k), i (b k)]) = fun k => [i (a k), i (b k)], (0 : Int) ≤ 0 ∧ (0 : Int) < (↑n : Int) ∧ (↑n : Int) ≤ 0 + (↑(19 : Nat) : Int) ∧ n ≤ 1000, allS n a b = true] (leaf (RV.tup [RV.agg [RV.x (Value.int IntKind.i64 (match thr a b (n - 1 - Int.toNat (0 : Int)) (Int.toNat (0 : Int)) lo hi with | some p => Prod.fst p | none => (0 : Int))), RV.x (Value.int IntKind.i64 (match thr a b (n - 1 - Int.toNat (0 : Int)) (Int.toNat (0 : Int)) lo hi with | some p => Prod.snd p | none => (0 : Int)))], RV.x (Value.int IntKind.i64 (match thr a b (n - 1 - Int.toNat (0 : Int)) (Int.toNat (0 : Int)) lo hi with | some val => (0 : Int) | none => (10 : Int)))])))))))))) (by kernel_rfl) ?_
 have c0 : col 0 (fun k => [i (a k), i (b k)]) = a := rfl
 have c1 : col 1 (fun k => [i (a k), i (b k)]) = b := rfl
 simp only [Tree.sat, allP, fitP, fitL, valEq, true_and, and_true, c0, c1, decide_eq_true_eq, decide_eq_false_iff_not, rgO, thR, thE]
 refine ⟨fun h => ?_, fun h => ?_⟩
 ·simp [show 8 < n by omega]
 have h8 : ¬ 8 < n := by omega
 refine ⟨fun h2 => ?_, fun h2 => ?_⟩
 ·have : n = 0 := by simp at h2; omega
  simp [this]
 have h0 : n ≠ 0 := by intro h; subst h; simp at h2
 refine ⟨⟨isRec2 n _ _, by omega⟩, fun h3 => ?_, fun h3 => ?_⟩
 ·have : allS n a b = false := by simpa using h3
  simp [h8, h0, this]
 have h3' : allS n a b = true := by simpa using h3
 refine ⟨fun h4 => ?_, fun h4 => ?_⟩
 ·have : insB (-1000000) lo hi 1000000 = false := by simpa using h4
  simp [h8, h0, h3', this]
 have h4' : insB (-1000000) lo hi 1000000 = true := by simpa using h4
 refine ⟨⟨by omega, h3'⟩, ?_⟩
 simp only [h8, h0, h3', h4', if_true, if_false, Nat.sub_zero, Int.toNat_zero]
 cases ht : thr a b (n - 1) 0 lo hi <;> simp
theorem Through_ok : SoundSpec Try.prog 47 S_Through := by
 refine ⟨⟨_, Try.func47, by kernel_rfl, by kernel_rfl⟩, ?_⟩
 intro avs ns res h hn
 unfold S_Through at h
 split at h
 ·rename_i n f lo hi
  cases h
  have hr : isRec 2 n f := hn _ (by simp)
  exact (Through_at n (col 0 f) (col 1 f) lo hi).same (.cons (.lst 2 n _ _ hr) (.cons (.refl _) .nil))
 ·cases h
def cvE (a b c d lo hi : Int) : Int := if scB a b && scB c d then (if insB (-1000000) lo hi 1000000 then (if insB (-1000000) (stLo a b c d lo hi) (stHi a b c d lo hi) 1000000 then 0 else 10) else 2) else 1
def cvLo (a b c d lo hi : Int) : Int := if cvE a b c d lo hi = 0 then stLo a b c d lo hi else 0
def cvHi (a b c d lo hi : Int) : Int := if cvE a b c d lo hi = 0 then stHi a b c d lo hi else 0
theorem thE_two (p q : Nat → Int) (lo hi : Int) : thE 2 p q lo hi = cvE (p 0) (q 0) (p 1) (q 1) lo hi := by
 unfold thE cvE
 simp only [allS, allI, thr, Bool.true_and]
 cases scB (p 0) (q 0) && scB (p 1) (q 1) <;> simp
 cases insB (-1000000) lo hi 1000000 <;> simp
 cases insB (-1000000) (stLo (p 0) (q 0) (p 1) (q 1) lo hi) (stHi (p 0) (q 0) (p 1) (q 1) lo hi) 1000000 <;> simp
theorem thR_two (p q : Nat → Int) (lo hi : Int) : rgO (thR 2 p q lo hi) = .agg [i (cvLo (p 0) (q 0) (p 1) (q 1) lo hi), i (cvHi (p 0) (q 0) (p 1) (q 1) lo hi)] := by
 unfold thR cvLo cvHi
 rw [thE_two]
 by_cases h : cvE (p 0) (q 0) (p 1) (q 1) lo hi = 0
 ·simp only [h, if_true]
  have h2 := h
  unfold cvE at h2
  split at h2
  ·split at h2
   ·split at h2
    ·rename_i h3 h4 h5
     simp [thr, h4, h5, rgO]
    ·omega
   ·omega
  ·omega
 ·simp [h, rgO]
def S_Convert : Sx.Spec := fun l => match l with
 | [.agg [.x (.int .i64 a), .x (.int .i64 b)], .agg [.x (.int .i64 c), .x (.int .i64 d)], .agg [.x (.int .i64 lo), .x (.int .i64 hi)]] => some ([], .tup [.agg [i (cvLo a b c d lo hi), i (cvHi a b c d lo hi)], i (cvE a b c d lo hi)])
 | _ => none
theorem Convert_at (a b c d lo hi : Int) : SoundAt Try.prog 29 [.agg [i a, i b], .agg [i c, i d], .agg [i lo, i hi]] (.tup [.agg [i (cvLo a b c d lo hi), i (cvHi a b c d lo hi)], i (cvE a b c d lo hi)]) := by
 refine soundAt_fin (G := [(47, S_Through)]) (L := []) (SoundG.cons Through_ok (SoundG.nil _)) mixed Try.func29 (show Try.f29.body = some (bodyOf Try.f29) by kernel_rfl) noLoops (t := (let z0 := (chunk 2 [iI a, iI b, iI c, iI d]); (need [isRec 2 2 z0] (leaf (RV.tup [RV.agg [RV.x (Value.int IntKind.i64 (match thR 2 (col 0 z0) (col 1 z0) lo hi with | some p => Prod.fst p | none => (0 : Int))), RV.x (Value.int IntKind.i64 (match thR 2 (col 0 z0) (col 1 z0) lo hi with | some p => Prod.snd p | none => (0 : Int)))], RV.x (Value.int IntKind.i64 (thE 2 (col 0 z0) (col 1 z0) lo hi))]))))) (by kernel_rfl) ?_
 have e1 := thR_two (col 0 (chunk 2 [i a, i b, i c, i d])) (col 1 (chunk 2 [i a, i b, i c, i d])) lo hi
 have e2 := thE_two (col 0 (chunk 2 [i a, i b, i c, i d])) (col 1 (chunk 2 [i a, i b, i c, i d])) lo hi
 simp only [Tree.sat, allP, fitP, fitL, valEq, true_and, and_true]
 refine ⟨fun k hk => ?_, ⟨?_, ?_⟩, e2⟩
 ·rcases (show k = 0 ∨ k = 1 by omega) with rfl | rfl <;> rfl
 ·unfold rgO at e1
  simp only [agg.injEq, List.cons.injEq, AV.x.injEq, Value.int.injEq, true_and, and_true] at e1
  exact e1.1
 ·unfold rgO at e1
  simp only [agg.injEq, List.cons.injEq, AV.x.injEq, Value.int.injEq, true_and, and_true] at e1
  exact e1.2
theorem Convert_ok : SoundSpec Try.prog 29 S_Convert := by
 refine ⟨⟨_, Try.func29, by kernel_rfl, by kernel_rfl⟩, ?_⟩
 intro avs ns res h hn
 unfold S_Convert at h
 split at h
 ·cases h
  exact Convert_at _ _ _ _ _ _
 ·cases h
end Go.Proofs.Ytlinbkmpkcmniaa.Pt
namespace Go.Proofs.Ytlinbkmpkcmniaa.Pt
open Go Go.Sx Go.RowKit
open Go.Sx.Tree (need branch leaf)
open Go.Sx.AV (lst ptr agg roI tup top)
end Go.Proofs.Ytlinbkmpkcmniaa.Pt
namespace Go.Proofs.Ytlinbkmpkcmniaa.Pt
open Go Go.Sx Go.RowKit
open Go.Sx.Tree (need branch leaf)
open Go.Sx.AV (lst ptr agg roI tup top)
end Go.Proofs.Ytlinbkmpkcmniaa.Pt
namespace Go.Proofs.Ytlinbkmpkcmniaa.Pt
open Go Go.Sx Go.RowKit
open Go.Sx.Tree (need branch leaf)
open Go.Sx.AV (lst ptr agg roI tup top)
end Go.Proofs.Ytlinbkmpkcmniaa.Pt
namespace Go.Proofs.Ytlinbkmpkcmniaa.Pt
open Go Go.Sx Go.RowKit
open Go.Sx.Tree (need branch leaf)
open Go.Sx.AV (lst ptr agg roI tup top)
def stepB (p q : Nat → Int) (k : Nat) : Bool := bt 1 (p k) 2000 && (bt 1 (q k) 2000 && (decide (k = 0) || (decide (p (k - 1) < p k) && decide (q (k - 1) < q k))))
def tabB (n : Nat) (p q : Nat → Int) : Bool := allI (stepB p q) n
noncomputable def E_tb (n : Nat) (p q : Nat → Int) : St := (some { σ := [lst 2 n fun k => [iI (p k), iI (q k)]] ++ tpL 10 [lst 2 n fun k => [iI (p k), iI (q k)], iI (↑n : Int)] ++ tpL 42 [], m := [], nx := 10 } : Option St).getD { σ := [], m := [], nx := 0 }
noncomputable def B_tb : Code := loopBody (loopAt (bodyOf Try.f66) 0)
noncomputable def inv_tb (n : Nat) (p q : Nat → Int) (k : Nat) : St := { σ := ovrS [(13, i k)] (E_tb n p q).σ, m := (E_tb n p q).m, nx := (E_tb n p q).nx }
noncomputable def out_tb (n : Nat) (p q : Nat → Int) (k : Nat) : AEx → Option St := fun ex => match ex with
 | .exit 0 => some { σ := ovrS [] (E_tb n p q).σ, m := (E_tb n p q).m, nx := (E_tb n p q).nx }
 | .ret => some { σ := ovrS [(2, i 1)] (E_tb n p q).σ, m := (E_tb n p q).m, nx := (E_tb n p q).nx }
 | _ => none
noncomputable def T_tb (n : Nat) (p q : Nat → Int) : CT := .branch (tabB n p q) (.leaf (.exit 0, ( out_tb n p q 0 (.exit 0)).getD (E_tb n p q))) (.leaf (.ret, ( out_tb n p q 0 .ret).getD (E_tb n p q)))
noncomputable def LS_tb (n : Nat) (p q : Nat → Int) : LSpec := (sumL (inv_tb n p q (0)) (T_tb n p q))
theorem tb_ls (n : Nat) (p q : Nat → Int) (pre0 : n ≤ 100000) : LSound Try.prog (.loop B_tb) (LS_tb n p q) := by
 refine loop_rounds (G := [(60, S_within)]) (L := []) (SoundG.cons within_ok (SoundG.nil _)) mixed noLoops (X := Nat) (inv_tb n p q) (fun k => k ≤ n ∧ ∀ j, j < k → stepB p q j = true) (fun k => n - k) (out_tb n p q) (x0 := 0) ⟨by omega, fun j hj => by omega⟩ ?_ ?_ ?_
 ·rintro k
  kernel_rfl
 ·rintro k y E h
  unfold out_tb at h
  split at h
  ·cases h; kernel_rfl
  ·cases h; kernel_rfl
  ·cases h
 ·rintro Q hQ k hx
  refine ⟨(k + 1), ?_⟩
  have e : roundT Try.prog [(60, S_within)] [] B_tb (inv_tb n p q k) (inv_tb n p q ((k + 1))) (out_tb n p q k) = (let z2 := (lst 2 n fun k => [iI (p k), iI (q k)]); let z0 := (need [z2 = lst 2 n fun k => [iI (p k), iI (q k)], Eq1 (1 : Int), z2 = lst 2 n fun k => [iI (p k), iI (q k)], Eq1 (↑n : Int)] (leaf AEx.ret)); let z1 := (need [inI64 ((↑k : Int) + 1)] (need [z2 = lst 2 n fun k => [iI (p k), iI (q k)], z2 = lst 2 n fun k => [iI (p k), iI (q k)], Eq1 (↑n : Int), (↑k : Int) + 1 = (↑(k + 1) : Int)] (leaf AEx.normal))); (branch (decide ((↑k : Int) < (↑n : Int))) (need [(0 : Int) ≤ (↑k : Int) ∧ (↑k : Int) < (↑n : Int)] (branch (!bt (1 : Int) (p k) (2000 : Int)) z0 (branch (!bt (1 : Int) (q k) (2000 : Int)) z0 (branch (decide ((↑k : Int) > (0 : Int))) (need [inI64 ((↑k : Int) - 1)] (need [(0 : Int) ≤ (↑k : Int) - 1 ∧ (↑k : Int) - 1 < (↑n : Int)] (branch (decide (p k ≤ p (Int.toNat ((↑k : Int) - 1)))) z0 (need [inI64 ((↑k : Int) - 1)] (need [(0 : Int) ≤ (↑k : Int) - 1 ∧ (↑k : Int) - 1 < (↑n : Int)] (branch (decide (q k ≤ q (Int.toNat ((↑k : Int) - 1)))) z0 z1)))))) z1)))) (need [z2 = lst 2 n fun k => [iI (p k), iI (q k)], z2 = lst 2 n fun k => [iI (p k), iI (q k)], Eq1 (↑n : Int)] (leaf (AEx.exit 0))))) := by kernel_rfl
  rw [e]
  simp only [T_tb, out_tb, Tree.sat, Option.getD_some] at hQ
  have hbad : k < n → stepB p q k = false → tabB n p q = false := by
   intro h1 h2
   rw [← Bool.not_eq_true]
   intro h3
   have := allI_iff.1 h3 k h1
   rw [h2] at this
   cases this
  have hgood : stepB p q k = true → ∀ j, j < k + 1 → stepB p q j = true := by
   intro h1 j hj
   rcases (show j < k ∨ j = k by omega) with h | rfl
   ·exact hx.2 j h
   ·exact h1
  have hend : ¬ k < n → tabB n p q = true := fun h => allI_iff.2 (fun j hj => hx.2 j (by omega))
  have hQ1 : ∀ E, out_tb n p q k .ret = some E → tabB n p q = false → Q (.ret, E) := by
   intro E hE hf
   cases hE
   exact hQ.2 hf
  have hQ2 : ∀ E, out_tb n p q k (.exit 0) = some E → tabB n p q = true → Q (.exit 0, E) := by
   intro E hE hf
   cases hE
   exact hQ.1 hf
  have t1 : ((k : Int) - 1).toNat = k - 1 := by omega
  have hsb : stepB p q k = (bt 1 (p k) 2000 && (bt 1 (q k) 2000 && (decide (k = 0) || (decide (p (k - 1) < p k) && decide (q (k - 1) < q k))))) := rfl
  simp only [Tree.sat, allP, true_and, and_true, decide_eq_true_eq, decide_eq_false_iff_not, inI64, Int.toNat_natCast, t1]
  clear e
  repeat' first | with_reducible apply And.intro | with_reducible intro _
  all_goals first | exact True.intro | omega | exact hQ1 _ (by assumption) (hbad (by omega) (by rw [hsb]; grind)) | exact hQ2 _ (by assumption) (hend (by omega)) | exact hgood (by rw [hsb]; grind) _ (by assumption)
def tbE (n : Nat) (p q : Nat → Int) : Int := if 8 < n then 3 else if n < 2 then 1 else if tabB n p q then 0 else 1
def S_table : Sx.Spec := fun l => match l with
 | [.lst 2 n f] => some ([isRec 2 n f, n ≤ 100000], i (tbE n (col 0 f) (col 1 f)))
 | _ => none
theorem table_at (n : Nat) (p q : Nat → Int) (pre0 : n ≤ 100000) : SoundAt Try.prog 66 [scs n p q] (i (tbE n p q)) := by
 refine soundAt_fin (G := [(60, S_within)]) (L := [LS_tb n p q]) (SoundG.cons within_ok (SoundG.nil _)) mixed Try.func66 (show Try.f66.body = some (bodyOf Try.f66) by kernel_rfl) (one_loop (lpE (b := .loop B_tb) (by kernel_rfl) <| tb_ls n p q pre0)) (t := (let z0 := (leaf (RV.x (Value.int IntKind.i64 (1 : Int)))); (branch (decide ((↑n : Int) > (8 : Int))) (leaf (RV.x (Value.int IntKind.i64 (3 : Int)))) (branch (decide ((↑n : Int) < 2)) z0 (need [(lst 2 n fun k => [iI (p k), iI (q k)]) = lst 2 n fun k => [iI (p k), iI (q k)], (lst 2 n fun k => [iI (p k), iI (q k)]) = lst 2 n fun k => [iI (p k), iI (q k)], Eq1 (↑n : Int), (0 : Int) = (↑(0 : Nat) : Int)] (branch (tabB n p q) (leaf (RV.x (Value.int IntKind.i64 (0 : Int)))) z0)))))) (by kernel_rfl) ?_
 simp only [Tree.sat, allP, fitP, valEq, true_and, and_true, decide_eq_true_eq, decide_eq_false_iff_not, tbE, Int.natCast_zero]
 refine ⟨fun h => ?_, fun h => ⟨fun h2 => ?_, fun h2 => ⟨fun h3 => ?_, fun h3 => ?_⟩⟩⟩
 ·simp [show 8 < n by omega]
 ·simp [show ¬ 8 < n by omega, show n < 2 by omega]
 ·simp [show ¬ 8 < n by omega, show ¬ n < 2 by omega, h3]
 ·simp [show ¬ 8 < n by omega, show ¬ n < 2 by omega, h3]
theorem table_ok : SoundSpec Try.prog 66 S_table := by
 refine ⟨⟨_, Try.func66, by kernel_rfl, by kernel_rfl⟩, ?_⟩
 intro avs ns res h hn
 unfold S_table at h
 split at h
 ·rename_i n f
  cases h
  have hr : isRec 2 n f := hn _ (by simp)
  exact (table_at n (col 0 f) (col 1 f) (hn _ (by simp))).same (.cons (.lst 2 n _ _ hr) .nil)
 ·cases h
def segI (n : Nat) (p : Nat → Int) (x : Int) : Nat := fstI (fun k => decide (x ≤ p (k + 1))) (n - 1)
def boilAt (p q : Nat → Int) (x : Int) (k : Nat) : Int := q k + ((q (k + 1) - q k) * (x - p k)).tdiv (p (k + 1) - p k)
def boilI (n : Nat) (p q : Nat → Int) (x : Int) : Int := boilAt p q x (segI n p x)
theorem tab_step {n : Nat} {p q : Nat → Int} (h : tabB n p q = true) {k : Nat} (hk : k < n) : 1 ≤ p k ∧ p k ≤ 2000 ∧ 1 ≤ q k ∧ q k ≤ 2000 ∧ (k = 0 ∨ p (k - 1) < p k ∧ q (k - 1) < q k) := by
 have := allI_iff.1 h k hk
 simp only [stepB, bt, Bool.and_eq_true, Bool.or_eq_true, decide_eq_true_eq] at this
 omega
theorem tab_mono {n : Nat} {p q : Nat → Int} (h : tabB n p q = true) {j k : Nat} (hjk : j ≤ k) (hk : k < n) : p j ≤ p k ∧ q j ≤ q k := by
 induction k with
 | zero =>
      have : j = 0 := by omega
      subst this; exact ⟨Int.le_refl _, Int.le_refl _⟩
 | succ k ih =>
  rcases (show j ≤ k ∨ j = k + 1 by omega) with h1 | rfl
  ·have := ih h1 (by omega)
   have h2 := tab_step h hk
   simp only [Nat.add_sub_cancel] at h2
   omega
  ·exact ⟨Int.le_refl _, Int.le_refl _⟩
theorem seg_lt {n : Nat} {p : Nat → Int} {x : Int} (hn : 2 ≤ n) (hx : x ≤ p (n - 1)) : segI n p x < n - 1 := by
 obtain ⟨h1, h2, h3⟩ := fstI_spec (fun k => decide (x ≤ p (k + 1))) (n - 1)
 unfold segI
 rcases Nat.lt_or_ge (fstI (fun k => decide (x ≤ p (k + 1))) (n - 1)) (n - 1) with h | h
 ·exact h
 ·have := h2 (n - 2) (by omega)
  rw [show n - 2 + 1 = n - 1 by omega] at this
  simp at this
  omega
end Go.Proofs.Ytlinbkmpkcmniaa.Pt
namespace Go.Proofs.Ytlinbkmpkcmniaa.Pt
open Go Go.Sx Go.RowKit
open Go.Sx.Tree (need branch leaf)
open Go.Sx.AV (lst ptr agg roI tup top)
end Go.Proofs.Ytlinbkmpkcmniaa.Pt
namespace Go.Proofs.Ytlinbkmpkcmniaa.Pt
open Go Go.Sx Go.RowKit
open Go.Sx.Tree (need branch leaf)
open Go.Sx.AV (lst ptr agg roI tup top)
end Go.Proofs.Ytlinbkmpkcmniaa.Pt
namespace Go.Proofs.Ytlinbkmpkcmniaa.Pt
open Go Go.Sx Go.RowKit
open Go.Sx.Tree (need branch leaf)
open Go.Sx.AV (lst ptr agg roI tup top)
theorem col20 (a b : Nat → Int) : col 0 (fun k => [i (a k), i (b k)]) = a := rfl
theorem col21 (a b : Nat → Int) : col 1 (fun k => [i (a k), i (b k)]) = b := rfl
end Go.Proofs.Ytlinbkmpkcmniaa.Pt
namespace Go.Proofs.Ytlinbkmpkcmniaa.Pt
open Go Go.Sx Go.RowKit
open Go.Sx.Tree (need branch leaf)
open Go.Sx.AV (lst ptr agg roI tup top)
theorem seg_spec {n : Nat} {p q : Nat → Int} {x : Int} (hn : 2 ≤ n) (ht : tabB n p q = true) (hx : p 0 ≤ x ∧ x ≤ p (n - 1)) : segI n p x < n - 1 ∧ p (segI n p x) ≤ x ∧ x ≤ p (segI n p x + 1) := by
 have h1 := seg_lt hn hx.2
 obtain ⟨f1, f2, f3⟩ := fstI_spec (fun k => decide (x ≤ p (k + 1))) (n - 1)
 have h3 := f3 h1
 refine ⟨h1, ?_, of_decide_eq_true h3⟩
 rcases Nat.eq_zero_or_pos (segI n p x) with h | h
 ·rw [h]; exact hx.1
 ·have := f2 (segI n p x - 1) (by unfold segI at h ⊢; omega)
  rw [show segI n p x - 1 + 1 = segI n p x by omega] at this
  simp at this
  omega
theorem boilAt_bd {p q : Nat → Int} {x : Int} {k : Nat} (hp : p k < p (k + 1)) (hq : q k < q (k + 1)) (h1 : p k ≤ x) (h2 : x ≤ p (k + 1)) : boilAt p q x k = q k + (q (k + 1) - q k) * (x - p k) / (p (k + 1) - p k) ∧ q k ≤ boilAt p q x k ∧ boilAt p q x k ≤ q (k + 1) := by
 have m0 : 0 ≤ (q (k + 1) - q k) * (x - p k) := Int.mul_nonneg (by omega) (by omega)
 have e : boilAt p q x k = q k + (q (k + 1) - q k) * (x - p k) / (p (k + 1) - p k) := by
  unfold boilAt
  rw [Int.tdiv_eq_ediv_of_nonneg m0]
 have m1 : (q (k + 1) - q k) * (x - p k) ≤ (q (k + 1) - q k) * (p (k + 1) - p k) := Int.mul_le_mul_of_nonneg_left (by omega) (by omega)
 have d0 : 0 ≤ (q (k + 1) - q k) * (x - p k) / (p (k + 1) - p k) := Int.ediv_nonneg m0 (by omega)
 have d1 : (q (k + 1) - q k) * (x - p k) / (p (k + 1) - p k) ≤ q (k + 1) - q k := Int.ediv_le_of_le_mul (by omega) m1
 rw [e]
 omega
theorem seg_mono {n : Nat} {p : Nat → Int} {x y : Int} (h : x ≤ y) : segI n p x ≤ segI n p y := by
 obtain ⟨f1, f2, f3⟩ := fstI_spec (fun k => decide (x ≤ p (k + 1))) (n - 1)
 obtain ⟨g1, g2, g3⟩ := fstI_spec (fun k => decide (y ≤ p (k + 1))) (n - 1)
 unfold segI
 rcases Nat.lt_or_ge (fstI (fun k => decide (y ≤ p (k + 1))) (n - 1)) (fstI (fun k => decide (x ≤ p (k + 1))) (n - 1)) with hl | hl
 ·have a1 := f2 _ hl
  have a2 := g3 (by omega)
  simp at a1 a2
  omega
 ·exact hl
theorem boil_spec {n : Nat} {p q : Nat → Int} {x : Int} (hn : 2 ≤ n) (ht : tabB n p q = true) (hx : p 0 ≤ x ∧ x ≤ p (n - 1)) : q 0 ≤ boilI n p q x ∧ boilI n p q x ≤ q (n - 1) ∧ 1 ≤ boilI n p q x ∧ boilI n p q x ≤ 2000 := by
 obtain ⟨h1, h2, h3⟩ := seg_spec hn ht hx
 have s := tab_step ht (show segI n p x + 1 < n by omega)
 simp only [Nat.add_sub_cancel] at s
 have b := boilAt_bd (p := p) (q := q) (x := x) (k := segI n p x) (by omega) (by omega) h2 h3
 have m1 := tab_mono ht (show 0 ≤ segI n p x by omega) (show segI n p x < n by omega)
 have m2 := tab_mono ht (show segI n p x + 1 ≤ n - 1 by omega) (show n - 1 < n by omega)
 have z := tab_step ht (show 0 < n by omega)
 have z2 := tab_step ht (show n - 1 < n by omega)
 unfold boilI
 omega
theorem boil_mono {n : Nat} {p q : Nat → Int} {x y : Int} (hn : 2 ≤ n) (ht : tabB n p q = true) (hx : p 0 ≤ x) (hxy : x ≤ y) (hy : y ≤ p (n - 1)) : boilI n p q x ≤ boilI n p q y := by
 obtain ⟨h1, h2, h3⟩ := seg_spec hn ht (x := x) (by omega)
 obtain ⟨g1, g2, g3⟩ := seg_spec hn ht (x := y) (by omega)
 have s := tab_step ht (show segI n p x + 1 < n by omega)
 have s' := tab_step ht (show segI n p y + 1 < n by omega)
 simp only [Nat.add_sub_cancel] at s s'
 have b := boilAt_bd (p := p) (q := q) (x := x) (k := segI n p x) (by omega) (by omega) h2 h3
 have b' := boilAt_bd (p := p) (q := q) (x := y) (k := segI n p y) (by omega) (by omega) g2 g3
 have hm := seg_mono (n := n) (p := p) hxy
 unfold boilI
 rcases Nat.lt_or_ge (segI n p x) (segI n p y) with hl | hl
 ·have m := tab_mono ht (show segI n p x + 1 ≤ segI n p y by omega) (show segI n p y < n by omega)
  omega
 ·have e : segI n p x = segI n p y := by omega
  rw [b.1, b'.1, e]
  rw [e] at s
  have := Int.ediv_le_ediv (show 0 < p (segI n p y + 1) - p (segI n p y) by omega) (Int.mul_le_mul_of_nonneg_left (show x - p (segI n p y) ≤ y - p (segI n p y) by omega) (show 0 ≤ q (segI n p y + 1) - q (segI n p y) by omega))
  omega
end Go.Proofs.Ytlinbkmpkcmniaa.Pt
namespace Go.Proofs.Ytlinbkmpkcmniaa.Pt
open Go Go.Sx Go.RowKit
open Go.Sx.Tree (need branch leaf)
open Go.Sx.AV (lst ptr agg roI tup top)
def S_spans : Sx.Spec := fun l => match l with
 | [.lst 2 n f] => some ([], .fn (.func 92) [] [.ro [.lst 2 n f]])
 | _ => none
theorem spans_at (n : Nat) (f : Nat → List AV) : SoundAtR Try.prog 83 [.lst 2 n f] (.fn (.func 92) [] [.ro [.lst 2 n f]]) := by
 refine soundAtR_fin (G := []) (X := {}) (L := []) (SoundG.nil _) (SoundX.of (SoundRL.nil _) (SoundHL.nil _)) mixed Try.func83 (show Try.f83.body = some (bodyOf Try.f83) by kernel_rfl) noLoopsS (t := (leaf (AV.fn (Fn.func 92) [] [AV.ro [lst 2 n fun a => f a]]))) (by kernel_rfl) ?_
 exact rfl
theorem spans_okR : SoundR Try.prog 83 S_spans := by
 refine ⟨⟨_, Try.func83, by kernel_rfl, by kernel_rfl⟩, ?_⟩
 intro avs ns res h hn
 unfold S_spans at h
 split at h
 ·cases h
  exact spans_at _ _
 ·cases h
def stV (p q : Nat → Int) (k : Nat) : Value := .agg #[.int .i64 (p k), .int .i64 (q k)]
def spV (p q : Nat → Int) (k : Nat) : List Value := [stV p q k, stV p q (k + 1)]
noncomputable def E_sp (l : Nat) (n : Nat) (p q : Nat → Int) : St := (some { σ := [AV.fn (Fn.yield l) [] [], AV.ro [lst 2 n fun k => [iI (p k), iI (q k)]], top, top, top, top, lst 2 (n - Int.toNat (1 : Int)) fun i => [iI (p (Int.toNat (1 : Int) + i)), iI (q (Int.toNat (1 : Int) + i))], iI (↑(n - Int.toNat (1 : Int)) : Int)] ++ tpL 14 [], m := [], nx := 4, gh := some 0 } : Option St).getD { σ := [], m := [], nx := 0 }
noncomputable def B_sp : Code := loopBody (loopAt (bodyOf Try.f92) 0)
noncomputable def inv_sp (l : Nat) (n : Nat) (p q : Nat → Int) (k : Nat) : St := { σ := ovrS [(8, i k)] (E_sp l n p q).σ, m := [], nx := 0, gh := some (k) }
noncomputable def out_sp (l : Nat) (n : Nat) (p q : Nat → Int) (k : Nat) : AEx → Option St := fun ex => match ex with
 | .exit 0 => some { σ := ovrS [] (E_sp l n p q).σ, m := [], nx := 0, gh := some (n - 1) }
 | .ret => some { σ := ovrS [] (E_sp l n p q).σ, m := [], nx := 0, gh := none }
 | _ => none
noncomputable def T_sp (l : Nat) (n : Nat) (p q : Nat → Int) : CT := .may True (.leaf (.exit 0, ( out_sp l n p q 0 (.exit 0)).getD (E_sp l n p q))) (.leaf (.ret, ( out_sp l n p q 0 .ret).getD (E_sp l n p q)))
noncomputable def LS_sp (l : Nat) (n : Nat) (p q : Nat → Int) : LSpec := normSp [] (sumL (inv_sp l n p q (0)) (T_sp l n p q))
theorem sp_lc (l : Nat) (n : Nat) (p q : Nat → Int) (pre0 : 1 ≤ n ∧ n ≤ 100000) {cx : Cx} (hX : SoundX Try.prog { Y := some (l, (n - 1), (spV p q)) } cx) : LSoundC Try.prog none cx (.loop B_sp) (LS_sp l n p q) := by
 refine loop_roundsC [] (G := []) (L := []) (SoundG.nil _) hX mixed noLoopsS (V := Nat) (inv_sp l n p q) (fun k => k ≤ n - 1) (fun k => n - k) (out_sp l n p q) (x0 := 0) (by simp) ?_ ?_ ?_
 ·rintro k
  kernel_rfl
 ·rintro k y E h
  unfold out_sp at h
  split at h
  ·cases h; kernel_rfl
  ·cases h; kernel_rfl
  ·cases h
 ·rintro Q hQ k hx
  refine ⟨(k + 1), ?_⟩
  have e : roundX Try.prog [] { Y := some (l, (n - 1), (spV p q)) } [] [] B_sp (inv_sp l n p q k) (inv_sp l n p q ((k + 1))) (out_sp l n p q k) = (let z0 := (lst 2 (n - Int.toNat (1 : Int)) fun i => [iI (p (Int.toNat (1 : Int) + i)), iI (q (Int.toNat (1 : Int) + i))]); let z1 := (AV.ro [lst 2 n fun k => [iI (p k), iI (q k)]]); let z2 := (AV.fn (Fn.yield l) [] []); (branch (decide ((↑k : Int) < (↑(n - Int.toNat (1 : Int)) : Int))) (need [(0 : Int) ≤ (↑k : Int) ∧ (↑k : Int) < (↑(n - Int.toNat (1 : Int)) : Int)] (need [(0 : Int) ≤ (↑k : Int) ∧ (↑k : Int) < (↑n : Int)] (need [l = l, k < n - 1, [Value.agg { toList := [Value.int IntKind.i64 (p k), Value.int IntKind.i64 (q k)] }, Value.agg { toList := [Value.int IntKind.i64 (p (Int.toNat (1 : Int) + k)), Value.int IntKind.i64 (q (Int.toNat (1 : Int) + k))] }] = [Value.agg { toList := [Value.int IntKind.i64 (p k), Value.int IntKind.i64 (q k)] }, Value.agg { toList := [Value.int IntKind.i64 (p (k + 1)), Value.int IntKind.i64 (q (k + 1))] }]] (Tree.may True (need [inI64 ((↑k : Int) + 1)] (need [Eq1 z2, Eq1 z1, z0 = lst 2 (n - Int.toNat (1 : Int)) fun i => [iI (p (Int.toNat (1 : Int) + i)), iI (q (Int.toNat (1 : Int) + i))], Eq1 (↑(n - Int.toNat (1 : Int)) : Int), (↑k : Int) + 1 = (↑(k + 1) : Int), k + 1 = k + 1] (leaf AEx.normal))) (need [Eq1 z2, Eq1 z1, z0 = lst 2 (n - Int.toNat (1 : Int)) fun i => [iI (p (Int.toNat (1 : Int) + i)), iI (q (Int.toNat (1 : Int) + i))], Eq1 (↑(n - Int.toNat (1 : Int)) : Int)] (leaf AEx.ret)))))) (need [Eq1 z2, Eq1 z1, z0 = lst 2 (n - Int.toNat (1 : Int)) fun i => [iI (p (Int.toNat (1 : Int) + i)), iI (q (Int.toNat (1 : Int) + i))], Eq1 (↑(n - Int.toNat (1 : Int)) : Int), k = n - 1] (leaf (AEx.exit 0))))) := by kernel_rfl
  rw [e]
  simp only [T_sp, out_sp, Tree.sat, Option.getD_some] at hQ
  have hQ1 : ∀ E, out_sp l n p q k (.exit 0) = some E → Q (.exit 0, E) := fun E hE => by cases hE; exact hQ.1 trivial
  have hQ2 : ∀ E, out_sp l n p q k .ret = some E → Q (.ret, E) := fun E hE => by cases hE; exact hQ.2
  have t1 : Int.toNat (1 : Int) = 1 := rfl
  have t2 : 1 + k = k + 1 := by omega
  simp only [Tree.sat, allP, true_and, and_true, decide_eq_true_eq, decide_eq_false_iff_not, inI64, Int.toNat_natCast, t1, t2]
  clear e hQ
  repeat' first | with_reducible apply And.intro | with_reducible intro _
  all_goals first | exact True.intro | omega | with_reducible rfl | exact hQ1 _ (by assumption) | exact hQ2 _ (by assumption)
theorem spans1_seq (n : Nat) (p q : Nat → Int) (pre0 : 1 ≤ n ∧ n ≤ 100000) : SoundSeq Try.prog 92 [.ro [scs n p q]] ((n - 1)) (spV p q) := by
 refine soundSeq_fin (G := []) (L := fun l => [LS_sp l n p q]) (SoundG.nil _) mixed ⟨_, Try.func92, by kernel_rfl, by kernel_rfl⟩ Try.func92 (show Try.f92.body = some (bodyOf Try.f92) by kernel_rfl) (by kernel_rfl) (fun l cx hX => one_loop (lpE (b := .loop B_sp) (by kernel_rfl) <| sp_lc l n p q pre0 hX)) (t := fun l => (need [(0 : Int) ≤ 1 ∧ (1 : Int) ≤ (↑n : Int) ∧ (↑n : Int) ≤ (↑n : Int)] (need [Eq1 (AV.fn (Fn.yield l) [] []), Eq1 (AV.ro [lst 2 n fun k => [iI (p k), iI (q k)]]), (lst 2 (n - Int.toNat (1 : Int)) fun i => [iI (p (Int.toNat (1 : Int) + i)), iI (q (Int.toNat (1 : Int) + i))]) = lst 2 (n - Int.toNat (1 : Int)) fun i => [iI (p (Int.toNat (1 : Int) + i)), iI (q (Int.toNat (1 : Int) + i))], Eq1 (↑(n - Int.toNat (1 : Int)) : Int), (0 : Int) = (↑(0 : Nat) : Int), 0 = 0] (Tree.may True (need [n - 1 = n - 1] (leaf PUnit.unit)) (leaf PUnit.unit))))) (fun l => by kernel_rfl) ?_
 intro l
 simp only [Tree.sat, allP, fitP, fitL, valEq, inI64, true_and, and_true, decide_eq_true_eq, decide_eq_false_iff_not, Int.natCast_zero, Int.toNat_natCast]
 repeat' first | with_reducible apply And.intro | with_reducible intro _
 all_goals first | exact True.intro | omega | with_reducible rfl | assumption
noncomputable def E_bo (n : Nat) (p q : Nat → Int) (y : Int) : St := (some { σ := [lst 2 n fun k => [iI (p k), iI (q k)], iI y, top, ptr 0 0, ptr 1 0, top, top, top, AV.fn (Fn.func 92) [] [AV.ro [lst 2 n fun k => [iI (p k), iI (q k)]]]] ++ tpL 25 [], m := [(1, Res.cells 3 [iI (0 : Int)]), (0, Res.cells 3 [iI y])], nx := 4 } : Option St).getD { σ := [], m := [], nx := 0 }
def rfF : Option Code → Operand
 | some (.rangeFunc f _ _ _) => f
 | _ => .const .nilFunc
def rfPs : Option Code → Array Nat
 | some (.rangeFunc _ ps _ _) => ps
 | _ => #[]
def rfAs : Option Code → Code
 | some (.rangeFunc _ _ a _) => a
 | _ => .skip
def rfBd : Option Code → Code
 | some (.rangeFunc _ _ _ b) => b
 | _ => .skip
noncomputable def A_bo : Code := rfAs (loopAt (bodyOf Try.f68) 0)
noncomputable def B_bo : Code := rfBd (loopAt (bodyOf Try.f68) 0)
noncomputable def inv_bo (n : Nat) (p q : Nat → Int) (y : Int) (k : Nat) : St := { σ := ovrS [] (E_bo n p q y).σ, m := (E_bo n p q y).m, nx := (E_bo n p q y).nx }
noncomputable def out_bo (n : Nat) (p q : Nat → Int) (y : Int) (k : Nat) : AEx → Option St := fun ex => match ex with
 | .ret => some { σ := ovrS [] (E_bo n p q y).σ, m := [(1, .cells 3 [i (boilI n p q y)])], nx := (E_bo n p q y).nx }
 | _ => none
noncomputable def T_bo (n : Nat) (p q : Nat → Int) (y : Int) : CT := .leaf (.ret, ( out_bo n p q y 0 .ret).getD (E_bo n p q y))
noncomputable def LS_bo (n : Nat) (p q : Nat → Int) (y : Int) : LSpec := normSp [] (sumL (inv_bo n p q y (0)) (T_bo n p q y))
theorem bo_ln (n : Nat) (p q : Nat → Int) (y : Int) (pre0 : 2 ≤ n ∧ n ≤ 100000) (pre1 : tabB n p q = true) (pre2 : -100000 ≤ y ∧ y ≤ p (n - 1)) : LSoundN Try.prog (.rangeFunc (rfF (loopAt (bodyOf Try.f68) 0)) (rfPs (loopAt (bodyOf Try.f68) 0)) A_bo B_bo) (LS_bo n p q y) := by
 refine range_rounds [] (G := []) (X := { R := [(83, S_spans)], H := [] }) (L := []) (SoundG.nil _) (SoundX.of (SoundRL.cons spans_okR (SoundRL.nil _)) (SoundHL.nil _)) mixed noLoops (V := Nat) (inv_bo n p q y) (fun k => k ≤ n - 1 ∧ ∀ j, j < k → decide (y ≤ p (j + 1)) = false) (fun k => k) (out_bo n p q y) (x0 := 0) ⟨by omega, fun j hj => by omega⟩ rfl ?_ ?_ ?_ ?_ (g := 92) (caps := [.ro [scs n p q]]) (by kernel_rfl) (by kernel_rfl) (spans1_seq n p q (by omega)) (fun _ => rfl) ?_
 ·rintro k
  kernel_rfl
 ·rintro k y E h
  unfold out_bo at h
  split at h
  ·cases h; kernel_rfl
  ·cases h
 ·rintro k
  rfl
 ·rintro k y E h
  unfold out_bo at h
  split at h
  ·cases h; rfl
  ·cases h
 ·rintro Q hQ k hx
  refine ⟨fun hlt => ⟨(k + 1), rfl, ?_⟩, fun hend => ?_⟩
  ·have e : roundR Try.prog [] { R := [(83, S_spans)], H := [] } [] [] (rfPs (loopAt (bodyOf Try.f68) 0)).toList ((spV p q) (k)) A_bo B_bo (inv_bo n p q y k) (inv_bo n p q y ((k + 1))) (out_bo n p q y k) = (branch (decide (y ≤ p (k + 1))) (need [inI64 (q (k + 1) - q k)] (need [inI64 (y - p k)] (need [inI64 ((q (k + 1) - q k) * (y - p k))] (need [inI64 (p (k + 1) - p k)] (need [p (k + 1) - p k ≠ (0 : Int), inI64 (Int.tdiv ((q (k + 1) - q k) * (y - p k)) (p (k + 1) - p k))] (need [inI64 (q k + Int.tdiv ((q (k + 1) - q k) * (y - p k)) (p (k + 1) - p k))] (need [(lst 2 n fun k => [iI (p k), iI (q k)]) = lst 2 n fun k => [iI (p k), iI (q k)], y = y, Eq1 (ptr 0 0), Eq1 (ptr 1 0), Eq1 (AV.fn (Fn.func 92) [] [AV.ro [lst 2 n fun k => [iI (p k), iI (q k)]]]), q k + Int.tdiv ((q (k + 1) - q k) * (y - p k)) (p (k + 1) - p k) = boilI n p q y] (leaf AEx.ret)))))))) (need [(lst 2 n fun k => [iI (p k), iI (q k)]) = lst 2 n fun k => [iI (p k), iI (q k)], y = y, Eq1 (ptr 0 0), Eq1 (ptr 1 0), Eq1 (AV.fn (Fn.func 92) [] [AV.ro [lst 2 n fun k => [iI (p k), iI (q k)]]]), Eq1 (0 : Int), y = y] (leaf AEx.normal))) := by kernel_rfl
   rw [e]
   simp only [T_bo, out_bo, Tree.sat, Option.getD_some] at hQ
   have hQ2 : ∀ E, out_bo n p q y k .ret = some E → Q (.ret, E) := fun E hE => by cases hE; exact hQ
   simp only [Tree.sat, allP, true_and, and_true, decide_eq_true_eq, decide_eq_false_iff_not, inI64]
   clear e hQ
   have sl := tab_step pre1 (show n - 1 < n by omega)
   have s0 := tab_step pre1 (show k < n by omega)
   have s1 := tab_step pre1 (show k + 1 < n by omega)
   simp only [Nat.add_sub_cancel] at s1
   have m := mul_bd (x := q (k + 1) - q k) (y := y - p k) (X := 2000) (Y := 200000) (by omega) (by omega)
   have dv : (((q (k + 1) - q k) * (y - p k)).tdiv (p (k + 1) - p k)).natAbs ≤ ((q (k + 1) - q k) * (y - p k)).natAbs := by
    rw [Int.natAbs_tdiv]
    exact Nat.div_le_self _ _
   refine ⟨fun h => ?_, fun h => ?_⟩
   ·have hf : segI n p y = k := fstI_eq hlt (by simpa using h) hx.2
    have hbo : boilI n p q y = q k + ((q (k + 1) - q k) * (y - p k)).tdiv (p (k + 1) - p k) := by unfold boilI; rw [hf]; rfl
    rw [hbo]
    repeat' first | with_reducible apply And.intro | with_reducible intro _
    all_goals first | exact True.intro | omega | with_reducible rfl | exact hQ2 _ (by assumption)
   ·refine ⟨by omega, fun j hj => ?_⟩
    rcases (show j < k ∨ j = k by omega) with h1 | rfl
    ·have := hx.2 j h1
     simpa using this
    ·exact h
  ·exfalso
   have := hx.2 (n - 2) (by omega)
   rw [show n - 2 + 1 = n - 1 by omega] at this
   simp at this
   omega
theorem boil_at (n : Nat) (p q : Nat → Int) (y : Int) (pre0 : 2 ≤ n ∧ n ≤ 100000) (pre1 : tabB n p q = true) (pre2 : -100000 ≤ y ∧ y ≤ p (n - 1)) : SoundAt Try.prog 68 [scs n p q, i y] (i (boilI n p q y)) := by
 refine soundAt_finX (G := []) (X := { R := [(83, S_spans)], H := [] }) (L := [LS_bo n p q y]) (SoundG.nil _) (SoundX.of (SoundRL.cons spans_okR (SoundRL.nil _)) (SoundHL.nil _)) mixed Try.func68 (show Try.f68.body = some (bodyOf Try.f68) by kernel_rfl) (one_loop (lpE (b := .rangeFunc (rfF (loopAt (bodyOf Try.f68) 0)) (rfPs (loopAt (bodyOf Try.f68) 0)) A_bo B_bo) (by kernel_rfl) <| bo_ln n p q y pre0 pre1 pre2)) (t := (need [(lst 2 n fun k => [iI (p k), iI (q k)]) = lst 2 n fun k => [iI (p k), iI (q k)], y = y, Eq1 (ptr 0 0), Eq1 (ptr 1 0), Eq1 (AV.fn (Fn.func 92) [] [AV.ro [lst 2 n fun k => [iI (p k), iI (q k)]]]), Eq1 (0 : Int), y = y] (leaf (RV.x (Value.int IntKind.i64 (boilI n p q y)))))) (by kernel_rfl) ?_
 simp only [Tree.sat, allP, fitP, fitL, valEq, inI64, true_and, and_true]
 all_goals first | omega | grind
def S_boil : Sx.Spec := fun l => match l with
 | [.lst 2 n f, .x (.int .i64 y)] => some ([isRec 2 n f, 2 ≤ n ∧ n ≤ 100000, tabB n (col 0 f) (col 1 f) = true, -100000 ≤ y ∧ y ≤ col 0 f (n - 1)], i (boilI n (col 0 f) (col 1 f) y))
 | _ => none
theorem boil_ok : SoundSpec Try.prog 68 S_boil := by
 refine ⟨⟨_, Try.func68, by kernel_rfl, by kernel_rfl⟩, ?_⟩
 intro avs ns res h hn
 unfold S_boil at h
 split at h
 ·rename_i n f y
  cases h
  have hr : isRec 2 n f := hn _ (by simp)
  exact (boil_at n (col 0 f) (col 1 f) y (hn _ (by simp)) (hn _ (by simp)) (hn _ (by simp))).same (.cons (.lst 2 n _ _ hr) (.cons (.refl _) .nil))
 ·cases h
def blE (n : Nat) (p q : Nat → Int) (lo hi : Int) : Int := if tbE n p q = 0 then (if insB (p 0) lo hi (p (n - 1)) then 0 else 2) else tbE n p q
def blLo (n : Nat) (p q : Nat → Int) (lo hi : Int) : Int := if blE n p q lo hi = 0 then boilI n p q lo else 0
def blHi (n : Nat) (p q : Nat → Int) (lo hi : Int) : Int := if blE n p q lo hi = 0 then boilI n p q hi else 0
theorem tbE_ok {n : Nat} {p q : Nat → Int} (h : tbE n p q = 0) : 2 ≤ n ∧ n ≤ 8 ∧ tabB n p q = true := by
 unfold tbE at h
 split at h
 ·omega
 ·split at h
  ·omega
  ·split at h
   ·rename_i h3; exact ⟨by omega, by omega, h3⟩
   ·omega
theorem Boils_at (n : Nat) (p q : Nat → Int) (lo hi : Int) (pre0 : n ≤ 100000) : SoundAt Try.prog 56 [scs n p q, .agg [i lo, i hi]] (.tup [.agg [i (blLo n p q lo hi), i (blHi n p q lo hi)], i (blE n p q lo hi)]) := by
 refine soundAt_fin (G := [(66, S_table), (67, S_inside), (68, S_boil)]) (L := []) (SoundG.cons table_ok (SoundG.cons inside_ok (SoundG.cons boil_ok (SoundG.nil _)))) mixed Try.func56 (show Try.f56.body = some (bodyOf Try.f56) by kernel_rfl) noLoops (t := (let z0 := (Value.int IntKind.i64 (0 : Int)); (need [isRec 2 n fun k => [i (p k), i (q k)], n ≤ 100000] (branch (tbE n p q != (0 : Int)) (leaf (RV.tup [RV.agg [RV.x z0, RV.x z0], RV.x (Value.int IntKind.i64 (tbE n p q))])) (need [(0 : Int) ≤ 0 ∧ (0 : Int) < (↑n : Int)] (need [inI64 ((↑n : Int) - 1)] (need [(0 : Int) ≤ (↑n : Int) - 1 ∧ (↑n : Int) - 1 < (↑n : Int)] (branch (!insB (p (Int.toNat (0 : Int))) lo hi (p (Int.toNat ((↑n : Int) - 1)))) (leaf (RV.tup [RV.agg [RV.x z0, RV.x z0], RV.x (Value.int IntKind.i64 (2 : Int))])) (need [isRec 2 n fun k => [i (p k), i (q k)], 2 ≤ n ∧ n ≤ 100000, tabB n p q = true, (-100000 : Int) ≤ lo ∧ lo ≤ p (n - 1)] (need [isRec 2 n fun k => [i (p k), i (q k)], 2 ≤ n ∧ n ≤ 100000, tabB n p q = true, (-100000 : Int) ≤ hi ∧ hi ≤ p (n - 1)] (leaf (RV.tup [RV.agg [RV.x (Value.int IntKind.i64 (boilI n p q lo)), RV.x (Value.int IntKind.i64 (boilI n p q hi))], RV.x z0])))))))))))) (by kernel_rfl) ?_
 simp only [Tree.sat, allP, fitP, fitL, valEq, true_and, and_true, col20, col21, inI64, show Int.toNat (0 : Int) = 0 from rfl]
 refine ⟨⟨isRec2 n p q, pre0⟩, fun h => ?_, fun h => ?_⟩
 ·have h' : tbE n p q ≠ 0 := by simpa using h
  simp [blLo, blHi, blE, h']
 ·have h' : tbE n p q = 0 := by simpa using h
  obtain ⟨t1, t2, t3⟩ := tbE_ok h'
  have e1 : Int.toNat ((n : Int) - 1) = n - 1 := by omega
  have s0 := tab_step t3 (show 0 < n by omega)
  simp only [e1]
  refine ⟨by omega, by omega, by omega, fun h2 => ?_, fun h2 => ?_⟩
  ·have h2' : insB (p 0) lo hi (p (n - 1)) = false := by simpa using h2
   simp [blLo, blHi, blE, h', h2']
  ·have h2' : insB (p 0) lo hi (p (n - 1)) = true := by simpa using h2
   have b := (insB_iff _ _ _ _).1 h2'
   refine ⟨⟨isRec2 n p q, by omega, t3, by omega⟩, ⟨isRec2 n p q, by omega, t3, by omega⟩, ?_⟩
   simp [blLo, blHi, blE, h', h2']
def S_Boils : Sx.Spec := fun l => match l with
 | [.lst 2 n f, .agg [.x (.int .i64 lo), .x (.int .i64 hi)]] => some ([isRec 2 n f, n ≤ 100000], .tup [.agg [i (blLo n (col 0 f) (col 1 f) lo hi), i (blHi n (col 0 f) (col 1 f) lo hi)], i (blE n (col 0 f) (col 1 f) lo hi)])
 | _ => none
theorem blE_ok {n : Nat} {p q : Nat → Int} {lo hi : Int} (h : blE n p q lo hi = 0) : 2 ≤ n ∧ n ≤ 8 ∧ tabB n p q = true ∧ p 0 ≤ lo ∧ lo ≤ hi ∧ hi ≤ p (n - 1) := by
 unfold blE at h
 split at h
 ·rename_i h1
  obtain ⟨t1, t2, t3⟩ := tbE_ok h1
  split at h
  ·rename_i h2
   have := (insB_iff _ _ _ _).1 h2
   exact ⟨t1, t2, t3, this⟩
  ·omega
 ·contradiction
theorem Boils_ok : SoundSpec Try.prog 56 S_Boils := by
 refine ⟨⟨_, Try.func56, by kernel_rfl, by kernel_rfl⟩, ?_⟩
 intro avs ns res h hn
 unfold S_Boils at h
 split at h
 ·rename_i n f lo hi
  cases h
  have hr : isRec 2 n f := hn _ (by simp)
  exact (Boils_at n (col 0 f) (col 1 f) lo hi (hn _ (by simp))).same (.cons (.lst 2 n _ _ hr) (.cons (.refl _) .nil))
 ·cases h
end Go.Proofs.Ytlinbkmpkcmniaa.Pt
namespace Go.Proofs.Ytlinbkmpkcmniaa.Bo
open Go Go.Sx Go.RowKit Go.ChangeShapes Go.WideShapes Go.ChangeAt
open Go.Sx.Tree (need branch leaf)
open Go.Sx.AV (lst ptr agg roI tup top)
theorem mixed : Try.prog.follows .mixedOrders = true := by kernel_rfl
abbrev i (n : Int) : AV := .x (.int .i64 n)
abbrev iI (n : Int) : AV := .x (.int .i64 n)
abbrev bl (b : Bool) : AV := .x (.bool b)
def bt (lo n hi : Int) : Bool := decide (lo ≤ n) && decide (n ≤ hi)
theorem bt_iff (lo n hi : Int) : bt lo n hi = true ↔ lo ≤ n ∧ n ≤ hi := by simp [bt]
def insB (lo a b hi : Int) : Bool := decide (lo ≤ a) && decide (a ≤ b) && decide (b ≤ hi)
theorem insB_iff (lo a b hi : Int) : insB lo a b hi = true ↔ lo ≤ a ∧ a ≤ b ∧ b ≤ hi := by simp [insB, and_assoc]
def tubeB (c T lo hi : Int) : Bool := bt 1 c 10 && insB 1 lo hi 200 && bt 1 T 2000 && bt (c * lo) T (c * hi)
def rdB (c a b u v : Int) : Bool := bt 0 a (c - 1) && bt a b c && insB 0 u v 2000
def S_within : Sx.Spec := fun l => match l with
 | [.x (.int .i64 n), .x (.int .i64 lo), .x (.int .i64 hi)] => some ([], bl (bt lo n hi))
 | _ => none
theorem within_at (n lo hi : Int) : SoundAt Try.prog 69 [i n, i lo, i hi] (bl (bt lo n hi)) := by
 refine soundAt_fin (G := []) (L := []) (SoundG.nil _) mixed Try.func69 (show Try.f69.body = some (bodyOf Try.f69) by kernel_rfl) noLoops (t := (branch (decide (lo ≤ n)) (leaf (RV.x (Value.bool (decide (n ≤ hi))))) (leaf (RV.x (Value.bool false))))) (by kernel_rfl) ?_
 simp only [Tree.sat, allP, fitP, fitL, valEq, true_and, and_true]
 all_goals (simp +contextual [bt, insB, Bool.and_assoc])
 all_goals omega
theorem within_ok : SoundSpec Try.prog 69 S_within := by
 refine ⟨⟨_, Try.func69, by kernel_rfl, by kernel_rfl⟩, ?_⟩
 intro avs ns res h hn
 unfold S_within at h
 split at h
 ·cases h
  exact within_at _ _ _
 ·cases h
def S_inside : Sx.Spec := fun l => match l with
 | [.agg [.x (.int .i64 a), .x (.int .i64 b)], .x (.int .i64 lo), .x (.int .i64 hi)] => some ([], bl (insB lo a b hi))
 | _ => none
theorem inside_at (a b lo hi : Int) : SoundAt Try.prog 70 [.agg [i a, i b], i lo, i hi] (bl (insB lo a b hi)) := by
 refine soundAt_fin (G := []) (L := []) (SoundG.nil _) mixed Try.func70 (show Try.f70.body = some (bodyOf Try.f70) by kernel_rfl) noLoops (t := (branch (decide (lo ≤ a)) (branch (decide (a ≤ b)) (leaf (RV.x (Value.bool (decide (b ≤ hi))))) (leaf (RV.x (Value.bool false)))) (leaf (RV.x (Value.bool false))))) (by kernel_rfl) ?_
 simp only [Tree.sat, allP, fitP, fitL, valEq, true_and, and_true]
 all_goals (simp +contextual [bt, insB, Bool.and_assoc])
 all_goals omega
theorem inside_ok : SoundSpec Try.prog 70 S_inside := by
 refine ⟨⟨_, Try.func70, by kernel_rfl, by kernel_rfl⟩, ?_⟩
 intro avs ns res h hn
 unfold S_inside at h
 split at h
 ·cases h
  exact inside_at _ _ _ _
 ·cases h
theorem mul_bd {x y X Y : Int} (hx : -X ≤ x ∧ x ≤ X) (hy : -Y ≤ y ∧ y ≤ Y) : -(X * Y) ≤ x * y ∧ x * y ≤ X * Y := by
 have h1 := Int.mul_nonneg (show 0 ≤ X - x by omega) (show 0 ≤ Y - y by omega)
 have h2 := Int.mul_nonneg (show 0 ≤ X + x by omega) (show 0 ≤ Y + y by omega)
 have h3 := Int.mul_nonneg (show 0 ≤ X - x by omega) (show 0 ≤ Y + y by omega)
 have h4 := Int.mul_nonneg (show 0 ≤ X + x by omega) (show 0 ≤ Y - y by omega)
 rw [Int.sub_mul, Int.mul_sub, Int.mul_sub] at h1
 rw [Int.add_mul, Int.mul_add, Int.mul_add] at h2
 rw [Int.sub_mul, Int.mul_add, Int.mul_add] at h3
 rw [Int.add_mul, Int.mul_sub, Int.mul_sub] at h4
 omega
def S_CheckTube : Sx.Spec := fun l => match l with
 | [.agg [.x (.int .i64 c), .x (.int .i64 T), .x (.int .i64 lo), .x (.int .i64 hi)]] => some ([], i (if tubeB c T lo hi then 0 else 1))
 | _ => none
theorem CheckTube_at (c T lo hi : Int) : SoundAt Try.prog 57 [.agg [i c, i T, i lo, i hi]] (i (if tubeB c T lo hi then 0 else 1)) := by
 refine soundAt_fin (G := [(69, S_within), (70, S_inside)]) (L := []) (SoundG.cons within_ok (SoundG.cons inside_ok (SoundG.nil _))) mixed Try.func57 (show Try.f57.body = some (bodyOf Try.f57) by kernel_rfl) noLoops (t := (let z0 := (leaf (RV.x (Value.int IntKind.i64 (1 : Int)))); (branch (!bt (1 : Int) c (10 : Int)) z0 (branch (!insB (1 : Int) lo hi (200 : Int)) z0 (branch (!bt (1 : Int) T (2000 : Int)) z0 (need [inI64 (c * lo)] (need [inI64 (c * hi)] (branch (!bt (c * lo) T (c * hi)) z0 (leaf (RV.x (Value.int IntKind.i64 (0 : Int)))))))))))) (by kernel_rfl) ?_
 simp only [Tree.sat, allP, fitP, valEq, true_and, and_true, inI64, tubeB]
 rcases Bool.eq_false_or_eq_true (bt 1 c 10) with h1 | h1
 rotate_left
 ·simp [h1]
 rcases Bool.eq_false_or_eq_true (insB 1 lo hi 200) with h2 | h2
 rotate_left
 ·simp [h1, h2]
 rcases Bool.eq_false_or_eq_true (bt 1 T 2000) with h3 | h3
 rotate_left
 ·simp [h1, h2, h3]
 have e1 := (bt_iff _ _ _).1 h1
 have e2 := (insB_iff _ _ _ _).1 h2
 have m1 := mul_bd (x := c) (y := lo) (X := 10) (Y := 200) (by omega) (by omega)
 have m2 := mul_bd (x := c) (y := hi) (X := 10) (Y := 200) (by omega) (by omega)
 rcases Bool.eq_false_or_eq_true (bt (c * lo) T (c * hi)) with h4 | h4 <;> simp [h1, h2, h3, h4] <;> omega
theorem CheckTube_ok : SoundSpec Try.prog 57 S_CheckTube := by
 refine ⟨⟨_, Try.func57, by kernel_rfl, by kernel_rfl⟩, ?_⟩
 intro avs ns res h hn
 unfold S_CheckTube at h
 split at h
 ·cases h
  exact CheckTube_at _ _ _ _
 ·cases h
def S_reading : Sx.Spec := fun l => match l with
 | [.agg [.x (.int .i64 c), .x (.int .i64 T), .x (.int .i64 lo), .x (.int .i64 hi)], .agg [.x (.int .i64 a), .x (.int .i64 b), .x (.int .i64 u), .x (.int .i64 v)]] => some ([1 ≤ c ∧ c ≤ 10], bl (rdB c a b u v))
 | _ => none
theorem reading_at (c T lo hi a b u v : Int) (pre0 : 1 ≤ c ∧ c ≤ 10) : SoundAt Try.prog 84 [.agg [i c, i T, i lo, i hi], .agg [i a, i b, i u, i v]] (bl (rdB c a b u v)) := by
 refine soundAt_fin (G := [(69, S_within), (70, S_inside)]) (L := []) (SoundG.cons within_ok (SoundG.cons inside_ok (SoundG.nil _))) mixed Try.func84 (show Try.f84.body = some (bodyOf Try.f84) by kernel_rfl) noLoops (t := (need [inI64 (c - (1 : Int))] (branch (bt (0 : Int) a (c - (1 : Int))) (branch (bt a b c) (leaf (RV.x (Value.bool (insB (0 : Int) u v (2000 : Int))))) (leaf (RV.x (Value.bool false)))) (leaf (RV.x (Value.bool false)))))) (by kernel_rfl) ?_
 simp only [Tree.sat, allP, fitP, valEq, true_and, and_true, inI64, rdB]
 refine ⟨by omega, ?_⟩
 cases h1 : bt 0 a (c - 1) <;> cases h2 : bt a b c <;> cases h3 : insB 0 u v 2000 <;> simp
theorem reading_ok : SoundSpec Try.prog 84 S_reading := by
 refine ⟨⟨_, Try.func84, by kernel_rfl, by kernel_rfl⟩, ?_⟩
 intro avs ns res h hn
 unfold S_reading at h
 split at h
 ·cases h
  exact reading_at _ _ _ _ _ _ _ _ (hn _ (by simp))
 ·cases h
end Go.Proofs.Ytlinbkmpkcmniaa.Bo
namespace Go.Proofs.Ytlinbkmpkcmniaa.Bo
open Go Go.Sx Go.RowKit
open Go.Sx.Tree (need branch leaf)
open Go.Sx.AV (lst ptr agg roI tup top)
theorem sMin_at (a b : Int) : SoundAt Try.prog 50 [.lst 1 2 (fun k => [i (if k = 0 then a else b)])] (i (min a b)) := by
 refine soundAt_fin (G := []) (L := [fun s => some (unrollT Try.prog [] [] (loopBody (loopAt (bodyOf Try.f50) 0)) 3 s)]) (SoundG.nil _) mixed Try.func50 (show Try.f50.body = some (bodyOf Try.f50) by kernel_rfl) (one_loop (lpE (b := .loop (loopBody (loopAt (bodyOf Try.f50) 0))) (by kernel_rfl) <| unroll_sound (SoundG.nil _) mixed noLoops _)) (t := (let z0 := (min (if Int.toNat (0 : Int) = 0 then a else b) (if Int.toNat (1 : Int) = 0 then a else b)); (branch (decide ((↑(2 : Nat) : Int) < 1)) Tree.fail (need [(0 : Int) ≤ 0 ∧ (0 : Int) < (↑(2 : Nat) : Int)] (branch (decide ((1 : Int) < (↑(2 : Nat) : Int))) (need [(0 : Int) ≤ 1 ∧ (1 : Int) < (↑(2 : Nat) : Int)] (need [inI64 ((1 : Int) + 1)] (branch (decide ((1 : Int) + 1 < (↑(2 : Nat) : Int))) (need [(0 : Int) ≤ 1 + (1 : Int) ∧ (1 : Int) + 1 < (↑(2 : Nat) : Int)] (need [inI64 ((1 : Int) + 1 + 1)] (branch (decide ((1 : Int) + 1 + 1 < (↑(2 : Nat) : Int))) (need [(0 : Int) ≤ 1 + (1 : Int) + 1 ∧ (1 : Int) + 1 + 1 < (↑(2 : Nat) : Int)] (need [inI64 ((1 : Int) + 1 + 1 + 1)] Tree.fail)) (leaf (RV.x (Value.int IntKind.i64 (min z0 (if Int.toNat ((1 : Int) + 1) = 0 then a else b)))))))) (leaf (RV.x (Value.int IntKind.i64 z0)))))) (leaf (RV.x (Value.int IntKind.i64 (if Int.toNat (0 : Int) = 0 then a else b))))))))) (by kernel_rfl) ?_
 simp [Tree.sat, allP, fitP, fitL, valEq, inI64]
theorem sMax_at (a b : Int) : SoundAt Try.prog 51 [.lst 1 2 (fun k => [i (if k = 0 then a else b)])] (i (max a b)) := by
 refine soundAt_fin (G := []) (L := [fun s => some (unrollT Try.prog [] [] (loopBody (loopAt (bodyOf Try.f51) 0)) 3 s)]) (SoundG.nil _) mixed Try.func51 (show Try.f51.body = some (bodyOf Try.f51) by kernel_rfl) (one_loop (lpE (b := .loop (loopBody (loopAt (bodyOf Try.f51) 0))) (by kernel_rfl) <| unroll_sound (SoundG.nil _) mixed noLoops _)) (t := (let z0 := (max (if Int.toNat (0 : Int) = 0 then a else b) (if Int.toNat (1 : Int) = 0 then a else b)); (branch (decide ((↑(2 : Nat) : Int) < 1)) Tree.fail (need [(0 : Int) ≤ 0 ∧ (0 : Int) < (↑(2 : Nat) : Int)] (branch (decide ((1 : Int) < (↑(2 : Nat) : Int))) (need [(0 : Int) ≤ 1 ∧ (1 : Int) < (↑(2 : Nat) : Int)] (need [inI64 ((1 : Int) + 1)] (branch (decide ((1 : Int) + 1 < (↑(2 : Nat) : Int))) (need [(0 : Int) ≤ 1 + (1 : Int) ∧ (1 : Int) + 1 < (↑(2 : Nat) : Int)] (need [inI64 ((1 : Int) + 1 + 1)] (branch (decide ((1 : Int) + 1 + 1 < (↑(2 : Nat) : Int))) (need [(0 : Int) ≤ 1 + (1 : Int) + 1 ∧ (1 : Int) + 1 + 1 < (↑(2 : Nat) : Int)] (need [inI64 ((1 : Int) + 1 + 1 + 1)] Tree.fail)) (leaf (RV.x (Value.int IntKind.i64 (max z0 (if Int.toNat ((1 : Int) + 1) = 0 then a else b)))))))) (leaf (RV.x (Value.int IntKind.i64 z0)))))) (leaf (RV.x (Value.int IntKind.i64 (if Int.toNat (0 : Int) = 0 then a else b))))))))) (by kernel_rfl) ?_
 simp [Tree.sat, allP, fitP, fitL, valEq, inI64]
def S_sMin : Sx.Spec := fun l => match l with
 | [.lst 1 2 f] => (match f 0, f 1 with
  | [.x (.int .i64 a)], [.x (.int .i64 b)] => some ([], i (min a b))
  | _, _ => none)
 | _ => none
theorem sMin_ok : SoundSpec Try.prog 50 S_sMin := by
 refine ⟨⟨_, Try.func50, by kernel_rfl, by kernel_rfl⟩, ?_⟩
 intro avs ns res h hn
 unfold S_sMin at h
 split at h
 ·rename_i f
  split at h
  ·rename_i a b h0 h1
   cases h
   refine (sMin_at a b).same (.cons (.lst 1 2 _ _ ?_) .nil)
   intro k hk
   rcases (show k = 0 ∨ k = 1 by omega) with rfl | rfl
   ·exact h0
   ·exact h1
  ·cases h
 ·cases h
def S_sMax : Sx.Spec := fun l => match l with
 | [.lst 1 2 f] => (match f 0, f 1 with
  | [.x (.int .i64 a)], [.x (.int .i64 b)] => some ([], i (max a b))
  | _, _ => none)
 | _ => none
theorem sMax_ok : SoundSpec Try.prog 51 S_sMax := by
 refine ⟨⟨_, Try.func51, by kernel_rfl, by kernel_rfl⟩, ?_⟩
 intro avs ns res h hn
 unfold S_sMax at h
 split at h
 ·rename_i f
  split at h
  ·rename_i a b h0 h1
   cases h
   refine (sMax_at a b).same (.cons (.lst 1 2 _ _ ?_) .nil)
   intro k hk
   rcases (show k = 0 ∨ k = 1 by omega) with rfl | rfl
   ·exact h0
   ·exact h1
  ·cases h
 ·cases h
theorem least_at (a b : Int) : SoundAt Try.prog 95 [.lst 1 2 (fun k => [i (if k = 0 then a else b)])] (i (min a b)) := by
 refine soundAt_fin (G := [(50, S_sMin)]) (L := []) (SoundG.cons sMin_ok (SoundG.nil _)) mixed Try.func95 (show Try.f95.body = some (bodyOf Try.f95) by kernel_rfl) noLoops (t := (leaf (RV.x (Value.int IntKind.i64 (min (if 0 = 0 then a else b) (if 1 = 0 then a else b)))))) (by kernel_rfl) ?_
 simp [Tree.sat, fitP, valEq]
def S_least : Sx.Spec := S_sMin
theorem least_ok : SoundSpec Try.prog 95 S_least := by
 refine ⟨⟨_, Try.func95, by kernel_rfl, by kernel_rfl⟩, ?_⟩
 intro avs ns res h hn
 unfold S_least S_sMin at h
 split at h
 ·rename_i f
  split at h
  ·rename_i a b h0 h1
   cases h
   refine (least_at a b).same (.cons (.lst 1 2 _ _ ?_) .nil)
   intro k hk
   rcases (show k = 0 ∨ k = 1 by omega) with rfl | rfl
   ·exact h0
   ·exact h1
  ·cases h
 ·cases h
end Go.Proofs.Ytlinbkmpkcmniaa.Bo
namespace Go.Proofs.Ytlinbkmpkcmniaa.Bo
open Go Go.Sx Go.RowKit
open Go.Sx.Tree (need branch leaf)
open Go.Sx.AV (lst ptr agg roI tup top)
noncomputable def H_bound : HSpec := inlH Try.prog [(95, S_least)] {} [] Try.f86 (bodyOf Try.f86)
theorem bound_okH : SoundHSpec Try.prog 86 H_bound :=
 inl_sound (G := [(95, S_least)]) (X := {}) (L := []) (SoundG.cons least_ok (SoundG.nil _)) (SoundX.of (SoundRL.nil _) (SoundHL.nil _)) mixed ⟨_, Try.func86, by kernel_rfl, by kernel_rfl⟩ Try.func86 (show Try.f86.body = some (bodyOf Try.f86) by kernel_rfl) noLoops
def siteF (c T lo hi : Int) (M : Nat → Nat → Int) (k : Nat) : Int := if k = 0 then c else if k = 1 then T else if k = 2 then lo else if k = 3 then hi else M ((k - 4) / 11) ((k - 4) % 11)
def set2 (M : Nat → Nat → Int) (a b : Nat) (v : Int) : Nat → Nat → Int := fun x y => if x = a ∧ y = b then v else M x y
def bnd (M : Nat → Nat → Int) (a b : Nat) (v : Int) : Nat → Nat → Int := set2 M a b (min (M a b) v)
def ini (c : Nat) (k j : Nat) : Nat → Nat → Int := fun x y => if ((x < k ∧ y ≤ c) ∨ (x = k ∧ y < j)) ∧ x ≠ y then 2000 else 0
theorem site_ini (c T lo hi : Int) (cc : Nat) : ∀ k, nthJ (c :: T :: lo :: hi :: List.replicate 121 0) k = siteF c T lo hi (ini cc 0 0) k := by
 intro k
 rcases k with _ | _ | _ | _ | k
 ·rfl
 ·rfl
 ·rfl
 ·rfl
 ·have h : nthJ (c :: T :: lo :: hi :: List.replicate 121 0) (k + 4) = nthJ (List.replicate 121 0) k := rfl
  rw [h, allZ_nth (by decide)]
  simp [siteF, ini]
theorem updL_one (q : Nat) (v : Int) (f : Nat → Int) : updL q [v] f = updI q v f := rfl
theorem site_get (c T lo hi : Int) (M : Nat → Nat → Int) {a b q : Nat} (hq : q = 4 + a * 11 + b) (hb : b < 11) : siteF c T lo hi M q = M a b := by
 unfold siteF
 rw [if_neg (by omega), if_neg (by omega), if_neg (by omega), if_neg (by omega), show (q - 4) / 11 = a by omega, show (q - 4) % 11 = b by omega]
theorem site_congr (c T lo hi : Int) {M M' : Nat → Nat → Int} (h : ∀ x y, x < 11 → y < 11 → M x y = M' x y) {k : Nat} (hk : k < 125) : siteF c T lo hi M k = siteF c T lo hi M' k := by
 unfold siteF
 split
 ·rfl
 split
 ·rfl
 split
 ·rfl
 split
 ·rfl
 exact h _ _ (by omega) (by omega)
theorem site_set (c T lo hi : Int) (M : Nat → Nat → Int) {a b q : Nat} (hq : q = 4 + a * 11 + b) (hb : b < 11) (v : Int) (k : Nat) : updI q v (siteF c T lo hi M) k = siteF c T lo hi (set2 M a b v) k := by
 unfold updI
 by_cases hk : k = q
 ·rw [if_pos hk, site_get _ _ _ _ _ (hk.trans hq) hb]
  simp [set2]
 ·rw [if_neg hk]
  unfold siteF
  by_cases h0 : k = 0
  ·rw [if_pos h0, if_pos h0]
  by_cases h1 : k = 1
  ·rw [if_neg h0, if_neg h0, if_pos h1, if_pos h1]
  by_cases h2 : k = 2
  ·rw [if_neg h0, if_neg h0, if_neg h1, if_neg h1, if_pos h2, if_pos h2]
  by_cases h3 : k = 3
  ·rw [if_neg h0, if_neg h0, if_neg h1, if_neg h1, if_neg h2, if_neg h2, if_pos h3, if_pos h3]
  rw [if_neg h0, if_neg h0, if_neg h1, if_neg h1, if_neg h2, if_neg h2, if_neg h3, if_neg h3]
  unfold set2
  rw [if_neg (by omega)]
theorem ini_step (c k j : Nat) (hj : j ≤ c) (h : k ≠ j) (x y : Nat) : set2 (ini c k j) k j 2000 x y = ini c k (j + 1) x y := by
 unfold set2 ini
 split
 ·rename_i hxy
  rw [if_pos ⟨.inr (by omega), by omega⟩]
 ·rename_i hxy
  by_cases h1 : ((x < k ∧ y ≤ c) ∨ (x = k ∧ y < j)) ∧ x ≠ y
  ·rw [if_pos h1, if_pos (by omega)]
  ·rw [if_neg h1, if_neg (by omega)]
theorem ini_same (c k : Nat) (x y : Nat) : ini c k k x y = ini c k (k + 1) x y := by
 unfold ini
 by_cases h1 : ((x < k ∧ y ≤ c) ∨ (x = k ∧ y < k)) ∧ x ≠ y
 ·rw [if_pos h1, if_pos (by omega)]
 ·rw [if_neg h1, if_neg (by omega)]
theorem ini_row (c k : Nat) (x y : Nat) : ini c k (c + 1) x y = ini c (k + 1) 0 x y := by
 unfold ini
 by_cases h1 : ((x < k ∧ y ≤ c) ∨ (x = k ∧ y < c + 1)) ∧ x ≠ y
 ·rw [if_pos h1, if_pos (by omega)]
 ·rw [if_neg h1, if_neg (by omega)]
abbrev rds (n : Nat) (a b u v : Nat → Int) : AV := .lst 4 n (fun k => [i (a k), i (b k), i (u k), i (v k)])
noncomputable def E_ra (c : Nat) (T lo hi : Int) (n : Nat) (a b u v : Nat → Int) : St := (some { σ := [agg [iI (↑c : Int), iI T, iI lo, iI hi], lst 4 n fun k => [iI (a k), iI (b k), iI (u k), iI (v k)], ptr 0 0, top, AV.x (Value.pointer none), AV.lit false, ptr 5 0] ++ tpL 15 [iI ((↑c : Int) + (1 : Int))] ++ tpL 155 [], m := [(5, Res.ints 153 [] 125 fun a => nthJ [(↑c : Int), T, lo, hi, 0, 0, 0, 0, 0, 0, 0, 0, 0, 0, 0, 0, 0, 0, 0, 0, 0, 0, 0, 0, 0, 0, 0, 0, 0, 0, 0, 0, 0, 0, 0, 0, 0, 0, 0, 0, 0, 0, 0, 0, 0, 0, 0, 0, 0, 0, 0, 0, 0, 0, 0, 0, 0, 0, 0, 0, 0, 0, 0, 0, 0, 0, 0, 0, 0, 0, 0, 0, 0, 0, 0, 0, 0, 0, 0, 0, 0, 0, 0, 0, 0, 0, 0, 0, 0, 0, 0, 0, 0, 0, 0, 0, 0, 0, 0, 0, 0, 0, 0, 0, 0, 0, 0, 0, 0, 0, 0, 0, 0, 0, 0, 0, 0, 0, 0, 0, 0, 0, 0, 0, 0] a), (0, Res.cells 25 [iI (↑c : Int), iI T, iI lo, iI hi])], nx := 11 } : Option St).getD { σ := [], m := [], nx := 0 }
noncomputable def B_ra : Code := loopBody (loopAt (bodyOf Try.f72) 0)
noncomputable def inv_ra (c : Nat) (T lo hi : Int) (n : Nat) (a b u v : Nat → Int) (k : Nat) : St := { σ := ovrS [(23, i k)] (E_ra c T lo hi n a b u v).σ, m := [(5, .ints 153 [] 125 (siteF c T lo hi (ini c k 0))), (0, .cells 25 [i c, i T, i lo, i hi])], nx := (E_ra c T lo hi n a b u v).nx }
noncomputable def out_ra (c : Nat) (T lo hi : Int) (n : Nat) (a b u v : Nat → Int) (k : Nat) : AEx → Option St := fun ex => match ex with
 | .exit 0 => some { σ := ovrS [(23, i ((c : Int) + 1))] (E_ra c T lo hi n a b u v).σ, m := [(5, .ints 153 [] 125 (siteF c T lo hi (ini c (c + 1) 0))), (0, .cells 25 [i c, i T, i lo, i hi])], nx := (E_ra c T lo hi n a b u v).nx }
 | _ => none
noncomputable def T_ra (c : Nat) (T lo hi : Int) (n : Nat) (a b u v : Nat → Int) : CT := .leaf (.exit 0, ( out_ra c T lo hi n a b u v 0 (.exit 0)).getD (E_ra c T lo hi n a b u v))
noncomputable def LS_ra (c : Nat) (T lo hi : Int) (n : Nat) (a b u v : Nat → Int) : LSpec := normSp [] (sumL (inv_ra c T lo hi n a b u v (0)) (T_ra c T lo hi n a b u v))
noncomputable def E_rb (c : Nat) (T lo hi : Int) (n : Nat) (a b u v : Nat → Int) (k : Nat) : St := (some { σ := [agg [iI (↑c : Int), iI T, iI lo, iI hi], lst 4 n fun k => [iI (a k), iI (b k), iI (u k), iI (v k)], ptr 0 0, top, AV.x (Value.pointer none), AV.lit false, ptr 5 0, iI (↑k : Int)] ++ tpL 14 [iI ((↑c : Int) + (1 : Int)), iI (↑k : Int), top, top, top, top, iI ((↑c : Int) + (1 : Int))] ++ tpL 149 [], m := [(5, Res.ints 153 [] 125 fun k_1 => siteF (↑c : Int) T lo hi (ini c k 0) k_1), (0, Res.cells 25 [iI (↑c : Int), iI T, iI lo, iI hi])], nx := 18 } : Option St).getD { σ := [], m := [], nx := 0 }
noncomputable def B_rb : Code := (loopBody (loopAt (loopBody (loopAt (bodyOf Try.f72) 0)) 0))
noncomputable def inv_rb (c : Nat) (T lo hi : Int) (n : Nat) (a b u v : Nat → Int) (k : Nat) (j : Nat) : St := { σ := ovrS [(29, i j)] (E_rb c T lo hi n a b u v k).σ, m := [(5, .ints 153 [] 125 (siteF c T lo hi (ini c k j))), (0, .cells 25 [i c, i T, i lo, i hi])], nx := (E_rb c T lo hi n a b u v k).nx }
noncomputable def out_rb (c : Nat) (T lo hi : Int) (n : Nat) (a b u v : Nat → Int) (k : Nat) (j : Nat) : AEx → Option St := fun ex => match ex with
 | .exit 2 => some { σ := ovrS [(29, i ((c : Int) + 1))] (E_rb c T lo hi n a b u v k).σ, m := [(5, .ints 153 [] 125 (siteF c T lo hi (ini c k (c + 1)))), (0, .cells 25 [i c, i T, i lo, i hi])], nx := (E_rb c T lo hi n a b u v k).nx }
 | _ => none
noncomputable def T_rb (c : Nat) (T lo hi : Int) (n : Nat) (a b u v : Nat → Int) (k : Nat) : CT := .leaf (.exit 2, ( out_rb c T lo hi n a b u v k 0 (.exit 2)).getD (E_rb c T lo hi n a b u v k))
noncomputable def LS_rb (c : Nat) (T lo hi : Int) (n : Nat) (a b u v : Nat → Int) (k : Nat) : LSpec := normSp [] (sumL (inv_rb c T lo hi n a b u v k (0)) (T_rb c T lo hi n a b u v k))
theorem rb_ls (c : Nat) (T lo hi : Int) (n : Nat) (a b u v : Nat → Int) (k : Nat) (pre0 : 1 ≤ c ∧ c ≤ 10) (pre1 : 1 ≤ lo ∧ lo ≤ hi ∧ hi ≤ 200 ∧ 1 ≤ T ∧ T ≤ 2000) (pre2 : k ≤ c) : LSound Try.prog (.loop B_rb) (LS_rb c T lo hi n a b u v k) := by
 refine loop_roundsX [] (E := { R := [], H := [(86, H_bound)] }) (G := [(95, S_least)]) (L := []) (SoundG.cons least_ok (SoundG.nil _)) (SoundX.of (SoundRL.nil _) (SoundHL.cons bound_okH (SoundHL.nil _))) mixed noLoops (X := Nat) (inv_rb c T lo hi n a b u v k) (fun j => j ≤ c + 1) (fun j => c + 1 - j) (out_rb c T lo hi n a b u v k) (x0 := 0) (by simp) ?_ ?_ ?_
 ·rintro j
  kernel_rfl
 ·rintro j y E h
  unfold out_rb at h
  split at h
  ·cases h; kernel_rfl
  ·cases h
 ·rintro Q hQ j hx
  refine ⟨(j + 1), ?_⟩
  have e : roundX Try.prog [(95, S_least)] { R := [], H := [(86, H_bound)] } [] [] B_rb (inv_rb c T lo hi n a b u v k j) (inv_rb c T lo hi n a b u v k ((j + 1))) (out_rb c T lo hi n a b u v k j) = (let z0 := (lst 4 n (rq4 a b u v)); let z1 := (agg [iI (↑c : Int), iI T, iI lo, iI hi]); let z2 := (AV.x (Value.pointer none)); (branch (decide ((↑j : Int) < (↑c : Int) + 1)) (branch ((↑k : Int) != (↑j : Int)) (need [(0 : Int) ≤ (↑k : Int) ∧ (↑k : Int) < (↑(11 : Nat) : Int)] (need [(0 : Int) ≤ (↑j : Int) ∧ (↑j : Int) < (↑(11 : Nat) : Int)] (need [j * 1 + (k * 11 + 4) + 1 ≤ 125] (need [inI64 ((↑j : Int) + 1)] (need [Eq1 z1, z0 = lst 4 n (rq4 a b u v), Eq1 (ptr 0 0), Eq1 z2, Eq1 (AV.lit false), Eq1 (ptr 5 0), Eq1 (↑k : Int), Eq1 ((↑c : Int) + 1), Eq1 (↑k : Int), Eq1 ((↑c : Int) + 1), (↑j : Int) + 1 = (↑(j + 1) : Int), 125 = 125, ∀ (k_1 : Nat), k_1 < 125 → updI (j * 1 + (k * 11 + 4)) (2000 : Int) (siteF (↑c : Int) T lo hi (ini c k j)) k_1 = siteF (↑c : Int) T lo hi (ini c k (j + 1)) k_1, Eq1 (↑c : Int), T = T, lo = lo, hi = hi] (leaf AEx.normal)))))) (need [inI64 ((↑j : Int) + 1)] (need [Eq1 z1, z0 = lst 4 n (rq4 a b u v), Eq1 (ptr 0 0), Eq1 z2, Eq1 (AV.lit false), Eq1 (ptr 5 0), Eq1 (↑k : Int), Eq1 ((↑c : Int) + 1), Eq1 (↑k : Int), Eq1 ((↑c : Int) + 1), (↑j : Int) + 1 = (↑(j + 1) : Int), 125 = 125, ∀ (k_1 : Nat), k_1 < 125 → siteF (↑c : Int) T lo hi (ini c k j) k_1 = siteF (↑c : Int) T lo hi (ini c k (j + 1)) k_1, Eq1 (↑c : Int), T = T, lo = lo, hi = hi] (leaf AEx.normal)))) (need [Eq1 z1, z0 = lst 4 n (rq4 a b u v), Eq1 (ptr 0 0), Eq1 z2, Eq1 (AV.lit false), Eq1 (ptr 5 0), Eq1 (↑k : Int), Eq1 ((↑c : Int) + 1), Eq1 (↑k : Int), Eq1 ((↑c : Int) + 1), (↑j : Int) = (↑c : Int) + 1, 125 = 125, ∀ (k_1 : Nat), k_1 < 125 → siteF (↑c : Int) T lo hi (ini c k j) k_1 = siteF (↑c : Int) T lo hi (ini c k (c + 1)) k_1, Eq1 (↑c : Int), T = T, lo = lo, hi = hi] (leaf (AEx.exit 2))))) := by kernel_rfl
  rw [e]
  simp only [T_rb, out_rb, Tree.sat, Option.getD_some] at hQ
  simp only [Tree.sat, allP, fitP, fitL, valEq, inI64, true_and, and_true, decide_eq_true_eq, decide_eq_false_iff_not, Int.natCast_zero, Int.toNat_natCast, bne_iff_ne, ne_eq, bne_eq_false_iff_eq, List.length_cons, List.length_nil, updL_one, out_rb]
  clear e
  
  refine ⟨fun h => ⟨fun hne => ?_, fun heq => ?_⟩, fun h => ?_⟩
  ·(repeat' first | with_reducible apply And.intro | with_reducible intro _)
   all_goals first | exact True.intro | omega | with_reducible rfl | (rename_i E hE; cases hE; exact hQ) | rfl | (exact (site_set c T lo hi _ (by omega) (by omega) _ _).trans (site_congr c T lo hi (fun x y _ _ => ini_step c k j (by omega) (by omega) x y) (by assumption)))
  ·obtain rfl : k = j := by omega
   (repeat' first | with_reducible apply And.intro | with_reducible intro _)
   all_goals first | exact True.intro | omega | with_reducible rfl | (rename_i E hE; cases hE; exact hQ) | rfl | (exact site_congr c T lo hi (fun x y _ _ => ini_same c k x y) (by assumption))
  ·obtain rfl : j = c + 1 := by omega
   (repeat' first | with_reducible apply And.intro | with_reducible intro _)
   all_goals first | exact True.intro | omega | with_reducible rfl | (rename_i E hE; cases hE; exact hQ) | rfl
theorem ra_ls (c : Nat) (T lo hi : Int) (n : Nat) (a b u v : Nat → Int) (pre0 : 1 ≤ c ∧ c ≤ 10) (pre1 : 1 ≤ lo ∧ lo ≤ hi ∧ hi ≤ 200 ∧ 1 ≤ T ∧ T ≤ 2000) : LSound Try.prog (.loop B_ra) (LS_ra c T lo hi n a b u v) := by
 refine loop_roundsX [] (E := { R := [], H := [(86, H_bound)] }) (G := [(95, S_least)]) (L := [depSp 7 (fun k => needSp [k ≤ c] (LS_rb c T lo hi n a b u v k))]) (SoundG.cons least_ok (SoundG.nil _)) (SoundX.of (SoundRL.nil _) (SoundHL.cons bound_okH (SoundHL.nil _))) mixed (one_loop (fun cj hcj => by
  have e : loopAt B_ra 0 = some (.loop B_rb) := by kernel_rfl
  rw [e] at hcj; cases hcj
  exact depSp_sound (fun k => needSp_sound (fun h => rb_ls c T lo hi n a b u v k pre0 pre1 h)))) (X := Nat) (inv_ra c T lo hi n a b u v) (fun k => k ≤ c + 1) (fun k => c + 1 - k) (out_ra c T lo hi n a b u v) (x0 := 0) (by simp) ?_ ?_ ?_
 ·rintro k
  kernel_rfl
 ·rintro k y E h
  unfold out_ra at h
  split at h
  ·cases h; kernel_rfl
  ·cases h
 ·rintro Q hQ k hx
  refine ⟨(k + 1), ?_⟩
  have e : roundX Try.prog [(95, S_least)] { R := [], H := [(86, H_bound)] } [depSp 7 (fun k => needSp [k ≤ c] (LS_rb c T lo hi n a b u v k))] [] B_ra (inv_ra c T lo hi n a b u v k) (inv_ra c T lo hi n a b u v ((k + 1))) (out_ra c T lo hi n a b u v k) = (let z0 := (lst 4 n (rq4 a b u v)); let z1 := (agg [iI (↑c : Int), iI T, iI lo, iI hi]); let z2 := (AV.x (Value.pointer none)); (branch (decide ((↑k : Int) < (↑c : Int) + 1)) (need [inI64 ((↑c : Int) + 1)] (need [k ≤ c] (need [Eq1 z1, z0 = lst 4 n (rq4 a b u v), Eq1 (ptr 0 0), Eq1 z2, Eq1 (AV.lit false), Eq1 (ptr 5 0), Eq1 (↑k : Int), Eq1 ((↑c : Int) + 1), Eq1 (↑k : Int), Eq1 ((↑c : Int) + 1), (0 : Int) = (↑(0 : Nat) : Int), 125 = 125, ∀ (k_1 : Nat), k_1 < 125 → siteF (↑c : Int) T lo hi (ini c k 0) k_1 = siteF (↑c : Int) T lo hi (ini c k 0) k_1, Eq1 (↑c : Int), T = T, lo = lo, hi = hi] (need [inI64 ((↑k : Int) + 1)] (need [Eq1 z1, z0 = lst 4 n (rq4 a b u v), Eq1 (ptr 0 0), Eq1 z2, Eq1 (AV.lit false), Eq1 (ptr 5 0), Eq1 ((↑c : Int) + 1), (↑k : Int) + 1 = (↑(k + 1) : Int), 125 = 125, ∀ (k_1 : Nat), k_1 < 125 → siteF (↑c : Int) T lo hi (ini c k (c + 1)) k_1 = siteF (↑c : Int) T lo hi (ini c (k + 1) 0) k_1, Eq1 (↑c : Int), T = T, lo = lo, hi = hi] (leaf AEx.normal)))))) (need [Eq1 z1, z0 = lst 4 n (rq4 a b u v), Eq1 (ptr 0 0), Eq1 z2, Eq1 (AV.lit false), Eq1 (ptr 5 0), Eq1 ((↑c : Int) + 1), (↑k : Int) = (↑c : Int) + 1, 125 = 125, ∀ (k_1 : Nat), k_1 < 125 → siteF (↑c : Int) T lo hi (ini c k 0) k_1 = siteF (↑c : Int) T lo hi (ini c (c + 1) 0) k_1, Eq1 (↑c : Int), T = T, lo = lo, hi = hi] (leaf (AEx.exit 0))))) := by kernel_rfl
  rw [e]
  simp only [T_ra, out_ra, Tree.sat, Option.getD_some] at hQ
  simp only [Tree.sat, allP, fitP, fitL, valEq, inI64, true_and, and_true, decide_eq_true_eq, decide_eq_false_iff_not, Int.natCast_zero, Int.toNat_natCast, bne_iff_ne, ne_eq, bne_eq_false_iff_eq, List.length_cons, List.length_nil, updL_one, out_ra]
  clear e
  
  refine ⟨fun h => ?_, fun h => ?_⟩
  ·(repeat' first | with_reducible apply And.intro | with_reducible intro _)
   all_goals first | exact True.intro | omega | with_reducible rfl | (rename_i E hE; cases hE; exact hQ) | rfl | (exact site_congr c T lo hi (fun x y _ _ => ini_row c k x y) (by assumption))
  ·obtain rfl : k = c + 1 := by omega
   (repeat' first | with_reducible apply And.intro | with_reducible intro _)
   all_goals first | exact True.intro | omega | with_reducible rfl | (rename_i E hE; cases hE; exact hQ) | rfl
end Go.Proofs.Ytlinbkmpkcmniaa.Bo
namespace Go.Proofs.Ytlinbkmpkcmniaa.Bo
open Go Go.Sx Go.RowKit
open Go.Sx.Tree (need branch leaf)
open Go.Sx.AV (lst ptr agg roI tup top)
def cel (c : Nat) (lo hi : Int) : Nat → Nat → Nat → Int
 | 0 => ini c (c + 1) 0
 | k + 1 => bnd (bnd (cel c lo hi k) k (k + 1) hi) (k + 1) k (-lo)
theorem bnd_set {c T lo hi : Int} {M : Nat → Nat → Int} {a b q : Nat} {v : Int} (hq : q = 4 + a * 11 + b) (hb : b < 11) : updI q (min (siteF c T lo hi M q) v) (siteF c T lo hi M) = siteF c T lo hi (bnd M a b v) := by
 funext k
 rw [site_set c T lo hi M hq hb, site_get c T lo hi M hq hb]
 rfl
noncomputable def E_rc (c : Nat) (T lo hi : Int) (n : Nat) (a b u v : Nat → Int) : St := (some { σ := [agg [iI (↑c : Int), iI T, iI lo, iI hi], lst 4 n fun k => [iI (a k), iI (b k), iI (u k), iI (v k)], ptr 0 0, top, AV.x (Value.pointer none), AV.lit false, ptr 5 0] ++ tpL 15 [iI ((↑c : Int) + (1 : Int)), iI ((↑c : Int) + (1 : Int))] ++ tpL 21 [iI (↑c : Int)] ++ tpL 132 [], m := [(5, Res.ints 153 [] 125 fun k => siteF (↑c : Int) T lo hi (ini c (c + 1) 0) k), (0, Res.cells 25 [iI (↑c : Int), iI T, iI lo, iI hi])], nx := 14 } : Option St).getD { σ := [], m := [], nx := 0 }
noncomputable def B_rc : Code := loopBody (loopAt (bodyOf Try.f72) 1)
noncomputable def inv_rc (c : Nat) (T lo hi : Int) (n : Nat) (a b u v : Nat → Int) (k : Nat) : St := { σ := ovrS [(46, i k)] (E_rc c T lo hi n a b u v).σ, m := [(5, .ints 153 [] 125 (siteF c T lo hi (cel c lo hi k))), (0, .cells 25 [i c, i T, i lo, i hi])], nx := (E_rc c T lo hi n a b u v).nx }
noncomputable def out_rc (c : Nat) (T lo hi : Int) (n : Nat) (a b u v : Nat → Int) (k : Nat) : AEx → Option St := fun ex => match ex with
 | .exit 4 => some { σ := ovrS [(46, i c)] (E_rc c T lo hi n a b u v).σ, m := [(5, .ints 153 [] 125 (siteF c T lo hi (cel c lo hi c))), (0, .cells 25 [i c, i T, i lo, i hi])], nx := (E_rc c T lo hi n a b u v).nx }
 | _ => none
noncomputable def T_rc (c : Nat) (T lo hi : Int) (n : Nat) (a b u v : Nat → Int) : CT := .leaf (.exit 4, ( out_rc c T lo hi n a b u v 0 (.exit 4)).getD (E_rc c T lo hi n a b u v))
noncomputable def LS_rc (c : Nat) (T lo hi : Int) (n : Nat) (a b u v : Nat → Int) : LSpec := normSp [] (sumL (inv_rc c T lo hi n a b u v (0)) (T_rc c T lo hi n a b u v))
theorem rc_ls (c : Nat) (T lo hi : Int) (n : Nat) (a b u v : Nat → Int) (pre0 : 1 ≤ c ∧ c ≤ 10) (pre1 : 1 ≤ lo ∧ lo ≤ hi ∧ hi ≤ 200 ∧ 1 ≤ T ∧ T ≤ 2000) : LSound Try.prog (.loop B_rc) (LS_rc c T lo hi n a b u v) := by
 refine loop_roundsX [] (E := { R := [], H := [(86, H_bound)] }) (G := [(95, S_least)]) (L := []) (SoundG.cons least_ok (SoundG.nil _)) (SoundX.of (SoundRL.nil _) (SoundHL.cons bound_okH (SoundHL.nil _))) mixed noLoops (X := Nat) (inv_rc c T lo hi n a b u v) (fun k => k ≤ c) (fun k => c - k) (out_rc c T lo hi n a b u v) (x0 := 0) (by simp) ?_ ?_ ?_
 ·rintro k
  kernel_rfl
 ·rintro k y E h
  unfold out_rc at h
  split at h
  ·cases h; kernel_rfl
  ·cases h
 ·rintro Q hQ k hx
  refine ⟨(k + 1), ?_⟩
  have e : roundX Try.prog [(95, S_least)] { R := [], H := [(86, H_bound)] } [] [] B_rc (inv_rc c T lo hi n a b u v k) (inv_rc c T lo hi n a b u v ((k + 1))) (out_rc c T lo hi n a b u v k) = (let z0 := (siteF (↑c : Int) T lo hi (cel c lo hi k) (Int.toNat ((↑k : Int) + 1) * 1 + (k * 11 + 4))); let z1 := (lst 4 n (rq4 a b u v)); (branch (decide ((↑k : Int) < (↑c : Int))) (need [inI64 ((↑k : Int) + 1)] (need [(0 : Int) ≤ (↑k : Int) ∧ (↑k : Int) < (↑(11 : Nat) : Int)] (need [(0 : Int) ≤ (↑k : Int) + 1 ∧ (↑k : Int) + 1 < (↑(11 : Nat) : Int)] (need [Int.toNat ((↑k : Int) + 1) * 1 + (k * 11 + 4) < 125] (need [(0 : Int) ≤ (↑k : Int) ∧ (↑k : Int) < (↑(11 : Nat) : Int)] (need [(0 : Int) ≤ (↑k : Int) + 1 ∧ (↑k : Int) + 1 < (↑(11 : Nat) : Int)] (need [Int.toNat ((↑k : Int) + 1) * 1 + (k * 11 + 4) + List.length [min z0 hi] ≤ 125] (need [inI64 ((↑k : Int) + 1)] (need [inI64 (-lo)] (need [(0 : Int) ≤ (↑k : Int) + 1 ∧ (↑k : Int) + 1 < (↑(11 : Nat) : Int)] (need [(0 : Int) ≤ (↑k : Int) ∧ (↑k : Int) < (↑(11 : Nat) : Int)] (need [k * 1 + (Int.toNat ((↑k : Int) + 1) * 11 + 4) < 125] (need [(0 : Int) ≤ (↑k : Int) + 1 ∧ (↑k : Int) + 1 < (↑(11 : Nat) : Int)] (need [(0 : Int) ≤ (↑k : Int) ∧ (↑k : Int) < (↑(11 : Nat) : Int)] (need [k * 1 + (Int.toNat ((↑k : Int) + 1) * 11 + 4) + List.length [min (updI (Int.toNat ((↑k : Int) + 1) * 1 + (k * 11 + 4)) (min z0 hi) (siteF (↑c : Int) T lo hi (cel c lo hi k)) (k * 1 + (Int.toNat ((↑k : Int) + 1) * 11 + 4))) (-lo)] ≤ 125] (need [inI64 ((↑k : Int) + 1)] (need [Eq1 (agg [iI (↑c : Int), iI T, iI lo, iI hi]), z1 = lst 4 n (rq4 a b u v), Eq1 (ptr 0 0), Eq1 (AV.x (Value.pointer none)), Eq1 (AV.lit false), Eq1 (ptr 5 0), Eq1 ((↑c : Int) + 1), Eq1 ((↑c : Int) + 1), Eq1 (↑c : Int), (↑k : Int) + 1 = (↑(k + 1) : Int), 125 = 125, ∀ (k_1 : Nat), k_1 < 125 → updI (k * 1 + (Int.toNat ((↑k : Int) + 1) * 11 + 4)) (min (updI (Int.toNat ((↑k : Int) + 1) * 1 + (k * 11 + 4)) (min z0 hi) (siteF (↑c : Int) T lo hi (cel c lo hi k)) (k * 1 + (Int.toNat ((↑k : Int) + 1) * 11 + 4))) (-lo)) (updL (Int.toNat ((↑k : Int) + 1) * 1 + (k * 11 + 4)) [min z0 hi] (siteF (↑c : Int) T lo hi (cel c lo hi k))) k_1 = siteF (↑c : Int) T lo hi (cel c lo hi (k + 1)) k_1, Eq1 (↑c : Int), T = T, lo = lo, hi = hi] (leaf AEx.normal)))))))))))))))))) (need [Eq1 (agg [iI (↑c : Int), iI T, iI lo, iI hi]), z1 = lst 4 n (rq4 a b u v), Eq1 (ptr 0 0), Eq1 (AV.x (Value.pointer none)), Eq1 (AV.lit false), Eq1 (ptr 5 0), Eq1 ((↑c : Int) + 1), Eq1 ((↑c : Int) + 1), Eq1 (↑c : Int), (↑k : Int) = (↑c : Int), 125 = 125, ∀ (k_1 : Nat), k_1 < 125 → siteF (↑c : Int) T lo hi (cel c lo hi k) k_1 = siteF (↑c : Int) T lo hi (cel c lo hi c) k_1, Eq1 (↑c : Int), T = T, lo = lo, hi = hi] (leaf (AEx.exit 4))))) := by kernel_rfl
  rw [e]
  simp only [T_rc, out_rc, Tree.sat, Option.getD_some] at hQ
  simp only [Tree.sat, allP, fitP, fitL, valEq, inI64, true_and, and_true, decide_eq_true_eq, decide_eq_false_iff_not, Int.natCast_zero, Int.toNat_natCast, bne_iff_ne, ne_eq, bne_eq_false_iff_eq, List.length_cons, List.length_nil, updL_one, out_rc]
  clear e
  
  refine ⟨fun h => ?_, fun h => ?_⟩
  ·have h1 : ∀ M v, updI (Int.toNat ((k : Int) + 1) * 1 + (k * 11 + 4)) (min (siteF c T lo hi M (Int.toNat ((k : Int) + 1) * 1 + (k * 11 + 4))) v) (siteF c T lo hi M) = siteF c T lo hi (bnd M k (k + 1) v) := fun M v => bnd_set (by omega) (by omega)
   have h2 : ∀ M v, updI (k * 1 + (Int.toNat ((k : Int) + 1) * 11 + 4)) (min (siteF c T lo hi M (k * 1 + (Int.toNat ((k : Int) + 1) * 11 + 4))) v) (siteF c T lo hi M) = siteF c T lo hi (bnd M (k + 1) k v) := fun M v => bnd_set (by omega) (by omega)
   simp only [h1, h2]
   (repeat' first | with_reducible apply And.intro | with_reducible intro _)
   all_goals first | exact True.intro | omega | with_reducible rfl | (rename_i E hE; cases hE; exact hQ) | rfl
  ·obtain rfl : k = c := by omega
   (repeat' first | with_reducible apply And.intro | with_reducible intro _)
   all_goals first | exact True.intro | omega | with_reducible rfl | (rename_i E hE; cases hE; exact hQ) | rfl
def rdS (c : Nat) (M : Nat → Nat → Int) (a b u v : Int) : Nat → Nat → Int := if b < (c : Int) then bnd (bnd M a.toNat b.toNat v) (b + 1).toNat a.toNat (-u - 1) else bnd M a.toNat b.toNat v
def rdM (c : Nat) (T lo hi : Int) (a b u v : Nat → Int) : Nat → Nat → Nat → Int
 | 0 => bnd (bnd (cel c lo hi c) 0 c T) c 0 (-T)
 | j + 1 => rdS c (rdM c T lo hi a b u v j) (a j) (b j) (u j) (v j)
def rdV (a b u v : Int) : Value := .agg #[.int .i64 a, .int .i64 b, .int .i64 u, .int .i64 v]
def sn (a b u v : Nat → Int) (k : Nat) (x : Value) : Prop := ∃ j, j < k ∧ x = rdV (a j) (b j) (u j) (v j)
def isRd (x : Value) : Prop := ∃ a b u v, x = rdV a b u v
theorem rep_rd (a b u v : Int) (e : Env) (w : World) : Rep e w (.agg [i a, i b, i u, i v]) (rdV a b u v) :=
 Rep.aggL (RepL.cons (.x _) (RepL.cons (.x _) (RepL.cons (.x _) (RepL.one (.x _)))))
theorem mapKey_rd (a b u v : Int) : MapKey Try.prog 155 isRd (rdV a b u v) (.bool false) := by
 refine ⟨⟨57, 4, (match Try.prog.underlying 57 with | some (.struct fs) => fs | _ => #[]), by kernel_rfl, by kernel_rfl, ?_, ?_, ?_⟩, by simp [Instr.sameBits, rdV]⟩
 ·intro b' w
  kernel_rfl
 ·rintro k' ⟨a', b', u', v', rfl⟩ w
  refine ⟨a == a' && (b == b' && (u == u' && (v == v' && true) && true)), eqA_sound (P := Try.prog) (e := freshE w w) Op.maxDepth 57 (.agg [i a, i b, i u, i v]) (.agg [i a', i b', i u', i v']) _ _ _ (by kernel_rfl) (rep_rd ..) (rep_rd ..), fun h => ?_⟩
  simp only [Bool.and_true, Bool.and_eq_true, beq_iff_eq] at h
  obtain ⟨rfl, rfl, rfl, rfl⟩ := h
  rfl
 ·intro w
  kernel_rfl
theorem sn_rd {a b u v : Nat → Int} {k : Nat} {x : Value} (h : sn a b u v k x) : isRd x := by
 obtain ⟨j, _, h⟩ := h
 exact ⟨_, _, _, _, h⟩
theorem bnd_le (M : Nat → Nat → Int) (a b : Nat) (v : Int) (x y : Nat) : bnd M a b v x y ≤ M x y := by
 unfold bnd set2
 split
 ·rename_i h; rw [h.1, h.2]; omega
 ·omega
theorem bnd_at (M : Nat → Nat → Int) (a b : Nat) (v : Int) : bnd M a b v a b ≤ v := by
 unfold bnd set2
 rw [if_pos ⟨rfl, rfl⟩]
 omega
theorem bnd_id {M : Nat → Nat → Int} {a b : Nat} {v : Int} (h : M a b ≤ v) : bnd M a b v = M := by
 funext x y
 unfold bnd set2
 split
 ·rename_i h'; rw [h'.1, h'.2]; omega
 ·rfl
theorem rdS_le (c : Nat) (M : Nat → Nat → Int) (a b u v : Int) (x y : Nat) : rdS c M a b u v x y ≤ M x y := by
 unfold rdS
 split
 ·exact Int.le_trans (bnd_le _ _ _ _ _ _) (bnd_le _ _ _ _ _ _)
 ·exact bnd_le _ _ _ _ _ _
theorem rdS_at (c : Nat) (M : Nat → Nat → Int) (a b u v : Int) : rdS c M a b u v a.toNat b.toNat ≤ v ∧ (b < c → rdS c M a b u v (b + 1).toNat a.toNat ≤ -u - 1) := by
 unfold rdS
 split
 ·exact ⟨Int.le_trans (bnd_le _ _ _ _ _ _) (bnd_at _ _ _ _), fun _ => bnd_at _ _ _ _⟩
 ·exact ⟨bnd_at _ _ _ _, fun h => by omega⟩
theorem rdS_id {c : Nat} {M : Nat → Nat → Int} {a b u v : Int} (h : M a.toNat b.toNat ≤ v) (h2 : b < c → M (b + 1).toNat a.toNat ≤ -u - 1) : rdS c M a b u v = M := by
 unfold rdS
 rw [bnd_id h]
 split
 ·rename_i hb; exact bnd_id (h2 hb)
 ·rfl
theorem rdM_mono (c : Nat) (T lo hi : Int) (a b u v : Nat → Int) (j : Nat) : ∀ (k : Nat), j ≤ k → ∀ x y, rdM c T lo hi a b u v k x y ≤ rdM c T lo hi a b u v j x y
 | 0, h, x, y => by
           obtain rfl : j = 0 := by omega
           exact Int.le_refl _
 | k + 1, h, x, y => by
  rcases (show j = k + 1 ∨ j ≤ k by omega) with rfl | h
  ·exact Int.le_refl _
  ·exact Int.le_trans (rdS_le _ _ _ _ _ _ _ _) (rdM_mono c T lo hi a b u v j k h x y)
theorem rdM_seen {c : Nat} {T lo hi : Int} {a b u v : Nat → Int} {k : Nat} (h : sn a b u v k (rdV (a k) (b k) (u k) (v k))) : rdM c T lo hi a b u v (k + 1) = rdM c T lo hi a b u v k := by
 obtain ⟨j, hj, he⟩ := h
 unfold rdV at he
 injection he with he
 injection he with he
 have e : a k = a j ∧ b k = b j ∧ u k = u j ∧ v k = v j := by simpa using he
 have h1 := rdS_at c (rdM c T lo hi a b u v j) (a j) (b j) (u j) (v j)
 have m := rdM_mono c T lo hi a b u v (j + 1) k (by omega)
 refine rdS_id ?_ (fun hb => ?_)
 ·rw [e.1, e.2.1, e.2.2.2]
  exact Int.le_trans (m _ _) h1.1
 ·rw [e.1, e.2.1, e.2.2.1]
  exact Int.le_trans (m _ _) (h1.2 (by rw [← e.2.1]; exact hb))
noncomputable def E_rd (c : Nat) (T lo hi : Int) (n : Nat) (a b u v : Nat → Int) : St := (some { σ := [agg [iI (↑c : Int), iI T, iI lo, iI hi], lst 4 n fun k => [iI (a k), iI (b k), iI (u k), iI (v k)], ptr 0 0, top, AV.x (Value.pointer none), AV.lit false, ptr 5 0, top, top, top, AV.mp 63] ++ tpL 11 [iI ((↑c : Int) + (1 : Int)), iI ((↑c : Int) + (1 : Int))] ++ tpL 21 [iI (↑c : Int), iI (↑c : Int)] ++ tpL 34 [lst 4 n fun k => [iI (a k), iI (b k), iI (u k), iI (v k)], iI (↑n : Int)] ++ tpL 95 [], m := [(63, Res.memo (fun x => False) fun v => v), (56, Res.row 3 1 2 (chunk 1 [iI (updI (c * 1 + 4) (min (siteF (↑c : Int) T lo hi (cel c lo hi c) (c * 1 + 4)) T) (siteF (↑c : Int) T lo hi (cel c lo hi c)) (0 + (c * 11 + 4))), iI (-T)])), (31, Res.row 3 1 2 (chunk 1 [iI (siteF (↑c : Int) T lo hi (cel c lo hi c) (c * 1 + 4)), iI T])), (5, Res.ints 153 [] 125 fun a => updI (0 + (c * 11 + 4)) (min (updI (c * 1 + 4) (min (siteF (↑c : Int) T lo hi (cel c lo hi c) (c * 1 + 4)) T) (siteF (↑c : Int) T lo hi (cel c lo hi c)) (0 + (c * 11 + 4))) (-T)) (updL (c * 1 + 4) [min (siteF (↑c : Int) T lo hi (cel c lo hi c) (c * 1 + 4)) T] (siteF (↑c : Int) T lo hi (cel c lo hi c))) a), (0, Res.cells 25 [iI (↑c : Int), iI T, iI lo, iI hi])], nx := 68 } : Option St).getD { σ := [], m := [], nx := 0 }
noncomputable def B_rd : Code := loopBody (loopAt (bodyOf Try.f72) 2)
noncomputable def inv_rd (c : Nat) (T lo hi : Int) (n : Nat) (a b u v : Nat → Int) (k : Nat) : St := { σ := ovrS [(83, i k)] (E_rd c T lo hi n a b u v).σ, m := [(5, .ints 153 [] 125 (siteF c T lo hi (rdM c T lo hi a b u v k))), (0, .cells 25 [i c, i T, i lo, i hi]), (63, .memo (sn a b u v k) (fun _ => .bool true))], nx := (E_rd c T lo hi n a b u v).nx }
noncomputable def out_rd (c : Nat) (T lo hi : Int) (n : Nat) (a b u v : Nat → Int) (k : Nat) : AEx → Option St := fun ex => match ex with
 | .exit 6 => some { σ := ovrS [(83, i n)] (E_rd c T lo hi n a b u v).σ, m := [(5, .ints 153 [] 125 (siteF c T lo hi (rdM c T lo hi a b u v n))), (0, .cells 25 [i c, i T, i lo, i hi]), (63, .memo (sn a b u v n) (fun _ => .bool true))], nx := (E_rd c T lo hi n a b u v).nx }
 | _ => none
noncomputable def T_rd (c : Nat) (T lo hi : Int) (n : Nat) (a b u v : Nat → Int) : CT := .leaf (.exit 6, ( out_rd c T lo hi n a b u v 0 (.exit 6)).getD (E_rd c T lo hi n a b u v))
noncomputable def LS_rd (c : Nat) (T lo hi : Int) (n : Nat) (a b u v : Nat → Int) : LSpec := normSp [] (sumL (inv_rd c T lo hi n a b u v (0)) (T_rd c T lo hi n a b u v))
theorem rd_ls (c : Nat) (T lo hi : Int) (n : Nat) (a b u v : Nat → Int) (pre0 : 1 ≤ c ∧ c ≤ 10) (pre1 : 1 ≤ lo ∧ lo ≤ hi ∧ hi ≤ 200 ∧ 1 ≤ T ∧ T ≤ 2000) (pre2 : n ≤ 1000) (pre3 : allI (fun k => rdB c (a k) (b k) (u k) (v k)) n = true) : LSound Try.prog (.loop B_rd) (LS_rd c T lo hi n a b u v) := by
 refine loop_roundsX [] (E := { R := [], H := [(86, H_bound)] }) (G := [(95, S_least)]) (L := []) (SoundG.cons least_ok (SoundG.nil _)) (SoundX.of (SoundRL.nil _) (SoundHL.cons bound_okH (SoundHL.nil _))) mixed noLoops (X := Nat) (inv_rd c T lo hi n a b u v) (fun k => k ≤ n) (fun k => n - k) (out_rd c T lo hi n a b u v) (x0 := 0) (by simp) ?_ ?_ ?_
 ·rintro k
  kernel_rfl
 ·rintro k y E h
  unfold out_rd at h
  split at h
  ·cases h; kernel_rfl
  ·cases h
 ·rintro Q hQ k hx
  refine ⟨(k + 1), ?_⟩
  have e : roundX Try.prog [(95, S_least)] { R := [], H := [(86, H_bound)] } [] [] B_rd (inv_rd c T lo hi n a b u v k) (inv_rd c T lo hi n a b u v ((k + 1))) (out_rd c T lo hi n a b u v k) = (let z8 := sn a b u v; let z2 := (Value.agg #[Value.int IntKind.i64 (a k), Value.int IntKind.i64 (b k), Value.int IntKind.i64 (u k), Value.int IntKind.i64 (v k)]); let z3 := rdM c T lo hi a b u v; let z6 := (siteF (↑c : Int) T lo hi (z3 k) (Int.toNat (b k) * 1 + (Int.toNat (a k) * 11 + 4))); let z5 := (agg [iI (↑c : Int), iI T, iI lo, iI hi]); let z4 := (lst 4 n (rq4 a b u v)); let z7 := (AV.x (Value.pointer none)); let z0 := (need [∀ (u_1 : Value), z8 k u_1 → Value.bool true = Value.bool true, MapKey Try.prog 155 (fun u_1 => z8 k u_1 ∨ u_1 = Value.agg #[Value.int IntKind.i64 (a k), Value.int IntKind.i64 (b k), Value.int IntKind.i64 (u k), Value.int IntKind.i64 (v k)]) z2 (Value.bool false)] (need [(0 : Int) ≤ a k ∧ a k < (↑(11 : Nat) : Int)] (need [(0 : Int) ≤ b k ∧ b k < (↑(11 : Nat) : Int)] (need [Int.toNat (b k) * 1 + (Int.toNat (a k) * 11 + 4) < 125] (need [(0 : Int) ≤ a k ∧ a k < (↑(11 : Nat) : Int)] (need [(0 : Int) ≤ b k ∧ b k < (↑(11 : Nat) : Int)] (need [Int.toNat (b k) * 1 + (Int.toNat (a k) * 11 + 4) + List.length [min z6 (v k)] ≤ 125] (branch (decide (b k < (↑c : Int))) (need [inI64 (b k + (1 : Int))] (need [inI64 (-u k)] (need [inI64 (-u k - (1 : Int))] (need [(0 : Int) ≤ b k + (1 : Int) ∧ b k + (1 : Int) < (↑(11 : Nat) : Int)] (need [(0 : Int) ≤ a k ∧ a k < (↑(11 : Nat) : Int)] (need [Int.toNat (a k) * 1 + (Int.toNat (b k + (1 : Int)) * 11 + 4) < 125] (need [(0 : Int) ≤ b k + (1 : Int) ∧ b k + (1 : Int) < (↑(11 : Nat) : Int)] (need [(0 : Int) ≤ a k ∧ a k < (↑(11 : Nat) : Int)] (need [Int.toNat (a k) * 1 + (Int.toNat (b k + (1 : Int)) * 11 + 4) + List.length [min (updI (Int.toNat (b k) * 1 + (Int.toNat (a k) * 11 + 4)) (min z6 (v k)) (siteF (↑c : Int) T lo hi (z3 k)) (Int.toNat (a k) * 1 + (Int.toNat (b k + (1 : Int)) * 11 + 4))) (-u k - (1 : Int))] ≤ 125] (need [inI64 ((↑k : Int) + 1)] (need [Eq1 z5, z4 = lst 4 n (rq4 a b u v), Eq1 (ptr 0 0), Eq1 z7, Eq1 (AV.lit false), Eq1 (ptr 5 0), Eq1 (AV.mp 63), Eq1 ((↑c : Int) + 1), Eq1 ((↑c : Int) + 1), Eq1 (↑c : Int), Eq1 (↑c : Int), z4 = lst 4 n (rq4 a b u v), Eq1 (↑n : Int), (↑k : Int) + 1 = (↑(k + 1) : Int), 125 = 125, ∀ (k_1 : Nat), k_1 < 125 → updI (Int.toNat (a k) * 1 + (Int.toNat (b k + (1 : Int)) * 11 + 4)) (min (updI (Int.toNat (b k) * 1 + (Int.toNat (a k) * 11 + 4)) (min z6 (v k)) (siteF (↑c : Int) T lo hi (z3 k)) (Int.toNat (a k) * 1 + (Int.toNat (b k + (1 : Int)) * 11 + 4))) (-u k - (1 : Int))) (updL (Int.toNat (b k) * 1 + (Int.toNat (a k) * 11 + 4)) [min z6 (v k)] (siteF (↑c : Int) T lo hi (z3 k))) k_1 = siteF (↑c : Int) T lo hi (z3 (k + 1)) k_1, Eq1 (↑c : Int), T = T, lo = lo, hi = hi, ∀ (k_1 : Value), z8 k k_1 ∨ k_1 = Value.agg #[Value.int IntKind.i64 (a k), Value.int IntKind.i64 (b k), Value.int IntKind.i64 (u k), Value.int IntKind.i64 (v k)] → z8 (k + 1) k_1 ∧ Value.bool true = Value.bool true] (leaf AEx.normal)))))))))))) (need [inI64 ((↑k : Int) + 1)] (need [Eq1 z5, z4 = lst 4 n (rq4 a b u v), Eq1 (ptr 0 0), Eq1 z7, Eq1 (AV.lit false), Eq1 (ptr 5 0), Eq1 (AV.mp 63), Eq1 ((↑c : Int) + 1), Eq1 ((↑c : Int) + 1), Eq1 (↑c : Int), Eq1 (↑c : Int), z4 = lst 4 n (rq4 a b u v), Eq1 (↑n : Int), (↑k : Int) + 1 = (↑(k + 1) : Int), 125 = 125, ∀ (k_1 : Nat), k_1 < 125 → updI (Int.toNat (b k) * 1 + (Int.toNat (a k) * 11 + 4)) (min z6 (v k)) (siteF (↑c : Int) T lo hi (z3 k)) k_1 = siteF (↑c : Int) T lo hi (z3 (k + 1)) k_1, Eq1 (↑c : Int), T = T, lo = lo, hi = hi, ∀ (k_1 : Value), z8 k k_1 ∨ k_1 = Value.agg #[Value.int IntKind.i64 (a k), Value.int IntKind.i64 (b k), Value.int IntKind.i64 (u k), Value.int IntKind.i64 (v k)] → z8 (k + 1) k_1 ∧ Value.bool true = Value.bool true] (leaf AEx.normal))))))))))); let z1 := (need [inI64 ((↑k : Int) + 1)] (need [Eq1 z5, z4 = lst 4 n (rq4 a b u v), Eq1 (ptr 0 0), Eq1 z7, Eq1 (AV.lit false), Eq1 (ptr 5 0), Eq1 (AV.mp 63), Eq1 ((↑c : Int) + 1), Eq1 ((↑c : Int) + 1), Eq1 (↑c : Int), Eq1 (↑c : Int), z4 = lst 4 n (rq4 a b u v), Eq1 (↑n : Int), (↑k : Int) + 1 = (↑(k + 1) : Int), 125 = 125, ∀ (k_1 : Nat), k_1 < 125 → siteF (↑c : Int) T lo hi (z3 k) k_1 = siteF (↑c : Int) T lo hi (z3 (k + 1)) k_1, Eq1 (↑c : Int), T = T, lo = lo, hi = hi, ∀ (k_1 : Value), z8 k k_1 → z8 (k + 1) k_1 ∧ Value.bool true = Value.bool true] (leaf AEx.normal))); (branch (decide ((↑k : Int) < (↑n : Int))) (need [(0 : Int) ≤ (↑k : Int) ∧ (↑k : Int) < (↑n : Int)] (need [MapKey Try.prog 155 (z8 k) z2 (Value.bool false)] (Tree.may (z8 k z2) (branch true z1 z0) (branch false z1 z0)))) (need [Eq1 z5, z4 = lst 4 n (rq4 a b u v), Eq1 (ptr 0 0), Eq1 z7, Eq1 (AV.lit false), Eq1 (ptr 5 0), Eq1 (AV.mp 63), Eq1 ((↑c : Int) + 1), Eq1 ((↑c : Int) + 1), Eq1 (↑c : Int), Eq1 (↑c : Int), z4 = lst 4 n (rq4 a b u v), Eq1 (↑n : Int), (↑k : Int) = (↑n : Int), 125 = 125, ∀ (k_1 : Nat), k_1 < 125 → siteF (↑c : Int) T lo hi (z3 k) k_1 = siteF (↑c : Int) T lo hi (z3 n) k_1, Eq1 (↑c : Int), T = T, lo = lo, hi = hi, ∀ (k_1 : Value), z8 k k_1 → z8 n k_1 ∧ Value.bool true = Value.bool true] (leaf (AEx.exit 6))))) := by kernel_rfl
  rw [e]
  simp only [T_rd, out_rd, Tree.sat, Option.getD_some] at hQ
  simp only [Tree.sat, allP, fitP, fitL, valEq, inI64, true_and, and_true, decide_eq_true_eq, decide_eq_false_iff_not, Int.natCast_zero, Int.toNat_natCast, bne_iff_ne, ne_eq, bne_eq_false_iff_eq, List.length_cons, List.length_nil, updL_one, out_rd]
  clear e
  
  have hv : ∀ j, j < n → (0 ≤ a j ∧ a j ≤ c - 1) ∧ (a j ≤ b j ∧ b j ≤ c) ∧ 0 ≤ u j ∧ u j ≤ v j ∧ v j ≤ 2000 := by
   intro j hj
   have := allI_iff.1 pre3 j hj
   simp only [rdB, Bool.and_eq_true, bt_iff, insB_iff] at this
   omega
  refine ⟨fun h => ?_, fun h => ?_⟩
  ·have hk := hv k (by omega)
   have mk := mapKey_rd (a k) (b k) (u k) (v k)
   have q1 : MapKey Try.prog 155 (sn a b u v k) (rdV (a k) (b k) (u k) (v k)) (.bool false) := mk.mono (fun x hx => sn_rd hx)
   have q2 : MapKey Try.prog 155 (fun x => sn a b u v k x ∨ x = rdV (a k) (b k) (u k) (v k)) (rdV (a k) (b k) (u k) (v k)) (.bool false) := mk.mono (fun x hx => hx.elim sn_rd (fun he => ⟨_, _, _, _, he⟩))
   have sn1 : ∀ x, sn a b u v k x → sn a b u v (k + 1) x := fun x ⟨j, hj, he⟩ => ⟨j, by omega, he⟩
   have sn2 : sn a b u v (k + 1) (rdV (a k) (b k) (u k) (v k)) := ⟨k, by omega, rfl⟩
   refine ⟨by omega, q1, fun hs => ⟨fun _ => ?_, fun hc => absurd hc (by decide)⟩, fun hc => absurd hc (by decide), fun _ => ?_⟩
   ·rw [rdM_seen hs]
    (repeat' first | with_reducible apply And.intro | with_reducible intro _)
    all_goals first | exact True.intro | omega | with_reducible rfl | (rename_i E hE; cases hE; exact hQ) | rfl | (exact sn1 _ (by assumption))
   ·have h1 : ∀ M w, updI (Int.toNat (b k) * 1 + (Int.toNat (a k) * 11 + 4)) (min (siteF c T lo hi M (Int.toNat (b k) * 1 + (Int.toNat (a k) * 11 + 4))) w) (siteF c T lo hi M) = siteF c T lo hi (bnd M (a k).toNat (b k).toNat w) := fun M w => bnd_set (by omega) (by omega)
    refine ⟨⟨fun _ _ => trivial, q2⟩, ?_⟩
    simp only [h1]
    refine ⟨by omega, by omega, by omega, by omega, by omega, by omega, fun hb => ?_, fun hb => ?_⟩
    ·have h2 : ∀ M w, updI (Int.toNat (a k) * 1 + (Int.toNat (b k + 1) * 11 + 4)) (min (siteF c T lo hi M (Int.toNat (a k) * 1 + (Int.toNat (b k + 1) * 11 + 4))) w) (siteF c T lo hi M) = siteF c T lo hi (bnd M (b k + 1).toNat (a k).toNat w) := fun M w => bnd_set (by omega) (by omega)
     have e3 : rdM c T lo hi a b u v (k + 1) = bnd (bnd (rdM c T lo hi a b u v k) (a k).toNat (b k).toNat (v k)) (b k + 1).toNat (a k).toNat (-u k - 1) := by
      show rdS _ _ _ _ _ _ = _
      unfold rdS
      rw [if_pos hb]
     simp only [h2, e3]
     (repeat' first | with_reducible apply And.intro | with_reducible intro _)
     all_goals first | exact True.intro | omega | with_reducible rfl | (rename_i E hE; cases hE; exact hQ) | rfl | (rename_i hs; exact hs.elim (fun h => sn1 _ h) (fun h => h ▸ sn2))
    ·have e3 : rdM c T lo hi a b u v (k + 1) = bnd (rdM c T lo hi a b u v k) (a k).toNat (b k).toNat (v k) := by
      show rdS _ _ _ _ _ _ = _
      unfold rdS
      rw [if_neg hb]
     simp only [e3]
     (repeat' first | with_reducible apply And.intro | with_reducible intro _)
     all_goals first | exact True.intro | omega | with_reducible rfl | (rename_i E hE; cases hE; exact hQ) | rfl | (rename_i hs; exact hs.elim (fun h => sn1 _ h) (fun h => h ▸ sn2))
  ·obtain rfl : k = n := by omega
   (repeat' first | with_reducible apply And.intro | with_reducible intro _)
   all_goals first | exact True.intro | omega | with_reducible rfl | (rename_i E hE; cases hE; exact hQ) | rfl | (assumption)
end Go.Proofs.Ytlinbkmpkcmniaa.Bo
namespace Go.Proofs.Ytlinbkmpkcmniaa.Bo
open Go Go.Sx Go.RowKit
open Go.Sx.Tree (need branch leaf)
open Go.Sx.AV (lst ptr agg roI tup top)
def fwS (M : Nat → Nat → Int) (o f t : Nat) : Nat → Nat → Int := bnd M f t (M f o + M o t)
def fwT (M : Nat → Nat → Int) (o f : Nat) : Nat → Nat → Nat → Int
 | 0 => M
 | t + 1 => fwS (fwT M o f t) o f t
def fwF (c : Nat) (M : Nat → Nat → Int) (o : Nat) : Nat → Nat → Nat → Int
 | 0 => M
 | f + 1 => fwT (fwF c M o f) o f (c + 1)
def fwO (c : Nat) (M : Nat → Nat → Int) : Nat → Nat → Nat → Int
 | 0 => M
 | o + 1 => fwF c (fwO c M o) o (c + 1)
def LB (B : Int) (M : Nat → Nat → Int) : Prop := ∀ x y, -B ≤ M x y ∧ M x y ≤ 2000
def JB (B : Int) (o f t : Nat) (M : Nat → Nat → Int) : Prop := ∀ x y, M x y ≤ 2000 ∧ -(6 * B) ≤ M x y ∧ (x = o → -(3 * B) ≤ M x y) ∧ (y = o → -(3 * B) ≤ M x y) ∧ (x = o → y = o → -(2 * B) ≤ M x y) ∧ (¬ (x < f ∨ (x = f ∧ y < t)) → -B ≤ M x y)
theorem JB_start {B : Int} {o : Nat} {M : Nat → Nat → Int} (hB : 0 ≤ B) (h : LB B M) : JB B o 0 0 M := by
 intro x y
 have := h x y
 refine ⟨by omega, by omega, fun _ => by omega, fun _ => by omega, fun _ _ => by omega, fun _ => by omega⟩
theorem JB_step {B : Int} {o f t : Nat} {M : Nat → Nat → Int} (hB : 0 ≤ B) (h : JB B o f t M) : JB B o f (t + 1) (fwS M o f t) := by
 have hft := h f t
 have hfo := h f o
 have hot := h o t
 have hoo := h o o
 have hn := hft.2.2.2.2.2 (by omega)
 intro x y
 have hxy := h x y
 unfold fwS bnd set2
 by_cases hc : x = f ∧ y = t
 ·rw [if_pos hc]
  obtain ⟨rfl, rfl⟩ := hc
  by_cases h1 : x = o
  ·subst h1
   by_cases h2 : y = x
   ·subst h2
    refine ⟨by omega, by omega, fun _ => by omega, fun _ => by omega, fun _ _ => by omega, fun _ => by omega⟩
   ·refine ⟨by omega, by omega, fun _ => by have := hoo.2.2.2.2.1 rfl rfl; omega, fun h => absurd h h2, fun _ h => absurd h h2, fun _ => by omega⟩
  ·by_cases h2 : y = o
   ·subst h2
    refine ⟨by omega, by omega, fun h => absurd h h1, fun _ => by have := hoo.2.2.2.2.1 rfl rfl; omega, fun h => absurd h h1, fun _ => by omega⟩
   ·have q1 := hfo.2.2.2.1 rfl
    have q2 := hot.2.2.1 rfl
    refine ⟨by omega, by omega, fun h => absurd h h1, fun h => absurd h h2, fun h => absurd h h1, fun _ => by omega⟩
 ·rw [if_neg hc]
  exact ⟨hxy.1, hxy.2.1, hxy.2.2.1, hxy.2.2.2.1, hxy.2.2.2.2.1, fun hv => hxy.2.2.2.2.2 (by omega)⟩
theorem JB_T {B : Int} {o f : Nat} {M : Nat → Nat → Int} (hB : 0 ≤ B) (h : JB B o f 0 M) : ∀ t, JB B o f t (fwT M o f t)
 | 0 => h
 | t + 1 => JB_step hB (JB_T hB h t)
theorem JB_row {B : Int} {o f t : Nat} {M : Nat → Nat → Int} (h : JB B o f t M) : JB B o (f + 1) 0 M := by
 intro x y
 have hxy := h x y
 exact ⟨hxy.1, hxy.2.1, hxy.2.2.1, hxy.2.2.2.1, hxy.2.2.2.2.1, fun hv => hxy.2.2.2.2.2 (by omega)⟩
theorem JB_F {B : Int} {c o : Nat} {M : Nat → Nat → Int} (hB : 0 ≤ B) (h : LB B M) : ∀ f, JB B o f 0 (fwF c M o f)
 | 0 => JB_start hB h
 | f + 1 => JB_row (JB_T hB (JB_F hB h f) (c + 1))
theorem LB_O {c : Nat} {M : Nat → Nat → Int} (h : LB 2001 M) : ∀ o, LB (2001 * 6 ^ o) (fwO c M o)
 | 0 => by
  rw [show (2001 : Int) * 6 ^ 0 = 2001 by decide]
  exact h
 | o + 1 => by
  have ih := LB_O (c := c) h o
  have hp : (0 : Int) ≤ 2001 * 6 ^ o := Int.mul_nonneg (by omega) (Int.pow_nonneg (by omega))
  have hj := JB_F (c := c) (o := o) hp ih (c + 1)
  intro x y
  have := hj x y
  have e : (2001 : Int) * 6 ^ (o + 1) = 6 * (2001 * 6 ^ o) := by rw [Int.pow_succ]; omega
  rw [e]
  exact ⟨this.2.1, this.1⟩
theorem pow6 : ∀ o : Nat, o ≤ 10 → (6 : Int) ^ o ≤ 60466176 := by
 intro o ho
 rcases (show o = 0 ∨ o = 1 ∨ o = 2 ∨ o = 3 ∨ o = 4 ∨ o = 5 ∨ o = 6 ∨ o = 7 ∨ o = 8 ∨ o = 9 ∨ o = 10 by omega) with rfl | rfl | rfl | rfl | rfl | rfl | rfl | rfl | rfl | rfl | rfl <;> decide
theorem fw_in {c : Nat} {M : Nat → Nat → Int} (h : LB 2001 M) {o f t : Nat} (ho : o ≤ 10) (x y : Nat) : -800000000000 ≤ fwT (fwF c (fwO c M o) o f) o f t x y ∧ fwT (fwF c (fwO c M o) o f) o f t x y ≤ 2000 := by
 have ih := LB_O (c := c) h o
 have hp : (0 : Int) ≤ 2001 * 6 ^ o := Int.mul_nonneg (by omega) (Int.pow_nonneg (by omega))
 have hj := JB_T hp (JB_F (c := c) (o := o) hp ih f) t x y
 have := pow6 o ho
 omega
theorem bnd_lb {B : Int} {M : Nat → Nat → Int} (h : LB B M) {a b : Nat} {v : Int} (hv : -B ≤ v) : LB B (bnd M a b v) := by
 intro x y
 have h1 := h a b
 have h2 := h x y
 unfold bnd set2
 split <;> omega
theorem cel_lb {c : Nat} {lo hi : Int} (h : 1 ≤ lo ∧ lo ≤ hi ∧ hi ≤ 200) : ∀ k, LB 2001 (cel c lo hi k)
 | 0 => by
  intro x y
  unfold cel ini
  split <;> omega
 | k + 1 => bnd_lb (bnd_lb (cel_lb h k) (by omega)) (by omega)
theorem rdM_lb {c : Nat} {T lo hi : Int} {a b u v : Nat → Int} {n : Nat} (h : 1 ≤ lo ∧ lo ≤ hi ∧ hi ≤ 200 ∧ 1 ≤ T ∧ T ≤ 2000) (hv : ∀ j, j < n → 0 ≤ u j ∧ u j ≤ v j ∧ v j ≤ 2000) : ∀ k, k ≤ n → LB 2001 (rdM c T lo hi a b u v k)
 | 0, _ => bnd_lb (bnd_lb (cel_lb (by omega) c) (by omega)) (by omega)
 | k + 1, hk => by
  have ih := rdM_lb (c := c) (a := a) (b := b) h hv k (by omega)
  have := hv k (by omega)
  show LB 2001 (rdS _ _ _ _ _ _)
  unfold rdS
  split
  ·exact bnd_lb (bnd_lb ih (by omega)) (by omega)
  ·exact bnd_lb ih (by omega)
noncomputable def E_re (c : Nat) (T lo hi : Int) (n : Nat) (a b u v : Nat → Int) : St := (some { σ := [agg [iI (↑c : Int), iI T, iI lo, iI hi], lst 4 n fun k => [iI (a k), iI (b k), iI (u k), iI (v k)], ptr 0 0, top, AV.x (Value.pointer none), AV.lit false, ptr 5 0, top, top, top, AV.mp 63] ++ tpL 11 [iI ((↑c : Int) + (1 : Int)), iI ((↑c : Int) + (1 : Int))] ++ tpL 21 [iI (↑c : Int), iI (↑c : Int)] ++ tpL 34 [lst 4 n fun k => [iI (a k), iI (b k), iI (u k), iI (v k)], iI (↑n : Int), iI (↑n : Int)] ++ tpL 37 [iI ((↑c : Int) + (1 : Int))] ++ tpL 56 [], m := [(5, Res.ints 153 [] 125 fun k => siteF (↑c : Int) T lo hi (rdM c T lo hi a b u v n) k), (0, Res.cells 25 [iI (↑c : Int), iI T, iI lo, iI hi]), (63, Res.memo (fun x => sn a b u v n x) fun x => Value.bool true)], nx := 72 } : Option St).getD { σ := [], m := [], nx := 0 }
noncomputable def B_re : Code := loopBody (loopAt (bodyOf Try.f72) 3)
noncomputable def inv_re (c : Nat) (T lo hi : Int) (n : Nat) (a b u v : Nat → Int) (o : Nat) : St := { σ := ovrS [(122, i o)] (E_re c T lo hi n a b u v).σ, m := [(5, .ints 153 [] 125 (siteF c T lo hi (fwO c (rdM c T lo hi a b u v n) o))), (0, .cells 25 [i c, i T, i lo, i hi])], nx := (E_re c T lo hi n a b u v).nx }
noncomputable def out_re (c : Nat) (T lo hi : Int) (n : Nat) (a b u v : Nat → Int) (o : Nat) : AEx → Option St := fun ex => match ex with
 | .exit 8 => some { σ := ovrS [(122, i ((c : Int) + 1))] (E_re c T lo hi n a b u v).σ, m := [(5, .ints 153 [] 125 (siteF c T lo hi (fwO c (rdM c T lo hi a b u v n) (c + 1)))), (0, .cells 25 [i c, i T, i lo, i hi])], nx := (E_re c T lo hi n a b u v).nx }
 | _ => none
noncomputable def T_re (c : Nat) (T lo hi : Int) (n : Nat) (a b u v : Nat → Int) : CT := .leaf (.exit 8, ( out_re c T lo hi n a b u v 0 (.exit 8)).getD (E_re c T lo hi n a b u v))
noncomputable def LS_re (c : Nat) (T lo hi : Int) (n : Nat) (a b u v : Nat → Int) : LSpec := normSp [] (sumL (inv_re c T lo hi n a b u v (0)) (T_re c T lo hi n a b u v))
noncomputable def E_rf (c : Nat) (T lo hi : Int) (n : Nat) (a b u v : Nat → Int) (o : Nat) : St := (some { σ := [agg [iI (↑c : Int), iI T, iI lo, iI hi], lst 4 n fun k => [iI (a k), iI (b k), iI (u k), iI (v k)], ptr 0 0, top, AV.x (Value.pointer none), AV.lit false, ptr 5 0, top, top, top, AV.mp 63, top, top, iI (↑o : Int)] ++ tpL 8 [iI ((↑c : Int) + (1 : Int)), iI ((↑c : Int) + (1 : Int))] ++ tpL 21 [iI (↑c : Int), iI (↑c : Int)] ++ tpL 34 [lst 4 n fun k => [iI (a k), iI (b k), iI (u k), iI (v k)], iI (↑n : Int), iI (↑n : Int)] ++ tpL 37 [iI ((↑c : Int) + (1 : Int)), iI (↑o : Int), top, top, top, top, iI ((↑c : Int) + (1 : Int))] ++ tpL 50 [], m := [(5, Res.ints 153 [] 125 fun k => siteF (↑c : Int) T lo hi (fwO c (rdM c T lo hi a b u v n) o) k), (0, Res.cells 25 [iI (↑c : Int), iI T, iI lo, iI hi])], nx := 79 } : Option St).getD { σ := [], m := [], nx := 0 }
noncomputable def B_rf : Code := (loopBody (loopAt (loopBody (loopAt (bodyOf Try.f72) 3)) 0))
noncomputable def inv_rf (c : Nat) (T lo hi : Int) (n : Nat) (a b u v : Nat → Int) (o : Nat) (f : Nat) : St := { σ := ovrS [(128, i f)] (E_rf c T lo hi n a b u v o).σ, m := [(5, .ints 153 [] 125 (siteF c T lo hi (fwF c (fwO c (rdM c T lo hi a b u v n) o) o f))), (0, .cells 25 [i c, i T, i lo, i hi])], nx := (E_rf c T lo hi n a b u v o).nx }
noncomputable def out_rf (c : Nat) (T lo hi : Int) (n : Nat) (a b u v : Nat → Int) (o : Nat) (f : Nat) : AEx → Option St := fun ex => match ex with
 | .exit 10 => some { σ := ovrS [(128, i ((c : Int) + 1))] (E_rf c T lo hi n a b u v o).σ, m := [(5, .ints 153 [] 125 (siteF c T lo hi (fwF c (fwO c (rdM c T lo hi a b u v n) o) o (c + 1)))), (0, .cells 25 [i c, i T, i lo, i hi])], nx := (E_rf c T lo hi n a b u v o).nx }
 | _ => none
noncomputable def T_rf (c : Nat) (T lo hi : Int) (n : Nat) (a b u v : Nat → Int) (o : Nat) : CT := .leaf (.exit 10, ( out_rf c T lo hi n a b u v o 0 (.exit 10)).getD (E_rf c T lo hi n a b u v o))
noncomputable def LS_rf (c : Nat) (T lo hi : Int) (n : Nat) (a b u v : Nat → Int) (o : Nat) : LSpec := normSp [] (sumL (inv_rf c T lo hi n a b u v o (0)) (T_rf c T lo hi n a b u v o))
noncomputable def E_rg (c : Nat) (T lo hi : Int) (n : Nat) (a b u v : Nat → Int) (o : Nat) (f : Nat) : St := (some { σ := [agg [iI (↑c : Int), iI T, iI lo, iI hi], lst 4 n fun k => [iI (a k), iI (b k), iI (u k), iI (v k)], ptr 0 0, top, AV.x (Value.pointer none), AV.lit false, ptr 5 0, top, top, top, AV.mp 63, top, top, iI (↑o : Int), iI (↑f : Int)] ++ tpL 7 [iI ((↑c : Int) + (1 : Int)), iI ((↑c : Int) + (1 : Int))] ++ tpL 21 [iI (↑c : Int), iI (↑c : Int)] ++ tpL 34 [lst 4 n fun k => [iI (a k), iI (b k), iI (u k), iI (v k)], iI (↑n : Int), iI (↑n : Int)] ++ tpL 37 [iI ((↑c : Int) + (1 : Int)), iI (↑o : Int), top, top, top, top, iI ((↑c : Int) + (1 : Int)), iI (↑f : Int), top, top, top, top, iI ((↑c : Int) + (1 : Int))] ++ tpL 44 [], m := [(5, Res.ints 153 [] 125 fun k => siteF (↑c : Int) T lo hi (fwF c (fwO c (rdM c T lo hi a b u v n) o) o f) k), (0, Res.cells 25 [iI (↑c : Int), iI T, iI lo, iI hi])], nx := 86 } : Option St).getD { σ := [], m := [], nx := 0 }
noncomputable def B_rg : Code := (loopBody (loopAt (loopBody (loopAt (loopBody (loopAt (bodyOf Try.f72) 3)) 0)) 0))
noncomputable def inv_rg (c : Nat) (T lo hi : Int) (n : Nat) (a b u v : Nat → Int) (o : Nat) (f : Nat) (t : Nat) : St := { σ := ovrS [(134, i t)] (E_rg c T lo hi n a b u v o f).σ, m := [(5, .ints 153 [] 125 (siteF c T lo hi (fwT (fwF c (fwO c (rdM c T lo hi a b u v n) o) o f) o f t))), (0, .cells 25 [i c, i T, i lo, i hi])], nx := (E_rg c T lo hi n a b u v o f).nx }
noncomputable def out_rg (c : Nat) (T lo hi : Int) (n : Nat) (a b u v : Nat → Int) (o : Nat) (f : Nat) (t : Nat) : AEx → Option St := fun ex => match ex with
 | .exit 12 => some { σ := ovrS [(134, i ((c : Int) + 1))] (E_rg c T lo hi n a b u v o f).σ, m := [(5, .ints 153 [] 125 (siteF c T lo hi (fwT (fwF c (fwO c (rdM c T lo hi a b u v n) o) o f) o f (c + 1)))), (0, .cells 25 [i c, i T, i lo, i hi])], nx := (E_rg c T lo hi n a b u v o f).nx }
 | _ => none
noncomputable def T_rg (c : Nat) (T lo hi : Int) (n : Nat) (a b u v : Nat → Int) (o : Nat) (f : Nat) : CT := .leaf (.exit 12, ( out_rg c T lo hi n a b u v o f 0 (.exit 12)).getD (E_rg c T lo hi n a b u v o f))
noncomputable def LS_rg (c : Nat) (T lo hi : Int) (n : Nat) (a b u v : Nat → Int) (o : Nat) (f : Nat) : LSpec := normSp [] (sumL (inv_rg c T lo hi n a b u v o f (0)) (T_rg c T lo hi n a b u v o f))
theorem rg_ls (c : Nat) (T lo hi : Int) (n : Nat) (a b u v : Nat → Int) (o : Nat) (f : Nat) (pre0 : 1 ≤ c ∧ c ≤ 10) (pre1 : 1 ≤ lo ∧ lo ≤ hi ∧ hi ≤ 200 ∧ 1 ≤ T ∧ T ≤ 2000) (pre2 : n ≤ 1000) (pre3 : allI (fun k => rdB c (a k) (b k) (u k) (v k)) n = true) (pre4 : o ≤ c) (pre5 : f ≤ c) : LSound Try.prog (.loop B_rg) (LS_rg c T lo hi n a b u v o f) := by
 refine loop_roundsX [] (E := { R := [], H := [(86, H_bound)] }) (G := [(95, S_least)]) (L := []) (SoundG.cons least_ok (SoundG.nil _)) (SoundX.of (SoundRL.nil _) (SoundHL.cons bound_okH (SoundHL.nil _))) mixed noLoops (X := Nat) (inv_rg c T lo hi n a b u v o f) (fun t => t ≤ c + 1) (fun t => c + 1 - t) (out_rg c T lo hi n a b u v o f) (x0 := 0) (by simp) ?_ ?_ ?_
 ·rintro t
  kernel_rfl
 ·rintro t y E h
  unfold out_rg at h
  split at h
  ·cases h; kernel_rfl
  ·cases h
 ·rintro Q hQ t hx
  refine ⟨(t + 1), ?_⟩
  have e : roundX Try.prog [(95, S_least)] { R := [], H := [(86, H_bound)] } [] [] B_rg (inv_rg c T lo hi n a b u v o f t) (inv_rg c T lo hi n a b u v o f ((t + 1))) (out_rg c T lo hi n a b u v o f t) = (let z1 := (fwF c (fwO c (rdM c T lo hi a b u v n) o) o f); let z0 := (fwT z1 o f t); let z2 := (lst 4 n (rq4 a b u v)); let z3 := (siteF (↑c : Int) T lo hi z0 (t * 1 + (f * 11 + 4))); (branch (decide ((↑t : Int) < (↑c : Int) + 1)) (need [(0 : Int) ≤ (↑f : Int) ∧ (↑f : Int) < (↑(11 : Nat) : Int)] (need [(0 : Int) ≤ (↑o : Int) ∧ (↑o : Int) < (↑(11 : Nat) : Int)] (need [o * 1 + (f * 11 + 4) < 125] (need [(0 : Int) ≤ (↑o : Int) ∧ (↑o : Int) < (↑(11 : Nat) : Int)] (need [(0 : Int) ≤ (↑t : Int) ∧ (↑t : Int) < (↑(11 : Nat) : Int)] (need [t * 1 + (o * 11 + 4) < 125] (need [inI64 (siteF (↑c : Int) T lo hi z0 (o * 1 + (f * 11 + 4)) + siteF (↑c : Int) T lo hi z0 (t * 1 + (o * 11 + 4)))] (need [(0 : Int) ≤ (↑f : Int) ∧ (↑f : Int) < (↑(11 : Nat) : Int)] (need [(0 : Int) ≤ (↑t : Int) ∧ (↑t : Int) < (↑(11 : Nat) : Int)] (need [t * 1 + (f * 11 + 4) < 125] (need [(0 : Int) ≤ (↑f : Int) ∧ (↑f : Int) < (↑(11 : Nat) : Int)] (need [(0 : Int) ≤ (↑t : Int) ∧ (↑t : Int) < (↑(11 : Nat) : Int)] (need [t * 1 + (f * 11 + 4) + List.length [min z3 (siteF (↑c : Int) T lo hi z0 (o * 1 + (f * 11 + 4)) + siteF (↑c : Int) T lo hi z0 (t * 1 + (o * 11 + 4)))] ≤ 125] (need [inI64 ((↑t : Int) + 1)] (need [Eq1 (agg [iI (↑c : Int), iI T, iI lo, iI hi]), z2 = lst 4 n (rq4 a b u v), Eq1 (ptr 0 0), Eq1 (AV.x (Value.pointer none)), Eq1 (AV.lit false), Eq1 (ptr 5 0), Eq1 (AV.mp 63), Eq1 (↑o : Int), Eq1 (↑f : Int), Eq1 ((↑c : Int) + 1), Eq1 ((↑c : Int) + 1), Eq1 (↑c : Int), Eq1 (↑c : Int), z2 = lst 4 n (rq4 a b u v), Eq1 (↑n : Int), Eq1 (↑n : Int), Eq1 ((↑c : Int) + 1), Eq1 (↑o : Int), Eq1 ((↑c : Int) + 1), Eq1 (↑f : Int), Eq1 ((↑c : Int) + 1), (↑t : Int) + 1 = (↑(t + 1) : Int), 125 = 125, ∀ (k : Nat), k < 125 → updI (t * 1 + (f * 11 + 4)) (min z3 (siteF (↑c : Int) T lo hi z0 (o * 1 + (f * 11 + 4)) + siteF (↑c : Int) T lo hi z0 (t * 1 + (o * 11 + 4)))) (siteF (↑c : Int) T lo hi z0) k = siteF (↑c : Int) T lo hi (fwT z1 o f (t + 1)) k, Eq1 (↑c : Int), T = T, lo = lo, hi = hi] (leaf AEx.normal)))))))))))))))) (need [Eq1 (agg [iI (↑c : Int), iI T, iI lo, iI hi]), z2 = lst 4 n (rq4 a b u v), Eq1 (ptr 0 0), Eq1 (AV.x (Value.pointer none)), Eq1 (AV.lit false), Eq1 (ptr 5 0), Eq1 (AV.mp 63), Eq1 (↑o : Int), Eq1 (↑f : Int), Eq1 ((↑c : Int) + 1), Eq1 ((↑c : Int) + 1), Eq1 (↑c : Int), Eq1 (↑c : Int), z2 = lst 4 n (rq4 a b u v), Eq1 (↑n : Int), Eq1 (↑n : Int), Eq1 ((↑c : Int) + 1), Eq1 (↑o : Int), Eq1 ((↑c : Int) + 1), Eq1 (↑f : Int), Eq1 ((↑c : Int) + 1), (↑t : Int) = (↑c : Int) + 1, 125 = 125, ∀ (k : Nat), k < 125 → siteF (↑c : Int) T lo hi z0 k = siteF (↑c : Int) T lo hi (fwT z1 o f (c + 1)) k, Eq1 (↑c : Int), T = T, lo = lo, hi = hi] (leaf (AEx.exit 12))))) := by kernel_rfl
  rw [e]
  simp only [T_rg, out_rg, Tree.sat, Option.getD_some] at hQ
  simp only [Tree.sat, allP, fitP, fitL, valEq, inI64, true_and, and_true, decide_eq_true_eq, decide_eq_false_iff_not, Int.natCast_zero, Int.toNat_natCast, bne_iff_ne, ne_eq, bne_eq_false_iff_eq, List.length_cons, List.length_nil, updL_one, out_rg]
  clear e
  
  have hv : ∀ j, j < n → 0 ≤ u j ∧ u j ≤ v j ∧ v j ≤ 2000 := by
   intro j hj
   have := allI_iff.1 pre3 j hj
   simp only [rdB, Bool.and_eq_true, bt_iff, insB_iff] at this
   omega
  have hl := fun x y => fw_in (c := c) (rdM_lb (c := c) (a := a) (b := b) pre1 hv n (Nat.le_refl _)) (o := o) (f := f) (t := t) (by omega) x y
  have hfo := hl f o
  have hot := hl o t
  refine ⟨fun h => ?_, fun h => ?_⟩
  ·have h1 : ∀ M, siteF c T lo hi M (o * 1 + (f * 11 + 4)) = M f o := fun M => site_get _ _ _ _ _ (by omega) (by omega)
   have h2 : ∀ M, siteF c T lo hi M (t * 1 + (o * 11 + 4)) = M o t := fun M => site_get _ _ _ _ _ (by omega) (by omega)
   have h3 : ∀ M v, updI (t * 1 + (f * 11 + 4)) (min (siteF c T lo hi M (t * 1 + (f * 11 + 4))) v) (siteF c T lo hi M) = siteF c T lo hi (bnd M f t v) := fun M v => bnd_set (by omega) (by omega)
   simp only [h3]
   simp only [h1, h2]
   (repeat' first | with_reducible apply And.intro | with_reducible intro _)
   all_goals first | exact True.intro | omega | with_reducible rfl | (rename_i E hE; cases hE; exact hQ) | rfl
  ·obtain rfl : t = c + 1 := by omega
   (repeat' first | with_reducible apply And.intro | with_reducible intro _)
   all_goals first | exact True.intro | omega | with_reducible rfl | (rename_i E hE; cases hE; exact hQ) | rfl
theorem rf_ls (c : Nat) (T lo hi : Int) (n : Nat) (a b u v : Nat → Int) (o : Nat) (pre0 : 1 ≤ c ∧ c ≤ 10) (pre1 : 1 ≤ lo ∧ lo ≤ hi ∧ hi ≤ 200 ∧ 1 ≤ T ∧ T ≤ 2000) (pre2 : n ≤ 1000) (pre3 : allI (fun k => rdB c (a k) (b k) (u k) (v k)) n = true) (pre4 : o ≤ c) : LSound Try.prog (.loop B_rf) (LS_rf c T lo hi n a b u v o) := by
 refine loop_roundsX [] (E := { R := [], H := [(86, H_bound)] }) (G := [(95, S_least)]) (L := [depSp 14 (fun k => needSp [k ≤ c] (LS_rg c T lo hi n a b u v o k))]) (SoundG.cons least_ok (SoundG.nil _)) (SoundX.of (SoundRL.nil _) (SoundHL.cons bound_okH (SoundHL.nil _))) mixed (one_loop (fun cj hcj => by
  have e : loopAt B_rf 0 = some (.loop B_rg) := by kernel_rfl
  rw [e] at hcj; cases hcj
  exact depSp_sound (fun k => needSp_sound (fun h => rg_ls c T lo hi n a b u v o k pre0 pre1 pre2 pre3 pre4 h)))) (X := Nat) (inv_rf c T lo hi n a b u v o) (fun f => f ≤ c + 1) (fun f => c + 1 - f) (out_rf c T lo hi n a b u v o) (x0 := 0) (by simp) ?_ ?_ ?_
 ·rintro f
  kernel_rfl
 ·rintro f y E h
  unfold out_rf at h
  split at h
  ·cases h; kernel_rfl
  ·cases h
 ·rintro Q hQ f hx
  refine ⟨(f + 1), ?_⟩
  have e : roundX Try.prog [(95, S_least)] { R := [], H := [(86, H_bound)] } [depSp 14 (fun k => needSp [k ≤ c] (LS_rg c T lo hi n a b u v o k))] [] B_rf (inv_rf c T lo hi n a b u v o f) (inv_rf c T lo hi n a b u v o ((f + 1))) (out_rf c T lo hi n a b u v o f) = (let z0 := (fwO c (rdM c T lo hi a b u v n) o); let z1 := (lst 4 n (rq4 a b u v)); let z2 := (agg [iI (↑c : Int), iI T, iI lo, iI hi]); let z3 := (AV.x (Value.pointer none)); (branch (decide ((↑f : Int) < (↑c : Int) + 1)) (need [inI64 ((↑c : Int) + 1)] (need [f ≤ c] (need [Eq1 z2, z1 = lst 4 n (rq4 a b u v), Eq1 (ptr 0 0), Eq1 z3, Eq1 (AV.lit false), Eq1 (ptr 5 0), Eq1 (AV.mp 63), Eq1 (↑o : Int), Eq1 (↑f : Int), Eq1 ((↑c : Int) + 1), Eq1 ((↑c : Int) + 1), Eq1 (↑c : Int), Eq1 (↑c : Int), z1 = lst 4 n (rq4 a b u v), Eq1 (↑n : Int), Eq1 (↑n : Int), Eq1 ((↑c : Int) + 1), Eq1 (↑o : Int), Eq1 ((↑c : Int) + 1), Eq1 (↑f : Int), Eq1 ((↑c : Int) + 1), (0 : Int) = (↑(0 : Nat) : Int), 125 = 125, ∀ (k : Nat), k < 125 → siteF (↑c : Int) T lo hi (fwF c z0 o f) k = siteF (↑c : Int) T lo hi (fwT (fwF c z0 o f) o f 0) k, Eq1 (↑c : Int), T = T, lo = lo, hi = hi] (need [inI64 ((↑f : Int) + 1)] (need [Eq1 z2, z1 = lst 4 n (rq4 a b u v), Eq1 (ptr 0 0), Eq1 z3, Eq1 (AV.lit false), Eq1 (ptr 5 0), Eq1 (AV.mp 63), Eq1 (↑o : Int), Eq1 ((↑c : Int) + 1), Eq1 ((↑c : Int) + 1), Eq1 (↑c : Int), Eq1 (↑c : Int), z1 = lst 4 n (rq4 a b u v), Eq1 (↑n : Int), Eq1 (↑n : Int), Eq1 ((↑c : Int) + 1), Eq1 (↑o : Int), Eq1 ((↑c : Int) + 1), (↑f : Int) + 1 = (↑(f + 1) : Int), 125 = 125, ∀ (k : Nat), k < 125 → siteF (↑c : Int) T lo hi (fwT (fwF c z0 o f) o f (c + 1)) k = siteF (↑c : Int) T lo hi (fwF c z0 o (f + 1)) k, Eq1 (↑c : Int), T = T, lo = lo, hi = hi] (leaf AEx.normal)))))) (need [Eq1 z2, z1 = lst 4 n (rq4 a b u v), Eq1 (ptr 0 0), Eq1 z3, Eq1 (AV.lit false), Eq1 (ptr 5 0), Eq1 (AV.mp 63), Eq1 (↑o : Int), Eq1 ((↑c : Int) + 1), Eq1 ((↑c : Int) + 1), Eq1 (↑c : Int), Eq1 (↑c : Int), z1 = lst 4 n (rq4 a b u v), Eq1 (↑n : Int), Eq1 (↑n : Int), Eq1 ((↑c : Int) + 1), Eq1 (↑o : Int), Eq1 ((↑c : Int) + 1), (↑f : Int) = (↑c : Int) + 1, 125 = 125, ∀ (k : Nat), k < 125 → siteF (↑c : Int) T lo hi (fwF c z0 o f) k = siteF (↑c : Int) T lo hi (fwF c z0 o (c + 1)) k, Eq1 (↑c : Int), T = T, lo = lo, hi = hi] (leaf (AEx.exit 10))))) := by kernel_rfl
  rw [e]
  simp only [T_rf, out_rf, Tree.sat, Option.getD_some] at hQ
  simp only [Tree.sat, allP, fitP, fitL, valEq, inI64, true_and, and_true, decide_eq_true_eq, decide_eq_false_iff_not, Int.natCast_zero, Int.toNat_natCast, bne_iff_ne, ne_eq, bne_eq_false_iff_eq, List.length_cons, List.length_nil, updL_one, out_rf]
  clear e
  
  refine ⟨fun h => ?_, fun h => ?_⟩
  ·(repeat' first | with_reducible apply And.intro | with_reducible intro _)
   all_goals first | exact True.intro | omega | with_reducible rfl | (rename_i E hE; cases hE; exact hQ) | rfl
  ·obtain rfl : f = c + 1 := by omega
   (repeat' first | with_reducible apply And.intro | with_reducible intro _)
   all_goals first | exact True.intro | omega | with_reducible rfl | (rename_i E hE; cases hE; exact hQ) | rfl
theorem re_ls (c : Nat) (T lo hi : Int) (n : Nat) (a b u v : Nat → Int) (pre0 : 1 ≤ c ∧ c ≤ 10) (pre1 : 1 ≤ lo ∧ lo ≤ hi ∧ hi ≤ 200 ∧ 1 ≤ T ∧ T ≤ 2000) (pre2 : n ≤ 1000) (pre3 : allI (fun k => rdB c (a k) (b k) (u k) (v k)) n = true) : LSound Try.prog (.loop B_re) (LS_re c T lo hi n a b u v) := by
 refine loop_roundsX [] (E := { R := [], H := [(86, H_bound)] }) (G := [(95, S_least)]) (L := [depSp 13 (fun k => needSp [k ≤ c] (LS_rf c T lo hi n a b u v k))]) (SoundG.cons least_ok (SoundG.nil _)) (SoundX.of (SoundRL.nil _) (SoundHL.cons bound_okH (SoundHL.nil _))) mixed (one_loop (fun cj hcj => by
  have e : loopAt B_re 0 = some (.loop B_rf) := by kernel_rfl
  rw [e] at hcj; cases hcj
  exact depSp_sound (fun k => needSp_sound (fun h => rf_ls c T lo hi n a b u v k pre0 pre1 pre2 pre3 h)))) (X := Nat) (inv_re c T lo hi n a b u v) (fun o => o ≤ c + 1) (fun o => c + 1 - o) (out_re c T lo hi n a b u v) (x0 := 0) (by simp) ?_ ?_ ?_
 ·rintro o
  kernel_rfl
 ·rintro o y E h
  unfold out_re at h
  split at h
  ·cases h; kernel_rfl
  ·cases h
 ·rintro Q hQ o hx
  refine ⟨(o + 1), ?_⟩
  have e : roundX Try.prog [(95, S_least)] { R := [], H := [(86, H_bound)] } [depSp 13 (fun k => needSp [k ≤ c] (LS_rf c T lo hi n a b u v k))] [] B_re (inv_re c T lo hi n a b u v o) (inv_re c T lo hi n a b u v ((o + 1))) (out_re c T lo hi n a b u v o) = (let z0 := (lst 4 n (rq4 a b u v)); let z1 := (rdM c T lo hi a b u v n); let z2 := (agg [iI (↑c : Int), iI T, iI lo, iI hi]); let z3 := (AV.x (Value.pointer none)); (branch (decide ((↑o : Int) < (↑c : Int) + 1)) (need [inI64 ((↑c : Int) + 1)] (need [o ≤ c] (need [Eq1 z2, z0 = lst 4 n (rq4 a b u v), Eq1 (ptr 0 0), Eq1 z3, Eq1 (AV.lit false), Eq1 (ptr 5 0), Eq1 (AV.mp 63), Eq1 (↑o : Int), Eq1 ((↑c : Int) + 1), Eq1 ((↑c : Int) + 1), Eq1 (↑c : Int), Eq1 (↑c : Int), z0 = lst 4 n (rq4 a b u v), Eq1 (↑n : Int), Eq1 (↑n : Int), Eq1 ((↑c : Int) + 1), Eq1 (↑o : Int), Eq1 ((↑c : Int) + 1), (0 : Int) = (↑(0 : Nat) : Int), 125 = 125, ∀ (k : Nat), k < 125 → siteF (↑c : Int) T lo hi (fwO c z1 o) k = siteF (↑c : Int) T lo hi (fwF c (fwO c z1 o) o 0) k, Eq1 (↑c : Int), T = T, lo = lo, hi = hi] (need [inI64 ((↑o : Int) + 1)] (need [Eq1 z2, z0 = lst 4 n (rq4 a b u v), Eq1 (ptr 0 0), Eq1 z3, Eq1 (AV.lit false), Eq1 (ptr 5 0), Eq1 (AV.mp 63), Eq1 ((↑c : Int) + 1), Eq1 ((↑c : Int) + 1), Eq1 (↑c : Int), Eq1 (↑c : Int), z0 = lst 4 n (rq4 a b u v), Eq1 (↑n : Int), Eq1 (↑n : Int), Eq1 ((↑c : Int) + 1), (↑o : Int) + 1 = (↑(o + 1) : Int), 125 = 125, ∀ (k : Nat), k < 125 → siteF (↑c : Int) T lo hi (fwF c (fwO c z1 o) o (c + 1)) k = siteF (↑c : Int) T lo hi (fwO c z1 (o + 1)) k, Eq1 (↑c : Int), T = T, lo = lo, hi = hi] (leaf AEx.normal)))))) (need [Eq1 z2, z0 = lst 4 n (rq4 a b u v), Eq1 (ptr 0 0), Eq1 z3, Eq1 (AV.lit false), Eq1 (ptr 5 0), Eq1 (AV.mp 63), Eq1 ((↑c : Int) + 1), Eq1 ((↑c : Int) + 1), Eq1 (↑c : Int), Eq1 (↑c : Int), z0 = lst 4 n (rq4 a b u v), Eq1 (↑n : Int), Eq1 (↑n : Int), Eq1 ((↑c : Int) + 1), (↑o : Int) = (↑c : Int) + 1, 125 = 125, ∀ (k : Nat), k < 125 → siteF (↑c : Int) T lo hi (fwO c z1 o) k = siteF (↑c : Int) T lo hi (fwO c z1 (c + 1)) k, Eq1 (↑c : Int), T = T, lo = lo, hi = hi] (leaf (AEx.exit 8))))) := by kernel_rfl
  rw [e]
  simp only [T_re, out_re, Tree.sat, Option.getD_some] at hQ
  simp only [Tree.sat, allP, fitP, fitL, valEq, inI64, true_and, and_true, decide_eq_true_eq, decide_eq_false_iff_not, Int.natCast_zero, Int.toNat_natCast, bne_iff_ne, ne_eq, bne_eq_false_iff_eq, List.length_cons, List.length_nil, updL_one, out_re]
  clear e
  
  refine ⟨fun h => ?_, fun h => ?_⟩
  ·(repeat' first | with_reducible apply And.intro | with_reducible intro _)
   all_goals first | exact True.intro | omega | with_reducible rfl | (rename_i E hE; cases hE; exact hQ) | rfl
  ·obtain rfl : o = c + 1 := by omega
   (repeat' first | with_reducible apply And.intro | with_reducible intro _)
   all_goals first | exact True.intro | omega | with_reducible rfl | (rename_i E hE; cases hE; exact hQ) | rfl
end Go.Proofs.Ytlinbkmpkcmniaa.Bo
namespace Go.Proofs.Ytlinbkmpkcmniaa.Bo
open Go Go.Sx Go.RowKit
open Go.Sx.Tree (need branch leaf)
open Go.Sx.AV (lst ptr agg roI tup top)
def fwM (c : Nat) (T lo hi : Int) (n : Nat) (a b u v : Nat → Int) : Nat → Nat → Int := fwO c (rdM c T lo hi a b u v n) (c + 1)
def okR (c : Nat) (T lo hi : Int) (n : Nat) (a b u v : Nat → Int) : Bool := allI (fun k => decide (0 ≤ fwM c T lo hi n a b u v k k)) (c + 1)
noncomputable def E_rh (c : Nat) (T lo hi : Int) (n : Nat) (a b u v : Nat → Int) : St := (some { σ := [agg [iI (↑c : Int), iI T, iI lo, iI hi], lst 4 n fun k => [iI (a k), iI (b k), iI (u k), iI (v k)], ptr 0 0, top, top, top, ptr 5 0, top, top, top, AV.mp 63] ++ tpL 11 [iI ((↑c : Int) + (1 : Int)), iI ((↑c : Int) + (1 : Int))] ++ tpL 21 [iI (↑c : Int), iI (↑c : Int)] ++ tpL 34 [lst 4 n fun k => [iI (a k), iI (b k), iI (u k), iI (v k)], iI (↑n : Int), iI (↑n : Int)] ++ tpL 37 [iI ((↑c : Int) + (1 : Int)), iI ((↑c : Int) + (1 : Int))] ++ tpL 40 [iI ((↑c : Int) + (1 : Int))] ++ tpL 14 [], m := [(5, Res.ints 153 [] 125 fun k => siteF (↑c : Int) T lo hi (fwO c (rdM c T lo hi a b u v n) (c + 1)) k), (0, Res.cells 25 [iI (↑c : Int), iI T, iI lo, iI hi])], nx := 76 } : Option St).getD { σ := [], m := [], nx := 0 }
noncomputable def B_rh : Code := loopBody (loopAt (bodyOf Try.f72) 4)
noncomputable def inv_rh (c : Nat) (T lo hi : Int) (n : Nat) (a b u v : Nat → Int) (k : Nat) : St := { σ := ovrS [(164, i k)] (E_rh c T lo hi n a b u v).σ, m := [(5, .ints 153 [] 125 (siteF c T lo hi (fwM c T lo hi n a b u v))), (0, .cells 25 [i c, i T, i lo, i hi])], nx := (E_rh c T lo hi n a b u v).nx }
noncomputable def out_rh (c : Nat) (T lo hi : Int) (n : Nat) (a b u v : Nat → Int) (k : Nat) : AEx → Option St := fun ex => match ex with
 | .ret => some { σ := ovrS [(4, .x (.pointer none)), (5, .lit false), (164, .top)] (E_rh c T lo hi n a b u v).σ, m := [(5, .ints 153 [] 125 (siteF c T lo hi (fwM c T lo hi n a b u v))), (0, .cells 25 [i c, i T, i lo, i hi])], nx := (E_rh c T lo hi n a b u v).nx }
 | .exit 14 => some { σ := ovrS [(164, .top)] (E_rh c T lo hi n a b u v).σ, m := [(5, .ints 153 [] 125 (siteF c T lo hi (fwM c T lo hi n a b u v))), (0, .cells 25 [i c, i T, i lo, i hi])], nx := (E_rh c T lo hi n a b u v).nx }
 | _ => none
noncomputable def T_rh (c : Nat) (T lo hi : Int) (n : Nat) (a b u v : Nat → Int) : CT := .branch (okR c T lo hi n a b u v) (.leaf (.exit 14, ( out_rh c T lo hi n a b u v 0 (.exit 14)).getD (E_rh c T lo hi n a b u v))) (.leaf (.ret, ( out_rh c T lo hi n a b u v 0 .ret).getD (E_rh c T lo hi n a b u v)))
noncomputable def LS_rh (c : Nat) (T lo hi : Int) (n : Nat) (a b u v : Nat → Int) : LSpec := normSp [] (sumL (inv_rh c T lo hi n a b u v (0)) (T_rh c T lo hi n a b u v))
theorem rh_ls (c : Nat) (T lo hi : Int) (n : Nat) (a b u v : Nat → Int) (pre0 : 1 ≤ c ∧ c ≤ 10) (pre1 : 1 ≤ lo ∧ lo ≤ hi ∧ hi ≤ 200 ∧ 1 ≤ T ∧ T ≤ 2000) (pre2 : n ≤ 1000) (pre3 : allI (fun k => rdB c (a k) (b k) (u k) (v k)) n = true) : LSound Try.prog (.loop B_rh) (LS_rh c T lo hi n a b u v) := by
 refine loop_roundsX [] (E := { R := [], H := [(86, H_bound)] }) (G := [(95, S_least)]) (L := []) (SoundG.cons least_ok (SoundG.nil _)) (SoundX.of (SoundRL.nil _) (SoundHL.cons bound_okH (SoundHL.nil _))) mixed noLoops (X := Nat) (inv_rh c T lo hi n a b u v) (fun k => k ≤ c + 1 ∧ ∀ j, j < k → 0 ≤ fwM c T lo hi n a b u v j j) (fun k => c + 1 - k) (out_rh c T lo hi n a b u v) (x0 := 0) (by simp) ?_ ?_ ?_
 ·rintro k
  kernel_rfl
 ·rintro k y E h
  unfold out_rh at h
  split at h
  ·cases h; kernel_rfl
  ·cases h; kernel_rfl
  ·cases h
 ·rintro Q hQ k hx
  refine ⟨(k + 1), ?_⟩
  have e : roundX Try.prog [(95, S_least)] { R := [], H := [(86, H_bound)] } [] [] B_rh (inv_rh c T lo hi n a b u v k) (inv_rh c T lo hi n a b u v ((k + 1))) (out_rh c T lo hi n a b u v k) = (let z0 := (fwM c T lo hi n a b u v); let z1 := (lst 4 n (rq4 a b u v)); let z2 := (agg [iI (↑c : Int), iI T, iI lo, iI hi]); (branch (decide ((↑k : Int) < (↑c : Int) + 1)) (need [(0 : Int) ≤ (↑k : Int) ∧ (↑k : Int) < (↑(11 : Nat) : Int)] (need [(0 : Int) ≤ (↑k : Int) ∧ (↑k : Int) < (↑(11 : Nat) : Int)] (need [k * 1 + (k * 11 + 4) < 125] (branch (decide (siteF (↑c : Int) T lo hi z0 (k * 1 + (k * 11 + 4)) < (0 : Int))) (need [Eq1 z2, z1 = lst 4 n (rq4 a b u v), Eq1 (ptr 0 0), Eq1 (AV.x (Value.pointer none)), Eq1 (AV.lit false), Eq1 (ptr 5 0), Eq1 (AV.mp 63), Eq1 ((↑c : Int) + 1), Eq1 ((↑c : Int) + 1), Eq1 (↑c : Int), Eq1 (↑c : Int), z1 = lst 4 n (rq4 a b u v), Eq1 (↑n : Int), Eq1 (↑n : Int), Eq1 ((↑c : Int) + 1), Eq1 ((↑c : Int) + 1), Eq1 ((↑c : Int) + 1), 125 = 125, ∀ (k : Nat), k < 125 → siteF (↑c : Int) T lo hi z0 k = siteF (↑c : Int) T lo hi z0 k, Eq1 (↑c : Int), T = T, lo = lo, hi = hi] (leaf AEx.ret)) (need [inI64 ((↑k : Int) + 1)] (need [Eq1 z2, z1 = lst 4 n (rq4 a b u v), Eq1 (ptr 0 0), Eq1 (ptr 5 0), Eq1 (AV.mp 63), Eq1 ((↑c : Int) + 1), Eq1 ((↑c : Int) + 1), Eq1 (↑c : Int), Eq1 (↑c : Int), z1 = lst 4 n (rq4 a b u v), Eq1 (↑n : Int), Eq1 (↑n : Int), Eq1 ((↑c : Int) + 1), Eq1 ((↑c : Int) + 1), Eq1 ((↑c : Int) + 1), (↑k : Int) + 1 = (↑(k + 1) : Int), 125 = 125, ∀ (k : Nat), k < 125 → siteF (↑c : Int) T lo hi z0 k = siteF (↑c : Int) T lo hi z0 k, Eq1 (↑c : Int), T = T, lo = lo, hi = hi] (leaf AEx.normal))))))) (need [Eq1 z2, z1 = lst 4 n (rq4 a b u v), Eq1 (ptr 0 0), Eq1 (ptr 5 0), Eq1 (AV.mp 63), Eq1 ((↑c : Int) + 1), Eq1 ((↑c : Int) + 1), Eq1 (↑c : Int), Eq1 (↑c : Int), z1 = lst 4 n (rq4 a b u v), Eq1 (↑n : Int), Eq1 (↑n : Int), Eq1 ((↑c : Int) + 1), Eq1 ((↑c : Int) + 1), Eq1 ((↑c : Int) + 1), 125 = 125, ∀ (k : Nat), k < 125 → siteF (↑c : Int) T lo hi z0 k = siteF (↑c : Int) T lo hi z0 k, Eq1 (↑c : Int), T = T, lo = lo, hi = hi] (leaf (AEx.exit 14))))) := by kernel_rfl
  rw [e]
  simp only [T_rh, out_rh, Tree.sat, Option.getD_some] at hQ
  simp only [Tree.sat, allP, fitP, fitL, valEq, inI64, true_and, and_true, decide_eq_true_eq, decide_eq_false_iff_not, Int.natCast_zero, Int.toNat_natCast, bne_iff_ne, ne_eq, bne_eq_false_iff_eq, List.length_cons, List.length_nil, updL_one, out_rh]
  clear e
  
  have h1 : siteF c T lo hi (fwM c T lo hi n a b u v) (k * 1 + (k * 11 + 4)) = fwM c T lo hi n a b u v k k ∨ 11 ≤ k := by
   rcases Nat.lt_or_ge k 11 with h | h
   ·exact .inl (site_get _ _ _ _ _ (by omega) h)
   ·exact .inr h
  refine ⟨fun h => ?_, fun h => ?_⟩
  ·have h2 := h1.resolve_right (by omega)
   rw [h2]
   refine ⟨by omega, by omega, by omega, fun hneg => ?_, fun hpos => ?_⟩
   ·have hno : okR c T lo hi n a b u v = false := by
     cases ho : okR c T lo hi n a b u v
     ·rfl
     ·have := allI_iff.1 ho k (by omega)
      simp at this
      omega
    (repeat' first | with_reducible apply And.intro | with_reducible intro _)
    all_goals first | exact True.intro | omega | with_reducible rfl | (rename_i E hE; cases hE; exact hQ) | rfl | (rename_i E hE; cases hE; exact hQ.2 hno)
   ·(repeat' first | with_reducible apply And.intro | with_reducible intro _)
    all_goals first | exact True.intro | omega | with_reducible rfl | (rename_i E hE; cases hE; exact hQ) | rfl | (rename_i j hj; rcases (show j < k ∨ j = k by omega) with h3 | h3; exact hx.2 j h3; subst h3; omega)
  ·obtain ⟨hx1, hx2⟩ := hx
   obtain rfl : k = c + 1 := by omega
   have hyes : okR c T lo hi n a b u v = true := allI_iff.2 (fun j hj => by simpa using hx2 j hj)
   (repeat' first | with_reducible apply And.intro | with_reducible intro _)
   all_goals first | exact True.intro | omega | with_reducible rfl | (rename_i E hE; cases hE; exact hQ) | rfl | (rename_i E hE; cases hE; exact hQ.1 hyes)
theorem five_loops {S : Code → LSpec → Prop} {c : Code} {s0 s1 s2 s3 s4 : LSpec} (h0 : ∀ cj, loopAt c 0 = some cj → S cj s0) (h1 : ∀ cj, loopAt c 1 = some cj → S cj s1) (h2 : ∀ cj, loopAt c 2 = some cj → S cj s2) (h3 : ∀ cj, loopAt c 3 = some cj → S cj s3) (h4 : ∀ cj, loopAt c 4 = some cj → S cj s4) :
  ∀ j cj, loopAt c j = some cj → ∀ sp, [s0, s1, s2, s3, s4][j]? = some sp → S cj sp := by
 intro j cj hj sp hsp
 match j with
 | 0 => simp at hsp; subst hsp; exact h0 cj hj
 | 1 => simp at hsp; subst hsp; exact h1 cj hj
 | 2 => simp at hsp; subst hsp; exact h2 cj hj
 | 3 => simp at hsp; subst hsp; exact h3 cj hj
 | 4 => simp at hsp; subst hsp; exact h4 cj hj
 | j + 5 => simp at hsp
theorem SoundCAt.same {P : Program} {f : FuncId} {avs avs' : List AV} {t : Tree AV} (h : SoundCAt P f avs' t) (k : Sames avs avs') : SoundCAt P f avs t := fun Q hQ e w args hro hidf hr => h Q hQ e w args hro (k.idf hidf) (k.rep hr)
abbrev siteA (c : Nat) (T lo hi : Int) (n : Nat) (a b u v : Nat → Int) : AV := .roI [] 125 (siteF c T lo hi (fwM c T lo hi n a b u v)) 0
abbrev nilP : AV := .x (.pointer none)
theorem read_at (c : Nat) (T lo hi : Int) (n : Nat) (a b u v : Nat → Int) (pre0 : 1 ≤ c ∧ c ≤ 10) (pre1 : 1 ≤ lo ∧ lo ≤ hi ∧ hi ≤ 200 ∧ 1 ≤ T ∧ T ≤ 2000) (pre2 : n ≤ 1000) (pre3 : allI (fun k => rdB c (a k) (b k) (u k) (v k)) n = true) : SoundCAt Try.prog 72 [.agg [i c, i T, i lo, i hi], rds n a b u v] (.branch (okR c T lo hi n a b u v) (.leaf (.tup [siteA c T lo hi n a b u v, .lit true])) (.leaf (.tup [nilP, .lit false]))) := by
 refine soundCAt_fin (G := [(95, S_least)]) (X := { R := [], H := [(86, H_bound)] }) (L := [LS_ra c T lo hi n a b u v, LS_rc c T lo hi n a b u v, LS_rd c T lo hi n a b u v, LS_re c T lo hi n a b u v, LS_rh c T lo hi n a b u v]) (SoundG.cons least_ok (SoundG.nil _)) (SoundX.of (SoundRL.nil _) (SoundHL.cons bound_okH (SoundHL.nil _))) mixed Try.func72 (show Try.f72.body = some (bodyOf Try.f72) by kernel_rfl) (five_loops (lpE (b := .loop B_ra) (by kernel_rfl) <| (ra_ls c T lo hi n a b u v pre0 pre1).N) (lpE (b := .loop B_rc) (by kernel_rfl) <| (rc_ls c T lo hi n a b u v pre0 pre1).N) (lpE (b := .loop B_rd) (by kernel_rfl) <| (rd_ls c T lo hi n a b u v pre0 pre1 pre2 pre3).N) (lpE (b := .loop B_re) (by kernel_rfl) <| (re_ls c T lo hi n a b u v pre0 pre1 pre2 pre3).N) (lpE (b := .loop B_rh) (by kernel_rfl) <| (rh_ls c T lo hi n a b u v pre0 pre1 pre2 pre3).N)) (t := (let z0 := (lst 4 n (rq4 a b u v)); let z1 := (agg [iI (↑c : Int), iI T, iI lo, iI hi]); let z2 := (siteF (↑c : Int) T lo hi (cel c lo hi c) (c * 1 + 4)); let z3 := (updI (c * 1 + 4) (min z2 T) (siteF (↑c : Int) T lo hi (cel c lo hi c)) (0 + (c * 11 + 4))); let z4 := (AV.x (Value.pointer none)); (need [inI64 ((↑c : Int) + 1)] (need [Eq1 z1, z0 = lst 4 n (rq4 a b u v), Eq1 (ptr 0 0), Eq1 z4, Eq1 (AV.lit false), Eq1 (ptr 5 0), Eq1 ((↑c : Int) + 1), (0 : Int) = (↑(0 : Nat) : Int), List.length [(↑c : Int), T, lo, hi, 0, 0, 0, 0, 0, 0, 0, 0, 0, 0, 0, 0, 0, 0, 0, 0, 0, 0, 0, 0, 0, 0, 0, 0, 0, 0, 0, 0, 0, 0, 0, 0, 0, 0, 0, 0, 0, 0, 0, 0, 0, 0, 0, 0, 0, 0, 0, 0, 0, 0, 0, 0, 0, 0, 0, 0, 0, 0, 0, 0, 0, 0, 0, 0, 0, 0, 0, 0, 0, 0, 0, 0, 0, 0, 0, 0, 0, 0, 0, 0, 0, 0, 0, 0, 0, 0, 0, 0, 0, 0, 0, 0, 0, 0, 0, 0, 0, 0, 0, 0, 0, 0, 0, 0, 0, 0, 0, 0, 0, 0, 0, 0, 0, 0, 0, 0, 0, 0, 0, 0, 0] = 125, ∀ (k : Nat), k < 125 → nthJ [(↑c : Int), T, lo, hi, 0, 0, 0, 0, 0, 0, 0, 0, 0, 0, 0, 0, 0, 0, 0, 0, 0, 0, 0, 0, 0, 0, 0, 0, 0, 0, 0, 0, 0, 0, 0, 0, 0, 0, 0, 0, 0, 0, 0, 0, 0, 0, 0, 0, 0, 0, 0, 0, 0, 0, 0, 0, 0, 0, 0, 0, 0, 0, 0, 0, 0, 0, 0, 0, 0, 0, 0, 0, 0, 0, 0, 0, 0, 0, 0, 0, 0, 0, 0, 0, 0, 0, 0, 0, 0, 0, 0, 0, 0, 0, 0, 0, 0, 0, 0, 0, 0, 0, 0, 0, 0, 0, 0, 0, 0, 0, 0, 0, 0, 0, 0, 0, 0, 0, 0, 0, 0, 0, 0, 0, 0] k = siteF (↑c : Int) T lo hi (ini c 0 0) k, Eq1 (↑c : Int), T = T, lo = lo, hi = hi] (need [Eq1 z1, z0 = lst 4 n (rq4 a b u v), Eq1 (ptr 0 0), Eq1 z4, Eq1 (AV.lit false), Eq1 (ptr 5 0), Eq1 ((↑c : Int) + 1), Eq1 ((↑c : Int) + 1), Eq1 (↑c : Int), (0 : Int) = (↑(0 : Nat) : Int), 125 = 125, ∀ (k : Nat), k < 125 → siteF (↑c : Int) T lo hi (ini c (c + 1) 0) k = siteF (↑c : Int) T lo hi (cel c lo hi 0) k, Eq1 (↑c : Int), T = T, lo = lo, hi = hi] (need [(0 : Int) ≤ 0 ∧ (0 : Int) < (↑(11 : Nat) : Int)] (need [(0 : Int) ≤ (↑c : Int) ∧ (↑c : Int) < (↑(11 : Nat) : Int)] (need [c * 1 + 4 < 125] (need [(0 : Int) ≤ 0 ∧ (0 : Int) < (↑(11 : Nat) : Int)] (need [(0 : Int) ≤ (↑c : Int) ∧ (↑c : Int) < (↑(11 : Nat) : Int)] (need [c * 1 + 4 + List.length [min z2 T] ≤ 125] (need [inI64 (-T)] (need [(0 : Int) ≤ (↑c : Int) ∧ (↑c : Int) < (↑(11 : Nat) : Int)] (need [(0 : Int) ≤ 0 ∧ (0 : Int) < (↑(11 : Nat) : Int)] (need [0 + (c * 11 + 4) < 125] (need [(0 : Int) ≤ (↑c : Int) ∧ (↑c : Int) < (↑(11 : Nat) : Int)] (need [(0 : Int) ≤ 0 ∧ (0 : Int) < (↑(11 : Nat) : Int)] (need [0 + (c * 11 + 4) + List.length [min z3 (-T)] ≤ 125] (need [Eq1 z1, z0 = lst 4 n (rq4 a b u v), Eq1 (ptr 0 0), Eq1 z4, Eq1 (AV.lit false), Eq1 (ptr 5 0), Eq1 (AV.mp 63), Eq1 ((↑c : Int) + 1), Eq1 ((↑c : Int) + 1), Eq1 (↑c : Int), Eq1 (↑c : Int), z0 = lst 4 n (rq4 a b u v), Eq1 (↑n : Int), (0 : Int) = (↑(0 : Nat) : Int), 125 = 125, ∀ (k : Nat), k < 125 → updI (0 + (c * 11 + 4)) (min z3 (-T)) (updL (c * 1 + 4) [min z2 T] (siteF (↑c : Int) T lo hi (cel c lo hi c))) k = siteF (↑c : Int) T lo hi (rdM c T lo hi a b u v 0) k, Eq1 (↑c : Int), T = T, lo = lo, hi = hi, ∀ (k : Value), False → sn a b u v 0 k ∧ k = Value.bool true] (need [inI64 ((↑c : Int) + 1)] (need [Eq1 z1, z0 = lst 4 n (rq4 a b u v), Eq1 (ptr 0 0), Eq1 z4, Eq1 (AV.lit false), Eq1 (ptr 5 0), Eq1 (AV.mp 63), Eq1 ((↑c : Int) + 1), Eq1 ((↑c : Int) + 1), Eq1 (↑c : Int), Eq1 (↑c : Int), z0 = lst 4 n (rq4 a b u v), Eq1 (↑n : Int), Eq1 (↑n : Int), Eq1 ((↑c : Int) + 1), (0 : Int) = (↑(0 : Nat) : Int), 125 = 125, ∀ (k : Nat), k < 125 → siteF (↑c : Int) T lo hi (rdM c T lo hi a b u v n) k = siteF (↑c : Int) T lo hi (fwO c (rdM c T lo hi a b u v n) 0) k, Eq1 (↑c : Int), T = T, lo = lo, hi = hi] (need [inI64 ((↑c : Int) + 1)] (need [Eq1 z1, z0 = lst 4 n (rq4 a b u v), Eq1 (ptr 0 0), Eq1 (ptr 5 0), Eq1 (AV.mp 63), Eq1 ((↑c : Int) + 1), Eq1 ((↑c : Int) + 1), Eq1 (↑c : Int), Eq1 (↑c : Int), z0 = lst 4 n (rq4 a b u v), Eq1 (↑n : Int), Eq1 (↑n : Int), Eq1 ((↑c : Int) + 1), Eq1 ((↑c : Int) + 1), Eq1 ((↑c : Int) + 1), (0 : Int) = (↑(0 : Nat) : Int), 125 = 125, ∀ (k : Nat), k < 125 → siteF (↑c : Int) T lo hi (fwO c (rdM c T lo hi a b u v n) (c + 1)) k = siteF (↑c : Int) T lo hi (fwM c T lo hi n a b u v) k, Eq1 (↑c : Int), T = T, lo = lo, hi = hi] (branch (okR c T lo hi n a b u v) (leaf (tup [roI [] 125 (fun k => siteF (↑c : Int) T lo hi (fwM c T lo hi n a b u v) k) 0, AV.lit true])) (leaf (tup [AV.x (Value.pointer none), AV.lit false])))))))))))))))))))))))))) (by kernel_rfl) ?_
 intro Q hQ
 have h1 : ∀ M w, updI (c * 1 + 4) (min (siteF c T lo hi M (c * 1 + 4)) w) (siteF c T lo hi M) = siteF c T lo hi (bnd M 0 c w) := fun M w => bnd_set (by omega) (by omega)
 have h2 : ∀ M w, updI (0 + (c * 11 + 4)) (min (siteF c T lo hi M (0 + (c * 11 + 4))) w) (siteF c T lo hi M) = siteF c T lo hi (bnd M c 0 w) := fun M w => bnd_set (by omega) (by omega)
 simp only [Tree.sat, allP, true_and, and_true, inI64, List.length_cons, List.length_nil, updL_one, h1, h2] at hQ ⊢
 (repeat' first | with_reducible apply And.intro | with_reducible intro _)
 all_goals first | exact True.intro | omega | with_reducible rfl | rfl | exact site_ini _ _ _ _ _ _ | (rename_i h; exact h.elim) | (rename_i h; exact ⟨.tup [siteA c T lo hi n a b u v, .lit true], ⟨⟨rfl, rfl, fun _ _ => rfl, rfl⟩, rfl, True.intro⟩, hQ.1 h⟩) | (rename_i h; exact ⟨.tup [nilP, .lit false], ⟨rfl, rfl, True.intro⟩, hQ.2 h⟩)
def col (j : Nat) (f : Nat → List AV) : Nat → Int := fun k => intAt (f k) j
noncomputable def C_read : CSpec := fun l => match l with
 | [.agg [.x (.int .i64 c), .x (.int .i64 T), .x (.int .i64 lo), .x (.int .i64 hi)], .lst 4 n f] => some (.need [isRec 4 n f, 1 ≤ c ∧ c ≤ 10, 1 ≤ lo ∧ lo ≤ hi ∧ hi ≤ 200 ∧ 1 ≤ T ∧ T ≤ 2000, n ≤ 1000, allI (fun k => rdB c (col 0 f k) (col 1 f k) (col 2 f k) (col 3 f k)) n = true]
   (.branch (okR c.toNat T lo hi n (col 0 f) (col 1 f) (col 2 f) (col 3 f)) (.leaf (.tup [siteA c.toNat T lo hi n (col 0 f) (col 1 f) (col 2 f) (col 3 f), .lit true])) (.leaf (.tup [nilP, .lit false]))))
 | _ => none
theorem read_okC : Enters Try.prog 72 ∧ ∀ avs t, C_read avs = some t → SoundCAt Try.prog 72 avs t := by
 refine ⟨⟨_, Try.func72, by kernel_rfl, by kernel_rfl⟩, ?_⟩
 intro avs t h
 unfold C_read at h
 split at h
 ·rename_i c T lo hi n f
  cases h
  intro Q hQ
  have hn := allP_mem hQ.1
  have hr : isRec 4 n f := hn _ (by simp)
  have hc : 1 ≤ c ∧ c ≤ 10 := hn _ (by simp)
  have hall : allI (fun k => rdB c (col 0 f k) (col 1 f k) (col 2 f k) (col 3 f k)) n = true := hn _ (by simp)
  have e : ((c.toNat : Nat) : Int) = c := by omega
  have h0 := read_at c.toNat T lo hi n (col 0 f) (col 1 f) (col 2 f) (col 3 f) (by omega) (hn _ (by simp)) (hn _ (by simp)) (by rw [e]; exact hall)
  rw [e] at h0
  exact SoundCAt.same h0 (.cons (.refl _) (.cons (.lst 4 n _ _ hr) .nil)) Q hQ.2
 ·cases h
theorem SoundDAt.same {P : Program} {f : FuncId} {avs avs' : List AV} {t : Tree AV} (h : SoundDAt P f avs' t) (k : Sames avs avs') : SoundDAt P f avs t := fun Q hQ e w args hro hidf hr => h Q hQ e w args hro (k.idf hidf) (k.rep hr)
end Go.Proofs.Ytlinbkmpkcmniaa.Bo
namespace Go.Proofs.Ytlinbkmpkcmniaa.Bo
open Go Go.Sx Go.RowKit
open Go.Sx.Tree (need branch leaf)
open Go.Sx.AV (lst ptr agg roI tup top)
def S_allr1 : Sx.Spec := fun l => match l with
 | [.agg [.x (.int .i64 a), .x (.int .i64 b), .x (.int .i64 u), .x (.int .i64 v)], .ro [.fn (.func 84) [.agg [.x (.int .i64 c), .x (.int .i64 T), .x (.int .i64 lo), .x (.int .i64 hi)]] []]] => some ([1 ≤ c ∧ c ≤ 10], bl (!rdB c a b u v))
 | _ => none
theorem allr1_at (c T lo hi a b u v : Int) (pre0 : 1 ≤ c ∧ c ≤ 10) : SoundAt Try.prog 94 [.agg [i a, i b, i u, i v], .ro [.fn (.func 84) [.agg [i c, i T, i lo, i hi]] []]] (bl (!rdB c a b u v)) := by
 refine soundAt_fin (G := [(84, S_reading)]) (L := []) (SoundG.cons reading_ok (SoundG.nil _)) mixed Try.func94 (show Try.f94.body = some (bodyOf Try.f94) by kernel_rfl) noLoops (t := (need [(1 : Int) ≤ c ∧ c ≤ (10 : Int)] (leaf (RV.x (Value.bool !rdB c a b u v))))) (by kernel_rfl) ?_
 simp [Tree.sat, allP, fitP, valEq]; exact pre0
theorem allr1_ok : SoundSpec Try.prog 94 S_allr1 := by
 refine ⟨⟨_, Try.func94, by kernel_rfl, by kernel_rfl⟩, ?_⟩
 intro avs ns res h hn
 unfold S_allr1 at h
 split at h
 ·cases h
  exact allr1_at _ _ _ _ _ _ _ _ (hn _ (by simp))
 ·cases h
def notR (c : Int) (a b u v : Nat → Int) (k : Nat) : Bool := !rdB c (a k) (b k) (u k) (v k)
def allR (c : Int) (n : Nat) (a b u v : Nat → Int) : Bool := allI (fun k => rdB c (a k) (b k) (u k) (v k)) n
noncomputable def E_xfr (c T lo hi : Int) (n : Nat) (a b u v : Nat → Int) : St := (some { σ := [lst 4 n fun k => [iI (a k), iI (b k), iI (u k), iI (v k)], AV.fn (Fn.func 94) [] [AV.ro [AV.fn (Fn.func 84) [agg [iI c, iI T, iI lo, iI hi]] []]]] ++ tpL 5 [iI (↑n : Int)] ++ tpL 11 [], m := [], nx := 4 } : Option St).getD { σ := [], m := [], nx := 0 }
noncomputable def B_xfr : Code := loopBody (loopAt (bodyOf Try.f96) 0)
noncomputable def inv_xfr (c T lo hi : Int) (n : Nat) (a b u v : Nat → Int) (k : Nat) : St := { σ := ovrS [(8, i k)] (E_xfr c T lo hi n a b u v).σ, m := (E_xfr c T lo hi n a b u v).m, nx := (E_xfr c T lo hi n a b u v).nx }
noncomputable def out_xfr (c T lo hi : Int) (n : Nat) (a b u v : Nat → Int) (k : Nat) : AEx → Option St := fun ex => match ex with
 | .ret => some { σ := ovrS [(4, i (fstI (notR c a b u v) n))] (E_xfr c T lo hi n a b u v).σ, m := (E_xfr c T lo hi n a b u v).m, nx := (E_xfr c T lo hi n a b u v).nx }
 | .exit 0 => some { σ := ovrS [] (E_xfr c T lo hi n a b u v).σ, m := (E_xfr c T lo hi n a b u v).m, nx := (E_xfr c T lo hi n a b u v).nx }
 | _ => none
noncomputable def T_xfr (c T lo hi : Int) (n : Nat) (a b u v : Nat → Int) : CT := .branch (decide (fstI (notR c a b u v) n < n)) (.leaf (.ret, ( out_xfr c T lo hi n a b u v 0 .ret).getD (E_xfr c T lo hi n a b u v))) (.leaf (.exit 0, ( out_xfr c T lo hi n a b u v 0 (.exit 0)).getD (E_xfr c T lo hi n a b u v)))
noncomputable def LS_xfr (c T lo hi : Int) (n : Nat) (a b u v : Nat → Int) : LSpec := (sumL (inv_xfr c T lo hi n a b u v (0)) (T_xfr c T lo hi n a b u v))
theorem xfr_ls (c T lo hi : Int) (n : Nat) (a b u v : Nat → Int) (pre0 : n ≤ 100000) (pre1 : 1 ≤ c ∧ c ≤ 10) : LSound Try.prog (.loop B_xfr) (LS_xfr c T lo hi n a b u v) := by
 refine loop_rounds (G := [(94, S_allr1)]) (L := []) (SoundG.cons allr1_ok (SoundG.nil _)) mixed noLoops (X := Nat) (inv_xfr c T lo hi n a b u v) (fun k => k ≤ n ∧ ∀ j, j < k → notR c a b u v j = false) (fun k => n - k) (out_xfr c T lo hi n a b u v) (x0 := 0) (by simp) ?_ ?_ ?_
 ·rintro k
  kernel_rfl
 ·rintro k y E h
  unfold out_xfr at h
  split at h
  ·cases h; kernel_rfl
  ·cases h; kernel_rfl
  ·cases h
 ·rintro Q hQ k hx
  refine ⟨(k + 1), ?_⟩
  have e : roundT Try.prog [(94, S_allr1)] [] B_xfr (inv_xfr c T lo hi n a b u v k) (inv_xfr c T lo hi n a b u v ((k + 1))) (out_xfr c T lo hi n a b u v k) = (let z0 := (AV.fn (Fn.func 94) [] [AV.ro [AV.fn (Fn.func 84) [agg [iI c, iI T, iI lo, iI hi]] []]]); let z1 := (lst 4 n (rq4 a b u v)); (branch (decide ((↑k : Int) < (↑n : Int))) (need [(0 : Int) ≤ (↑k : Int) ∧ (↑k : Int) < (↑n : Int)] (need [(1 : Int) ≤ c ∧ c ≤ (10 : Int)] (branch (!rdB c (a k) (b k) (u k) (v k)) (need [z1 = lst 4 n (rq4 a b u v), Eq1 z0, (↑k : Int) = (↑(fstI (notR c a b u v) n) : Int), Eq1 (↑n : Int)] (leaf AEx.ret)) (need [inI64 ((↑k : Int) + 1)] (need [z1 = lst 4 n (rq4 a b u v), Eq1 z0, Eq1 (↑n : Int), (↑k : Int) + 1 = (↑(k + 1) : Int)] (leaf AEx.normal)))))) (need [z1 = lst 4 n (rq4 a b u v), Eq1 z0, Eq1 (↑n : Int)] (leaf (AEx.exit 0))))) := by kernel_rfl
  rw [e]
  simp only [T_xfr, out_xfr, Tree.sat, Option.getD_some, decide_eq_true_eq, decide_eq_false_iff_not] at hQ
  simp only [Tree.sat, allP, true_and, and_true, decide_eq_true_eq, decide_eq_false_iff_not, inI64, out_xfr, Int.toNat_natCast]
  refine ⟨fun h => ⟨by omega, pre1, fun hb => ?_, fun hb => ?_⟩, fun h => ?_⟩
  ·have hf : fstI (notR c a b u v) n = k := fstI_eq (by omega) hb hx.2
   refine ⟨by omega, fun E hE => ?_⟩
   cases hE
   exact hQ.1 (by omega)
  ·refine ⟨by omega, by omega, ⟨by omega, fun j hj => ?_⟩, by omega⟩
   rcases (show j < k ∨ j = k by omega) with h1 | rfl
   ·exact hx.2 j h1
   ·exact hb
  ·have hf : fstI (notR c a b u v) n = n := fstI_none (fun j hj => hx.2 j (by omega))
   intro E hE
   cases hE
   exact hQ.2 (by omega)
theorem xfr_at (c T lo hi : Int) (n : Nat) (a b u v : Nat → Int) (pre0 : n ≤ 100000) (pre1 : 1 ≤ c ∧ c ≤ 10) : SoundAt Try.prog 96 [rds n a b u v, .fn (.func 94) [] [.ro [.fn (.func 84) [.agg [i c, i T, i lo, i hi]] []]]] (i (if fstI (notR c a b u v) n < n then (fstI (notR c a b u v) n : Int) else -1)) := by
 refine soundAt_fin (G := [(94, S_allr1)]) (L := [LS_xfr c T lo hi n a b u v]) (SoundG.cons allr1_ok (SoundG.nil _)) mixed Try.func96 (show Try.f96.body = some (bodyOf Try.f96) by kernel_rfl) (one_loop (lpE (b := .loop B_xfr) (by kernel_rfl) <| xfr_ls c T lo hi n a b u v pre0 pre1)) (t := (need [(lst 4 n (rq4 a b u v)) = lst 4 n (rq4 a b u v), Eq1 (AV.fn (Fn.func 94) [] [AV.ro [AV.fn (Fn.func 84) [agg [iI c, iI T, iI lo, iI hi]] []]]), Eq1 (↑n : Int), (0 : Int) = (↑(0 : Nat) : Int)] (branch (decide (fstI (notR c a b u v) n < n)) (leaf (RV.x (Value.int IntKind.i64 (↑(fstI (notR c a b u v) n) : Int)))) (leaf (RV.x (Value.int IntKind.i64 (-1 : Int))))))) (by kernel_rfl) ?_
 simp only [Tree.sat, allP, fitP, valEq, true_and, and_true, decide_eq_true_eq, decide_eq_false_iff_not]
 simp +contextual
theorem isRec4 (n : Nat) (a b u v : Nat → Int) : isRec 4 n (fun k => [i (a k), i (b k), i (u k), i (v k)]) := fun _ _ => rfl
def S_xfr : Sx.Spec := fun l => match l with
 | [.lst 4 n f, .fn (.func 94) [] [.ro [.fn (.func 84) [.agg [.x (.int .i64 c), .x (.int .i64 T), .x (.int .i64 lo), .x (.int .i64 hi)]] []]]] => some ([isRec 4 n f, n ≤ 100000, 1 ≤ c ∧ c ≤ 10], i (if fstI (notR c (col 0 f) (col 1 f) (col 2 f) (col 3 f)) n < n then (fstI (notR c (col 0 f) (col 1 f) (col 2 f) (col 3 f)) n : Int) else -1))
 | _ => none
def S_cfr : Sx.Spec := fun l => match l with
 | [.lst 4 n f, .fn (.func 94) [] [.ro [.fn (.func 84) [.agg [.x (.int .i64 c), .x (.int .i64 T), .x (.int .i64 lo), .x (.int .i64 hi)]] []]]] => some ([isRec 4 n f, n ≤ 100000, 1 ≤ c ∧ c ≤ 10], bl (!allR c n (col 0 f) (col 1 f) (col 2 f) (col 3 f)))
 | _ => none
def S_allr : Sx.Spec := fun l => match l with
 | [.lst 4 n f, .fn (.func 84) [.agg [.x (.int .i64 c), .x (.int .i64 T), .x (.int .i64 lo), .x (.int .i64 hi)]] []] => some ([isRec 4 n f, n ≤ 100000, 1 ≤ c ∧ c ≤ 10], bl (allR c n (col 0 f) (col 1 f) (col 2 f) (col 3 f)))
 | _ => none
def flt (c T lo hi : Int) (n : Nat) (a b u v : Nat → Int) : Int := if tubeB c T lo hi then (if 12 < n then 3 else if allR c n a b u v then 0 else 2) else 1
def S_check : Sx.Spec := fun l => match l with
 | [.agg [.x (.int .i64 c), .x (.int .i64 T), .x (.int .i64 lo), .x (.int .i64 hi)], .lst 4 n f] => some ([isRec 4 n f], i (flt c T lo hi n (col 0 f) (col 1 f) (col 2 f) (col 3 f)))
 | _ => none
theorem xfr_ok : SoundSpec Try.prog 96 S_xfr := by
 refine ⟨⟨_, Try.func96, by kernel_rfl, by kernel_rfl⟩, ?_⟩
 intro avs ns res h hn
 unfold S_xfr at h
 split at h
 ·cases h
  have hr : isRec 4 _ _ := hn _ (List.mem_cons_self)
  exact (xfr_at _ _ _ _ _ (col 0 _) (col 1 _) (col 2 _) (col 3 _) (hn _ (by simp)) (hn _ (by simp))).same (.cons (.lst 4 _ _ _ hr) (.cons (.refl _) .nil))
 ·cases h
theorem cfr_at (c T lo hi : Int) (n : Nat) (a b u v : Nat → Int) (pre0 : n ≤ 100000) (pre1 : 1 ≤ c ∧ c ≤ 10) : SoundAt Try.prog 93 [rds n a b u v, .fn (.func 94) [] [.ro [.fn (.func 84) [.agg [i c, i T, i lo, i hi]] []]]] (bl (!allR c n a b u v)) := by
 refine soundAt_fin (G := [(96, S_xfr)]) (L := []) (SoundG.cons xfr_ok (SoundG.nil _)) mixed Try.func93 (show Try.f93.body = some (bodyOf Try.f93) by kernel_rfl) noLoops (t := (need [isRec 4 n fun k => [i (a k), i (b k), i (u k), i (v k)], n ≤ 100000, (1 : Int) ≤ c ∧ c ≤ (10 : Int)] (leaf (RV.x (Value.bool (decide ((if fstI (notR c a b u v) n < n then (↑(fstI (notR c a b u v) n) : Int) else (-1 : Int)) ≥ (0 : Int)))))))) (by kernel_rfl) ?_
 simp only [Tree.sat, allP, fitP, valEq, true_and, and_true]
 refine ⟨⟨isRec4 n _ _ _ _, pre0, pre1⟩, ?_⟩
 unfold allR
 rw [allI_fst]
 have := fstI_spec (notR c a b u v) n
 have e : (fun k => !(fun k => rdB c (a k) (b k) (u k) (v k)) k) = notR c a b u v := rfl
 rw [e]
 split <;> simp <;> omega
theorem cfr_ok : SoundSpec Try.prog 93 S_cfr := by
 refine ⟨⟨_, Try.func93, by kernel_rfl, by kernel_rfl⟩, ?_⟩
 intro avs ns res h hn
 unfold S_cfr at h
 split at h
 ·cases h
  have hr : isRec 4 _ _ := hn _ (List.mem_cons_self)
  exact (cfr_at _ _ _ _ _ (col 0 _) (col 1 _) (col 2 _) (col 3 _) (hn _ (by simp)) (hn _ (by simp))).same (.cons (.lst 4 _ _ _ hr) (.cons (.refl _) .nil))
 ·cases h
theorem allr_at (c T lo hi : Int) (n : Nat) (a b u v : Nat → Int) (pre0 : n ≤ 100000) (pre1 : 1 ≤ c ∧ c ≤ 10) : SoundAt Try.prog 85 [rds n a b u v, .fn (.func 84) [.agg [i c, i T, i lo, i hi]] []] (bl (allR c n a b u v)) := by
 refine soundAt_fin (G := [(93, S_cfr)]) (L := []) (SoundG.cons cfr_ok (SoundG.nil _)) mixed Try.func85 (show Try.f85.body = some (bodyOf Try.f85) by kernel_rfl) noLoops (t := (need [isRec 4 n fun k => [i (a k), i (b k), i (u k), i (v k)], n ≤ 100000, (1 : Int) ≤ c ∧ c ≤ (10 : Int)] (leaf (RV.x (Value.bool !!allR c n a b u v))))) (by kernel_rfl) ?_
 simp only [Tree.sat, allP, fitP, valEq, true_and, and_true]
 refine ⟨⟨isRec4 n _ _ _ _, pre0, pre1⟩, ?_⟩
 simp
theorem allr_ok : SoundSpec Try.prog 85 S_allr := by
 refine ⟨⟨_, Try.func85, by kernel_rfl, by kernel_rfl⟩, ?_⟩
 intro avs ns res h hn
 unfold S_allr at h
 split at h
 ·cases h
  have hr : isRec 4 _ _ := hn _ (List.mem_cons_self)
  exact (allr_at _ _ _ _ _ (col 0 _) (col 1 _) (col 2 _) (col 3 _) (hn _ (by simp)) (hn _ (by simp))).same (.cons (.lst 4 _ _ _ hr) (.cons (.refl _) .nil))
 ·cases h
theorem tube_bd {c T lo hi : Int} (h : tubeB c T lo hi = true) : (1 ≤ c ∧ c ≤ 10) ∧ (1 ≤ lo ∧ lo ≤ hi ∧ hi ≤ 200 ∧ 1 ≤ T ∧ T ≤ 2000) ∧ c * lo ≤ T ∧ T ≤ c * hi := by
 simp only [tubeB, Bool.and_eq_true, bt_iff, insB_iff] at h
 omega
theorem check_at (c T lo hi : Int) (n : Nat) (a b u v : Nat → Int) : SoundAt Try.prog 71 [.agg [i c, i T, i lo, i hi], rds n a b u v] (i (flt c T lo hi n a b u v)) := by
 refine soundAt_fin (G := [(57, S_CheckTube), (85, S_allr)]) (L := []) (SoundG.cons CheckTube_ok (SoundG.cons allr_ok (SoundG.nil _))) mixed Try.func71 (show Try.f71.body = some (bodyOf Try.f71) by kernel_rfl) noLoops (t := (branch ((if tubeB c T lo hi = true then (0 : Int) else (1 : Int)) != (0 : Int)) (leaf (RV.x (Value.int IntKind.i64 (if tubeB c T lo hi = true then (0 : Int) else (1 : Int))))) (branch (decide ((↑n : Int) > (12 : Int))) (leaf (RV.x (Value.int IntKind.i64 (3 : Int)))) (need [isRec 4 n fun k => [i (a k), i (b k), i (u k), i (v k)], n ≤ 100000, (1 : Int) ≤ c ∧ c ≤ (10 : Int)] (branch (!allR c n a b u v) (leaf (RV.x (Value.int IntKind.i64 (2 : Int)))) (leaf (RV.x (Value.int IntKind.i64 (0 : Int))))))))) (by kernel_rfl) ?_
 simp only [Tree.sat, allP, fitP, valEq, true_and, and_true, flt]
 by_cases ht : tubeB c T lo hi = true
 ·have hb := tube_bd ht
  by_cases hn : 12 < n
  ·simp [ht, hn]; omega
  ·cases ha : allR c n a b u v <;> simp [ht, hn, ha, isRec4 n a b u v] <;> omega
 ·simp [ht]
theorem check_ok : SoundSpec Try.prog 71 S_check := by
 refine ⟨⟨_, Try.func71, by kernel_rfl, by kernel_rfl⟩, ?_⟩
 intro avs ns res h hn
 unfold S_check at h
 split at h
 ·cases h
  have hr : isRec 4 _ _ := hn _ (List.mem_cons_self)
  exact (check_at _ _ _ _ _ (col 0 _) (col 1 _) (col 2 _) (col 3 _)).same (.cons (.refl _) (.cons (.lst 4 _ _ _ hr) .nil))
 ·cases h
end Go.Proofs.Ytlinbkmpkcmniaa.Bo
namespace Go.Proofs.Ytlinbkmpkcmniaa.Bo
open Go Go.Sx Go.RowKit
open Go.Sx.Tree (need branch leaf)
open Go.Sx.AV (lst ptr agg roI tup top)
theorem low_at (f : Nat → Int) (k : Nat) (pre0 : k ≤ 10) (pre1 : -1000000000000 ≤ f (k * 11 + 4) ∧ f (k * 11 + 4) ≤ 1000000000000) : SoundAt Try.prog 87 [.roI [] 125 f 0, i k] (i (-(f (k * 11 + 4)))) := by
 refine soundAt_fin (G := []) (L := []) (SoundG.nil _) mixed Try.func87 (show Try.f87.body = some (bodyOf Try.f87) by kernel_rfl) noLoops (t := (need [(0 : Int) ≤ (↑k : Int) ∧ (↑k : Int) < (↑(11 : Nat) : Int)] (need [(0 : Int) ≤ 0 ∧ (0 : Int) < (↑(11 : Nat) : Int)] (need [0 + (k * 11 + 4) < 125] (need [inI64 (-f (0 + (k * 11 + 4)))] (leaf (RV.x (Value.int IntKind.i64 (-f (0 + (k * 11 + 4))))))))))) (by kernel_rfl) ?_
 simp only [Tree.sat, allP, fitP, fitL, valEq, true_and, and_true, Int.toNat_natCast]
 rw [show 0 + (k * 11 + 4) = k * 11 + 4 by omega]
 simp only [inI64]
 simp
 omega
def S_low : Sx.Spec := fun l => match l with
 | [.roI [] 125 f 0, .x (.int .i64 k)] => some ([0 ≤ k ∧ k ≤ 10, -1000000000000 ≤ f (k.toNat * 11 + 4) ∧ f (k.toNat * 11 + 4) ≤ 1000000000000], i (-(f (k.toNat * 11 + 4))))
 | _ => none
theorem low_ok : SoundSpec Try.prog 87 S_low := by
 refine ⟨⟨_, Try.func87, by kernel_rfl, by kernel_rfl⟩, ?_⟩
 intro avs ns res h hn
 unfold S_low at h
 split at h
 ·rename_i f k
  cases h
  have hk : 0 ≤ k ∧ k ≤ 10 := hn _ (by simp)
  have e : ((k.toNat : Nat) : Int) = k := by omega
  have h0 := low_at f k.toNat (by omega) (hn _ (by simp))
  rw [e] at h0
  exact h0
 ·cases h
theorem high_at (f : Nat → Int) (k : Nat) (pre0 : k ≤ 10) (pre1 : -1000000000000 ≤ f (k * 11 + 4) ∧ f (k * 11 + 4) ≤ 1000000000000) : SoundAt Try.prog 88 [.roI [] 125 f 0, i k] (i (f (k + 4))) := by
 refine soundAt_fin (G := []) (L := []) (SoundG.nil _) mixed Try.func88 (show Try.f88.body = some (bodyOf Try.f88) by kernel_rfl) noLoops (t := (need [(0 : Int) ≤ 0 ∧ (0 : Int) < (↑(11 : Nat) : Int)] (need [(0 : Int) ≤ (↑k : Int) ∧ (↑k : Int) < (↑(11 : Nat) : Int)] (need [k * 1 + 4 < 125] (leaf (RV.x (Value.int IntKind.i64 (f (k * 1 + 4))))))))) (by kernel_rfl) ?_
 simp only [Tree.sat, allP, fitP, fitL, valEq, true_and, and_true, Int.toNat_natCast]
 rw [show k * 1 + 4 = k + 4 by omega]
 simp only [inI64]
 simp
 omega
def S_high : Sx.Spec := fun l => match l with
 | [.roI [] 125 f 0, .x (.int .i64 k)] => some ([0 ≤ k ∧ k ≤ 10, -1000000000000 ≤ f (k.toNat * 11 + 4) ∧ f (k.toNat * 11 + 4) ≤ 1000000000000], i (f (k.toNat + 4)))
 | _ => none
theorem high_ok : SoundSpec Try.prog 88 S_high := by
 refine ⟨⟨_, Try.func88, by kernel_rfl, by kernel_rfl⟩, ?_⟩
 intro avs ns res h hn
 unfold S_high at h
 split at h
 ·rename_i f k
  cases h
  have hk : 0 ≤ k ∧ k ≤ 10 := hn _ (by simp)
  have e : ((k.toNat : Nat) : Int) = k := by omega
  have h0 := high_at f k.toNat (by omega) (hn _ (by simp))
  rw [e] at h0
  exact h0
 ·cases h
def S_lowest : Sx.Spec := fun l => match l with
 | [] => some ([], .agg [.fn (.func 87) [] []])
 | _ => none
theorem lowest_at  : SoundAt Try.prog 73 [] (.agg [.fn (.func 87) [] []]) := by
 refine soundAt_fin (G := []) (L := []) (SoundG.nil _) mixed Try.func73 (show Try.f73.body = some (bodyOf Try.f73) by kernel_rfl) noLoops (t := (leaf (RV.agg [RV.fn (Fn.func 87)]))) (by kernel_rfl) ?_
 simp only [Tree.sat, allP, fitP, fitL, valEq, true_and, and_true, Int.toNat_natCast]
 repeat' first | with_reducible apply And.intro | with_reducible intro _
 all_goals first | exact True.intro | omega | with_reducible rfl | assumption
theorem lowest_ok : SoundSpec Try.prog 73 S_lowest := by
 refine ⟨⟨_, Try.func73, by kernel_rfl, by kernel_rfl⟩, ?_⟩
 intro avs ns res h hn
 unfold S_lowest at h
 split at h
 ·cases h
  exact lowest_at 
 ·cases h
def S_highest : Sx.Spec := fun l => match l with
 | [] => some ([], .agg [.fn (.func 88) [] []])
 | _ => none
theorem highest_at  : SoundAt Try.prog 74 [] (.agg [.fn (.func 88) [] []]) := by
 refine soundAt_fin (G := []) (L := []) (SoundG.nil _) mixed Try.func74 (show Try.f74.body = some (bodyOf Try.f74) by kernel_rfl) noLoops (t := (leaf (RV.agg [RV.fn (Fn.func 88)]))) (by kernel_rfl) ?_
 simp only [Tree.sat, allP, fitP, fitL, valEq, true_and, and_true, Int.toNat_natCast]
 repeat' first | with_reducible apply And.intro | with_reducible intro _
 all_goals first | exact True.intro | omega | with_reducible rfl | assumption
theorem highest_ok : SoundSpec Try.prog 74 S_highest := by
 refine ⟨⟨_, Try.func74, by kernel_rfl, by kernel_rfl⟩, ?_⟩
 intro avs ns res h hn
 unfold S_highest at h
 split at h
 ·cases h
  exact highest_at 
 ·cases h
theorem bounds_at (f : Nat → Int) (k : Nat) (pre0 : k ≤ 10) (pre1 : -1000000000000 ≤ f (k * 11 + 4) ∧ f (k * 11 + 4) ≤ 1000000000000) : SoundAt Try.prog 59 [.roI [] 125 f 0, i k] (.agg [i (-(f (k * 11 + 4))), i (f (k + 4))]) := by
 refine soundAt_fin (G := [(87, S_low), (88, S_high), (73, S_lowest), (74, S_highest)]) (L := []) (SoundG.cons low_ok (SoundG.cons high_ok (SoundG.cons lowest_ok (SoundG.cons highest_ok (SoundG.nil _))))) mixed Try.func59 (show Try.f59.body = some (bodyOf Try.f59) by kernel_rfl) noLoops (t := (need [(0 : Int) ≤ (↑k : Int) ∧ (↑k : Int) ≤ 10, (-1000000000000 : Int) ≤ f (k * 11 + 4) ∧ f (k * 11 + 4) ≤ (1000000000000 : Int)] (need [(0 : Int) ≤ (↑k : Int) ∧ (↑k : Int) ≤ 10, (-1000000000000 : Int) ≤ f (k * 11 + 4) ∧ f (k * 11 + 4) ≤ (1000000000000 : Int)] (leaf (RV.agg [RV.x (Value.int IntKind.i64 (-f (k * 11 + 4))), RV.x (Value.int IntKind.i64 (f (k + 4)))]))))) (by kernel_rfl) ?_
 simp only [Tree.sat, allP, fitP, fitL, valEq, true_and, and_true, Int.toNat_natCast]
 repeat' first | with_reducible apply And.intro | with_reducible intro _
 all_goals first | exact True.intro | omega | with_reducible rfl | assumption
end Go.Proofs.Ytlinbkmpkcmniaa.Bo
namespace Go.Proofs.Ytlinbkmpkcmniaa.Bo
open Go Go.Sx Go.RowKit
open Go.Sx.Tree (need branch leaf)
open Go.Sx.AV (lst ptr agg roI tup top)
def S_bounds : Sx.Spec := fun l => match l with
 | [.roI [] 125 f 0, .x (.int .i64 k)] => some ([0 ≤ k ∧ k ≤ 10, -1000000000000 ≤ f (k.toNat * 11 + 4) ∧ f (k.toNat * 11 + 4) ≤ 1000000000000], .agg [i (-(f (k.toNat * 11 + 4))), i (f (k.toNat + 4))])
 | _ => none
theorem bounds_ok : SoundSpec Try.prog 59 S_bounds := by
 refine ⟨⟨_, Try.func59, by kernel_rfl, by kernel_rfl⟩, ?_⟩
 intro avs ns res h hn
 unfold S_bounds at h
 split at h
 ·rename_i f k
  cases h
  have hk : 0 ≤ k ∧ k ≤ 10 := hn _ (by simp)
  have e : ((k.toNat : Nat) : Int) = k := by omega
  have h0 := bounds_at f k.toNat (by omega) (hn _ (by simp))
  rw [e] at h0
  exact h0
 ·cases h
end Go.Proofs.Ytlinbkmpkcmniaa.Bo
namespace Go.Proofs.Ytlinbkmpkcmniaa.Bo
open Go Go.Sx Go.RowKit
open Go.Sx.Tree (need branch leaf)
open Go.Sx.AV (lst ptr agg roI tup top)
abbrev siteB (c T lo hi : Int) (n : Nat) (a b u v : Nat → Int) : AV := siteA c.toNat T lo hi n a b u v
def okB (c T lo hi : Int) (n : Nat) (a b u v : Nat → Int) : Bool := okR c.toNat T lo hi n a b u v
def fltB (c T lo hi : Int) (n : Nat) (a b u v : Nat → Int) (r : Bool) : Int := if flt c T lo hi n a b u v = 0 then (if r then (if okB c T lo hi n a b u v then 0 else 9) else 2) else flt c T lo hi n a b u v
theorem flt_iff {c T lo hi : Int} {n : Nat} {a b u v : Nat → Int} : flt c T lo hi n a b u v = 0 ↔ tubeB c T lo hi = true ∧ n ≤ 12 ∧ allI (fun k => rdB c (a k) (b k) (u k) (v k)) n = true := by
 unfold flt allR
 split
 ·rename_i h1
  split
  ·rename_i h2
   constructor
   ·intro h; cases h
   ·intro h; omega
  ·rename_i h2
   split
   ·rename_i h3
    exact ⟨fun _ => ⟨h1, by omega, h3⟩, fun _ => rfl⟩
   ·rename_i h3
    constructor
    ·intro h; cases h
    ·intro h; exact absurd h.2.2 h3
 ·rename_i h1
  constructor
  ·intro h; cases h
  ·intro h; exact absurd h.1 h1
theorem fltB_iff {c T lo hi : Int} {n : Nat} {a b u v : Nat → Int} {r : Bool} : fltB c T lo hi n a b u v r = 0 ↔ flt c T lo hi n a b u v = 0 ∧ r = true ∧ okB c T lo hi n a b u v = true := by
 unfold fltB
 split
 ·rename_i h1
  split
  ·rename_i h2
   split
   ·rename_i h3
    simp [h1, h2, h3]
   ·rename_i h3
    simp [h1, h2, h3]
  ·rename_i h2
   simp [h1, h2]
 ·rename_i h1
  simp [h1]
theorem tried_at (c T lo hi : Int) (n : Nat) (a b u v : Nat → Int) (r : Bool) : SoundCAt Try.prog 58 [.agg [i c, i T, i lo, i hi], rds n a b u v, bl r] (.branch (decide (fltB c T lo hi n a b u v r = 0)) (.leaf (.tup [siteB c T lo hi n a b u v, i 0])) (.leaf (.tup [nilP, i (fltB c T lo hi n a b u v r)]))) := by
 refine soundCAt_fin (G := [(71, S_check)]) (X := { R := [], H := [], C := [(72, C_read)] }) (L := []) (SoundG.cons check_ok (SoundG.nil _)) (SoundX.ofC (SoundRL.nil _) (SoundHL.nil _) (SoundCL.cons read_okC (SoundCL.nil _))) mixed Try.func58 (show Try.f58.body = some (bodyOf Try.f58) by kernel_rfl) noLoopsS (t := (need [isRec 4 n fun k => [i (a k), i (b k), i (u k), i (v k)]] (branch (flt c T lo hi n a b u v != (0 : Int)) (leaf (tup [AV.x (Value.pointer none), iI (flt c T lo hi n a b u v)])) (branch (!r) (leaf (tup [AV.x (Value.pointer none), iI (2 : Int)])) (need [isRec 4 n fun k => [i (a k), i (b k), i (u k), i (v k)], (1 : Int) ≤ c ∧ c ≤ (10 : Int), (1 : Int) ≤ lo ∧ lo ≤ hi ∧ hi ≤ (200 : Int) ∧ (1 : Int) ≤ T ∧ T ≤ (2000 : Int), n ≤ 1000, allI (fun k => rdB c (a k) (b k) (u k) (v k)) n = true] (branch (okR (Int.toNat c) T lo hi n a b u v) (leaf (tup [roI [] 125 (fun k => siteF (↑(Int.toNat c) : Int) T lo hi (fwM (Int.toNat c) T lo hi n a b u v) k) 0, iI (0 : Int)])) (leaf (tup [AV.x (Value.pointer none), iI (9 : Int)])))))))) (by kernel_rfl) ?_
 intro Q hQ
 have e : c.toNat = c ∨ c < 0 := by omega
 simp only [Tree.sat, allP, true_and, and_true, bne_iff_ne, ne_eq, decide_eq_true_eq, decide_eq_false_iff_not, Bool.not_eq_true', bne_eq_false_iff_eq] at hQ ⊢
 refine ⟨isRec4 n a b u v, fun h1 => ?_, fun h1 => ?_⟩
 ·refine ⟨.tup [nilP, i (flt c T lo hi n a b u v)], ⟨rfl, ⟨rfl, rfl⟩, True.intro⟩, ?_⟩
  have h2 : fltB c T lo hi n a b u v r = flt c T lo hi n a b u v := by unfold fltB; rw [if_neg h1]
  rw [h2] at hQ
  exact hQ.2 h1
 ·have hf := flt_iff.1 h1
  have hb := tube_bd hf.1
  refine ⟨fun h2 => ?_, fun h2 => ⟨⟨isRec4 n a b u v, hb.1, hb.2.1, by have := hf.2.1; omega, hf.2.2⟩, fun h3 => ?_, fun h3 => ?_⟩⟩
  ·subst h2
   have h4 : fltB c T lo hi n a b u v false = 2 := by unfold fltB; rw [if_pos h1]; rfl
   rw [h4] at hQ
   exact ⟨.tup [nilP, i 2], ⟨rfl, ⟨rfl, rfl⟩, True.intro⟩, hQ.2 (by omega)⟩
  ·have h2 : r = true := by simpa using h2
   subst h2
   have h4 : fltB c T lo hi n a b u v true = 0 := fltB_iff.2 ⟨h1, rfl, h3⟩
   exact ⟨.tup [siteB c T lo hi n a b u v, i 0], ⟨⟨rfl, rfl, fun _ _ => rfl, rfl⟩, ⟨rfl, rfl⟩, True.intro⟩, hQ.1 h4⟩
  ·have h2 : r = true := by simpa using h2
   subst h2
   have h4 : fltB c T lo hi n a b u v true = 9 := by unfold fltB okB; rw [if_pos h1, h3]; rfl
   rw [h4] at hQ
   exact ⟨.tup [nilP, i 9], ⟨rfl, ⟨rfl, rfl⟩, True.intro⟩, hQ.2 (by omega)⟩
noncomputable def C_tried : CSpec := fun l => match l with
 | [.agg [.x (.int .i64 c), .x (.int .i64 T), .x (.int .i64 lo), .x (.int .i64 hi)], .lst 4 n f, .x (.bool r)] => some (.need [isRec 4 n f] (.branch (decide (fltB c T lo hi n (col 0 f) (col 1 f) (col 2 f) (col 3 f) r = 0)) (.leaf (.tup [siteB c T lo hi n (col 0 f) (col 1 f) (col 2 f) (col 3 f), i 0])) (.leaf (.tup [nilP, i (fltB c T lo hi n (col 0 f) (col 1 f) (col 2 f) (col 3 f) r)]))))
 | [.agg [.x (.int .i64 c), .x (.int .i64 T), .x (.int .i64 lo), .x (.int .i64 hi)], .lst 4 n f, .lit r] => some (.need [isRec 4 n f] (.branch (decide (fltB c T lo hi n (col 0 f) (col 1 f) (col 2 f) (col 3 f) r = 0)) (.leaf (.tup [siteB c T lo hi n (col 0 f) (col 1 f) (col 2 f) (col 3 f), i 0])) (.leaf (.tup [nilP, i (fltB c T lo hi n (col 0 f) (col 1 f) (col 2 f) (col 3 f) r)]))))
 | _ => none
theorem RepL.lits {e : Env} {w : World} {r : Bool} : ∀ {l : List AV} {vs : List Value}, RepL e w (l ++ [.lit r]) vs → RepL e w (l ++ [.x (.bool r)]) vs
 | [], vs, h => by
  obtain ⟨v, vs', rfl, hv, hvs⟩ := h.cons_inv
  cases hv
  exact RepL.cons (.x _) hvs
 | a :: l, vs, h => by
  obtain ⟨v, vs', rfl, hv, hvs⟩ := h.cons_inv
  exact RepL.cons hv (RepL.lits hvs)
theorem SoundCAt.lits {P : Program} {f : FuncId} {l : List AV} {r : Bool} {t : Tree AV} (h : SoundCAt P f (l ++ [.x (.bool r)]) t) : SoundCAt P f (l ++ [.lit r]) t := fun Q hQ e w args hro hidf hr => h Q hQ e w args hro (fun a ha => by
 rcases List.mem_append.1 ha with h1 | h1
 ·exact hidf a (List.mem_append_left _ h1)
 ·cases List.mem_singleton.1 h1
  exact .x _) (RepL.lits hr)
theorem tried_okC : Enters Try.prog 58 ∧ ∀ avs t, C_tried avs = some t → SoundCAt Try.prog 58 avs t := by
 refine ⟨⟨_, Try.func58, by kernel_rfl, by kernel_rfl⟩, ?_⟩
 intro avs t h
 unfold C_tried at h
 split at h
 ·rename_i c T lo hi n f r
  cases h
  intro Q hQ
  have hr : isRec 4 n f := allP_mem hQ.1 _ (by simp)
  exact SoundCAt.same (tried_at c T lo hi n (col 0 f) (col 1 f) (col 2 f) (col 3 f) r) (.cons (.refl _) (.cons (.lst 4 n _ _ hr) (.cons (.refl _) .nil))) Q hQ.2
 ·rename_i c T lo hi n f r
  cases h
  intro Q hQ
  have hr : isRec 4 n f := allP_mem hQ.1 _ (by simp)
  exact SoundCAt.lits (l := [.agg [.x (.int .i64 c), .x (.int .i64 T), .x (.int .i64 lo), .x (.int .i64 hi)], .lst 4 n f]) (SoundCAt.same (tried_at c T lo hi n (col 0 f) (col 1 f) (col 2 f) (col 3 f) r) (.cons (.refl _) (.cons (.lst 4 n _ _ hr) (.cons (.refl _) .nil)))) Q hQ.2
 ·cases h
end Go.Proofs.Ytlinbkmpkcmniaa.Bo
namespace Go.Proofs.Ytlinbkmpkcmniaa.Bo
open Go Go.Sx Go.RowKit
open Go.Sx.Tree (need branch leaf)
open Go.Sx.AV (lst ptr agg roI tup top)
def eB (c T lo hi : Int) (n : Nat) (a b u v : Nat → Int) : Int := fltB c T lo hi n a b u v true
def fwB (c T lo hi : Int) (n : Nat) (a b u v : Nat → Int) : Nat → Nat → Int := fwM c.toNat T lo hi n a b u v
def sfB (c T lo hi : Int) (n : Nat) (a b u v : Nat → Int) : Nat → Int := siteF (c.toNat : Nat) T lo hi (fwB c T lo hi n a b u v)
def lenB (c T lo hi : Int) (n : Nat) (a b u v : Nat → Int) : Nat := if eB c T lo hi n a b u v = 0 then c.toNat + 1 else 0
theorem rdB_v {c a b u v : Int} (h : rdB c a b u v = true) : (0 ≤ a ∧ a ≤ c - 1) ∧ (a ≤ b ∧ b ≤ c) ∧ 0 ≤ u ∧ u ≤ v ∧ v ≤ 2000 := by
 simp only [rdB, Bool.and_eq_true, bt_iff, insB_iff] at h
 omega
theorem fwM_bd {c T lo hi : Int} {n : Nat} {a b u v : Nat → Int} (h : flt c T lo hi n a b u v = 0) (x y : Nat) : -1000000000000 ≤ fwB c T lo hi n a b u v x y ∧ fwB c T lo hi n a b u v x y ≤ 2000 := by
 have hf := flt_iff.1 h
 have hb := tube_bd hf.1
 have hl := rdM_lb (c := c.toNat) (a := a) (b := b) hb.2.1 (fun j hj => (rdB_v (allI_iff.1 hf.2.2 j hj)).2.2) n (Nat.le_refl n)
 have h1 := LB_O (c := c.toNat) hl (c.toNat + 1) x y
 have h2 := pow6 c.toNat (by omega)
 rw [Int.pow_succ] at h1
 unfold fwB fwM
 omega
theorem sfB_low (c T lo hi : Int) (n : Nat) (a b u v : Nat → Int) (k : Nat) : sfB c T lo hi n a b u v (k * 11 + 4) = fwB c T lo hi n a b u v k 0 := site_get _ _ _ _ _ (by omega) (by omega)
theorem sfB_high (c T lo hi : Int) (n : Nat) (a b u v : Nat → Int) {k : Nat} (hk : k ≤ 10) : sfB c T lo hi n a b u v (k + 4) = fwB c T lo hi n a b u v 0 k := site_get _ _ _ _ _ (by omega) (by omega)
theorem chunk_mem {sz k : Nat} {l : List AV} {x : AV} (h : x ∈ chunk sz l k) : x ∈ l := List.mem_of_mem_drop (List.mem_of_mem_take h)
theorem one_of {sz k : Nat} {l : List AV} {x : AV} (hm : x ∈ chunk sz l k) (h : ∀ y ∈ l, AV.one y = true) : AV.one x = true := h x (chunk_mem hm)
theorem catF2 {k j : Nat} {a b : Nat → Int} {x y : Int} (h : j < k + 1) (hx : x = a k) (hy : y = b k) : catF k (fun k => [i (a k), i (b k)]) (chunk 2 [i x, i y]) j = [i (a j), i (b j)] := by
 have e : j - k = 0 := by omega
 show mergeL (decide (j < k)) [i (a j), i (b j)] (chunk 2 [i x, i y] (j - k)) = _
 rw [e]
 by_cases hj : j < k
 ·rw [show decide (j < k) = true by simp [hj]]
  rfl
 ·have hk : j = k := by omega
  rw [show decide (j < k) = false by simp [hj], hk, hx, hy]
  rfl
noncomputable def E_hs (c T lo hi : Int) (n : Nat) (a b u v : Nat → Int) : St := (some { σ := [.agg [i c, i T, i lo, i hi], rds n a b u v, .ptr 0 0, .top, .x (.slice none 0 0), i 0, siteB c T lo hi n a b u v, i 0, .top, .top, .top, .top, .top, .top, .top, .top, .top, .top, .top, .top, .top, i (c + 1), .top, .top, .top, .top, .top, .top, .top, .top, .top, .top, .top], m := [(900, .row 23 2 0 (fun _ => [])), (0, .cells 25 [i c, i T, i lo, i hi])], nx := 901 } : Option St).getD { σ := [], m := [], nx := 0 }
noncomputable def B_hs : Code := loopBody (loopAt (bodyOf Try.f43) 0)
noncomputable def inv_hs (c T lo hi : Int) (n : Nat) (a b u v : Nat → Int) (k : Nat) : St := { σ := ovrS [(8, .row 900), (22, i k)] (E_hs c T lo hi n a b u v).σ, m := [(900, .row 23 2 (k) (fun k => [i (-(fwB c T lo hi n a b u v k 0)), i (fwB c T lo hi n a b u v 0 k)])), (0, .cells 25 [i c, i T, i lo, i hi])], nx := (E_hs c T lo hi n a b u v).nx }
noncomputable def out_hs (c T lo hi : Int) (n : Nat) (a b u v : Nat → Int) (k : Nat) : AEx → Option St := fun ex => match ex with
 | .exit 0 => some { σ := ovrS [(8, .row 900)] (E_hs c T lo hi n a b u v).σ, m := [(900, .row 23 2 (c.toNat + 1) (fun k => [i (-(fwB c T lo hi n a b u v k 0)), i (fwB c T lo hi n a b u v 0 k)])), (0, .cells 25 [i c, i T, i lo, i hi])], nx := (E_hs c T lo hi n a b u v).nx }
 | _ => none
noncomputable def T_hs (c T lo hi : Int) (n : Nat) (a b u v : Nat → Int) : CT := .leaf (.exit 0, ( out_hs c T lo hi n a b u v 0 (.exit 0)).getD (E_hs c T lo hi n a b u v))
noncomputable def LS_hs (c T lo hi : Int) (n : Nat) (a b u v : Nat → Int) : LSpec := normSp [(.slot 8, 900, 23, 2)] (sumL (inv_hs c T lo hi n a b u v (0)) (T_hs c T lo hi n a b u v))
theorem hs_ls (c T lo hi : Int) (n : Nat) (a b u v : Nat → Int) (pre0 : flt c T lo hi n a b u v = 0) : LSound Try.prog (.loop B_hs) (LS_hs c T lo hi n a b u v) := by
 refine loop_roundsN [(.slot 8, 900, 23, 2)] (G := [(59, S_bounds)]) (L := []) (SoundG.cons bounds_ok (SoundG.nil _)) mixed noLoops (X := Nat) (inv_hs c T lo hi n a b u v) (fun k => k ≤ c.toNat + 1) (fun k => c.toNat + 1 - k) (out_hs c T lo hi n a b u v) (x0 := 0) (by simp) ?_ ?_ ?_
 ·rintro k
  kernel_rfl
 ·rintro k y E h
  unfold out_hs at h
  split at h
  ·cases h; kernel_rfl
  ·cases h
 ·rintro Q hQ k hx
  refine ⟨(k + 1), ?_⟩
  have e : roundN Try.prog [(59, S_bounds)] [] [(.slot 8, 900, 23, 2)] B_hs (inv_hs c T lo hi n a b u v k) (inv_hs c T lo hi n a b u v ((k + 1))) (out_hs c T lo hi n a b u v k) = (let z0 := (fwM (Int.toNat c) T lo hi n a b u v); let z1 := fwB c T lo hi n a b u v; let z2 := (lst 4 n (rq4 a b u v)); (branch (decide ((↑k : Int) < c + (1 : Int))) (need [(0 : Int) ≤ (↑k : Int) ∧ (↑k : Int) ≤ 10, (-1000000000000 : Int) ≤ siteF (↑(Int.toNat c) : Int) T lo hi z0 (k * 11 + 4) ∧ siteF (↑(Int.toNat c) : Int) T lo hi z0 (k * 11 + 4) ≤ (1000000000000 : Int)] (need [(k + 1) * 16 ≤ 140737488355328, ∀ (i : Nat), i < 1 → ∀ (a_2 : AV), a_2 ∈ chunk 2 [iI (-siteF (↑(Int.toNat c) : Int) T lo hi z0 (k * 11 + 4)), iI (siteF (↑(Int.toNat c) : Int) T lo hi z0 (k + 4))] i → AV.one a_2 = true] (need [inI64 ((↑k : Int) + 1)] (need [Eq1 (agg [iI c, iI T, iI lo, iI hi]), z2 = lst 4 n (rq4 a b u v), Eq1 (ptr 0 0), Eq1 (AV.x (Value.slice none 0 0)), Eq1 (0 : Int), Eq1 (roI [] 125 (fun k => siteF (↑(Int.toNat c) : Int) T lo hi z0 k) 0), Eq1 (0 : Int), Eq1 (AV.row 900), Eq1 (c + (1 : Int)), (↑k : Int) + 1 = (↑(k + 1) : Int), k + 1 = k + 1, ∀ (i : Nat), i < k + 1 → catF k (fun k => [Bo.i (-z1 k 0), Bo.i (z1 0 k)]) (chunk 2 [iI (-siteF (↑(Int.toNat c) : Int) T lo hi z0 (k * 11 + 4)), iI (siteF (↑(Int.toNat c) : Int) T lo hi z0 (k + 4))]) i = [Bo.i (-z1 i 0), Bo.i (z1 0 i)], c = c, T = T, lo = lo, hi = hi] (leaf AEx.normal))))) (need [Eq1 (agg [iI c, iI T, iI lo, iI hi]), z2 = lst 4 n (rq4 a b u v), Eq1 (ptr 0 0), Eq1 (AV.x (Value.slice none 0 0)), Eq1 (0 : Int), Eq1 (roI [] 125 (fun k => siteF (↑(Int.toNat c) : Int) T lo hi z0 k) 0), Eq1 (0 : Int), Eq1 (AV.row 900), Eq1 (c + (1 : Int)), k = Int.toNat c + 1, ∀ (i : Nat), i < Int.toNat c + 1 → [Bo.i (-z1 i 0), Bo.i (z1 0 i)] = [Bo.i (-z1 i 0), Bo.i (z1 0 i)], c = c, T = T, lo = lo, hi = hi] (leaf (AEx.exit 0))))) := by kernel_rfl
  rw [e]
  simp only [T_hs, out_hs, Tree.sat, Option.getD_some] at hQ
  have hc := (tube_bd (flt_iff.1 pre0).1).1
  have e0 : ((c.toNat : Nat) : Int) = c := by omega
  have eq : ∀ k, siteF c.toNat T lo hi (fwM c.toNat T lo hi n a b u v) k = sfB c T lo hi n a b u v k := fun _ => rfl
  simp only [Tree.sat, allP, fitP, fitL, valEq, inI64, true_and, and_true, decide_eq_true_eq, decide_eq_false_iff_not, Int.natCast_zero, Int.toNat_natCast, out_hs, eq]
  clear e
  refine ⟨fun h => ?_, fun h => ?_⟩
  ·have h2 := fwM_bd pre0 k 0
   have h3 := fwM_bd pre0 0 k
   refine ⟨⟨by omega, by rw [sfB_low]; omega⟩, ⟨by omega, fun i hi a ha => one_of ha (by simp [AV.one, Value.oneCell'])⟩, by omega, ⟨by omega, fun i hi => catF2 hi (by rw [sfB_low]) (by rw [sfB_high _ _ _ _ _ _ _ _ _ (by omega)])⟩, by omega, by omega⟩
  ·obtain rfl : k = c.toNat + 1 := by omega
   exact ⟨⟨rfl, fun _ _ => True.intro⟩, fun E hE => by cases hE; exact hQ⟩
theorem Heights_at1 (c T lo hi : Int) (n : Nat) (a b u v : Nat → Int) (pre0 : fltB c T lo hi n a b u v true = 0) (pre1 : flt c T lo hi n a b u v = 0) : SoundAt Try.prog 43 [.agg [i c, i T, i lo, i hi], rds n a b u v] (.tup [.lst 2 (lenB c T lo hi n a b u v) (fun k => [i (-(fwB c T lo hi n a b u v k 0)), i (fwB c T lo hi n a b u v 0 k)]), i (eB c T lo hi n a b u v)]) := by
 refine soundAt_finG (G := [(59, S_bounds)]) (X := { R := [], H := [], C := [(58, C_tried)] }) (L := [LS_hs c T lo hi n a b u v]) (Gd.go true (Gd.go false Gd.rest)) (SoundG.cons bounds_ok (SoundG.nil _)) (SoundX.ofC (SoundRL.nil _) (SoundHL.nil _) (SoundCL.cons tried_okC (SoundCL.nil _))) mixed Try.func43 (show Try.f43.body = some (bodyOf Try.f43) by kernel_rfl) (one_loop (lpE (b := .loop B_hs) (by kernel_rfl) <| (hs_ls c T lo hi n a b u v pre1).N)) (t := (let z0 := fwB c T lo hi n a b u v; (need [isRec 4 n fun k => [i (a k), i (b k), i (u k), i (v k)]] (need [decide (fltB c T lo hi n a b u v true = (0 : Int)) = true] (need [((0 : Int) != (0 : Int)) = false] (need [inI64 (c + (1 : Int))] (need [Eq1 (agg [iI c, iI T, iI lo, iI hi]), (lst 4 n (rq4 a b u v)) = lst 4 n (rq4 a b u v), Eq1 (ptr 0 0), Eq1 (AV.x (Value.slice none 0 0)), Eq1 (0 : Int), Eq1 (roI [] 125 (fun k => siteF (↑(Int.toNat c) : Int) T lo hi (fwM (Int.toNat c) T lo hi n a b u v) k) 0), Eq1 (0 : Int), Eq1 (AV.row 900), Eq1 (c + (1 : Int)), (0 : Int) = (↑(0 : Nat) : Int), 0 = 0, ∀ (i : Nat), i < 0 → [] = [Bo.i (-z0 i 0), Bo.i (z0 0 i)], c = c, T = T, lo = lo, hi = hi] (leaf (RV.tup [RV.lst 2 (Int.toNat c + 1) fun k => [iI (-z0 k 0), iI (z0 0 k)], RV.x (Value.int IntKind.i64 (0 : Int))]))))))))) (by kernel_rfl) ?_
 have hc := (tube_bd (flt_iff.1 pre1).1).1
 have hl : lenB c T lo hi n a b u v = c.toNat + 1 := if_pos pre0
 have he : eB c T lo hi n a b u v = 0 := pre0
 rw [hl, he]
 simp only [Tree.sat, allP, fitP, fitL, valEq, inI64, true_and, and_true]
 (repeat' first | with_reducible apply And.intro | with_reducible intro _)
 all_goals first | exact True.intro | with_reducible rfl | omega | exact isRec4 _ _ _ _ _ | (simp [*]; done) | (rename_i hm; simp only [List.mem_cons, List.not_mem_nil, or_false] at hm; rcases hm with rfl | rfl <;> exact True.intro)
theorem Heights_at0 (c T lo hi : Int) (n : Nat) (a b u v : Nat → Int) (pre0 : fltB c T lo hi n a b u v true ≠ 0) : SoundAt Try.prog 43 [.agg [i c, i T, i lo, i hi], rds n a b u v] (.tup [.lst 2 (lenB c T lo hi n a b u v) (fun k => [i (-(fwB c T lo hi n a b u v k 0)), i (fwB c T lo hi n a b u v 0 k)]), i (eB c T lo hi n a b u v)]) := by
 refine soundAt_finG (G := [(59, S_bounds)]) (X := { R := [], H := [], C := [(58, C_tried)] }) (L := []) (Gd.go false (Gd.go true Gd.rest)) (SoundG.cons bounds_ok (SoundG.nil _)) (SoundX.ofC (SoundRL.nil _) (SoundHL.nil _) (SoundCL.cons tried_okC (SoundCL.nil _))) mixed Try.func43 (show Try.f43.body = some (bodyOf Try.f43) by kernel_rfl) noLoopsS (t := (need [isRec 4 n fun k => [i (a k), i (b k), i (u k), i (v k)]] (need [decide (fltB c T lo hi n a b u v true = (0 : Int)) = false] (need [(fltB c T lo hi n a b u v true != (0 : Int)) = true] (leaf (RV.tup [RV.x (Value.slice none 0 0), RV.x (Value.int IntKind.i64 (fltB c T lo hi n a b u v true))])))))) (by kernel_rfl) ?_
 have hl : lenB c T lo hi n a b u v = 0 := if_neg pre0
 have he : eB c T lo hi n a b u v = fltB c T lo hi n a b u v true := rfl
 rw [hl, he]
 simp only [Tree.sat, allP, fitP, fitL, valEq, inI64, true_and, and_true]
 (repeat' first | with_reducible apply And.intro | with_reducible intro _)
 all_goals first | exact True.intro | with_reducible rfl | omega | exact isRec4 _ _ _ _ _ | (simp [*]; done)
def S_Heights : Sx.Spec := fun l => match l with
 | [.agg [.x (.int .i64 c), .x (.int .i64 T), .x (.int .i64 lo), .x (.int .i64 hi)], .lst 4 n f] => some ([isRec 4 n f], .tup [.lst 2 (lenB c T lo hi n (col 0 f) (col 1 f) (col 2 f) (col 3 f)) (fun k => [i (-(fwB c T lo hi n (col 0 f) (col 1 f) (col 2 f) (col 3 f) k 0)), i (fwB c T lo hi n (col 0 f) (col 1 f) (col 2 f) (col 3 f) 0 k)]), i (eB c T lo hi n (col 0 f) (col 1 f) (col 2 f) (col 3 f))])
 | _ => none
theorem Heights_at (c T lo hi : Int) (n : Nat) (a b u v : Nat → Int) : SoundAt Try.prog 43 [.agg [i c, i T, i lo, i hi], rds n a b u v] (.tup [.lst 2 (lenB c T lo hi n a b u v) (fun k => [i (-(fwB c T lo hi n a b u v k 0)), i (fwB c T lo hi n a b u v 0 k)]), i (eB c T lo hi n a b u v)]) := by
 by_cases h : fltB c T lo hi n a b u v true = 0
 ·exact Heights_at1 c T lo hi n a b u v h (fltB_iff.1 h).1
 ·exact Heights_at0 c T lo hi n a b u v h
theorem Heights_ok : SoundSpec Try.prog 43 S_Heights := by
 refine ⟨⟨_, Try.func43, by kernel_rfl, by kernel_rfl⟩, ?_⟩
 intro avs ns res h hn
 unfold S_Heights at h
 split at h
 ·rename_i c T lo hi n f
  cases h
  have hr : isRec 4 n f := hn _ (List.mem_cons_self)
  exact (Heights_at c T lo hi n (col 0 f) (col 1 f) (col 2 f) (col 3 f)).same (.cons (.refl _) (.cons (.lst 4 n _ _ hr) .nil))
 ·cases h
end Go.Proofs.Ytlinbkmpkcmniaa.Bo
namespace Go.Proofs.Ytlinbkmpkcmniaa.Bo
open Go Go.Sx Go.RowKit
open Go.Sx.Tree (need branch leaf)
open Go.Sx.AV (lst ptr agg roI tup top)
end Go.Proofs.Ytlinbkmpkcmniaa.Bo
