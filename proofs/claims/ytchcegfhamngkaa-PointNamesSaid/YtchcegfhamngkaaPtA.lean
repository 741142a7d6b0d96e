/- Contracts of functions of the program, by the engine Sx: what each call comes to. Printed by a program of this repo (sxgen.py). -/
import Derived.Test.YtchcegfhamngkaaRows
import Derived.Test.YtchcegfhamngkaaSxP
set_option linter.unusedSimpArgs false
set_option linter.unusedVariables false
namespace Go.Proofs.Ytchcegfhamngkaa
open Go Go.Sx Go.RowKit

theorem mixed : Try.prog.follows .mixedOrders = true := by kernel_rfl
abbrev i (n : Int) : AV := .x (.int .i64 n)
abbrev iI (n : Int) : AV := .x (.int .i64 n)
abbrev bl (b : Bool) : AV := .x (.bool b)
def bt (lo n hi : Int) : Bool := decide (lo ≤ n) && decide (n ≤ hi)
theorem bt_iff (lo n hi : Int) : bt lo n hi = true ↔ lo ≤ n ∧ n ≤ hi := by simp [bt]
def insB (lo a b hi : Int) : Bool := decide (lo ≤ a) && decide (a ≤ b) && decide (b ≤ hi)
theorem insB_iff (lo a b hi : Int) : insB lo a b hi = true ↔ lo ≤ a ∧ a ≤ b ∧ b ≤ hi := by simp [insB, and_assoc]
def scB (a b : Int) : Bool := bt (-1000) a 1000 && bt (-1000) b 1000 && (a != b)
theorem scB_iff (a b : Int) : scB a b = true ↔ -1000 ≤ a ∧ a ≤ 1000 ∧ -1000 ≤ b ∧ b ≤ 1000 ∧ a ≠ b := by simp [scB, bt, and_assoc]

def S_within : Sx.Spec := fun l => match l with
  | [.x (.int .i64 n), .x (.int .i64 lo), .x (.int .i64 hi)] => some ([], bl (bt lo n hi))
  | _ => none

set_option maxRecDepth 100000 in
theorem within_at (n lo hi : Int) : SoundAt Try.prog 79 [i n, i lo, i hi] (bl (bt lo n hi)) := by
  refine soundAt_fin (G := []) (L := []) (SoundG.nil _) mixed Try.func79 (show Try.f79.body = some (bodyOf Try.f79) by kernel_rfl) noLoops (t := (Tree.branch (decide (lo ≤ n)) (Tree.leaf (RV.x (Value.bool (decide (n ≤ hi))))) (Tree.leaf (RV.x (Value.bool false))))) (by kernel_rfl) ?_
  simp only [Tree.sat, allP, fitP, fitL, valEq, true_and, and_true]
  all_goals (simp +contextual [bt, insB, scB, Bool.and_assoc])
  all_goals omega
theorem within_ok : SoundSpec Try.prog 79 S_within := by
  refine ⟨⟨_, Try.func79, by kernel_rfl, by kernel_rfl⟩, ?_⟩
  intro avs ns res h hn
  unfold S_within at h
  split at h
  · cases h
    exact within_at _ _ _
  · cases h

def S_inside : Sx.Spec := fun l => match l with
  | [.agg [.x (.int .i64 a), .x (.int .i64 b)], .x (.int .i64 lo), .x (.int .i64 hi)] => some ([], bl (insB lo a b hi))
  | _ => none

set_option maxRecDepth 100000 in
theorem inside_at (a b lo hi : Int) : SoundAt Try.prog 61 [.agg [i a, i b], i lo, i hi] (bl (insB lo a b hi)) := by
  refine soundAt_fin (G := []) (L := []) (SoundG.nil _) mixed Try.func61 (show Try.f61.body = some (bodyOf Try.f61) by kernel_rfl) noLoops (t := (Tree.branch (decide (lo ≤ a)) (Tree.branch (decide (a ≤ b)) (Tree.leaf (RV.x (Value.bool (decide (b ≤ hi))))) (Tree.leaf (RV.x (Value.bool false)))) (Tree.leaf (RV.x (Value.bool false))))) (by kernel_rfl) ?_
  simp only [Tree.sat, allP, fitP, fitL, valEq, true_and, and_true]
  all_goals (simp +contextual [bt, insB, scB, Bool.and_assoc])
  all_goals omega
theorem inside_ok : SoundSpec Try.prog 61 S_inside := by
  refine ⟨⟨_, Try.func61, by kernel_rfl, by kernel_rfl⟩, ?_⟩
  intro avs ns res h hn
  unfold S_inside at h
  split at h
  · cases h
    exact inside_at _ _ _ _
  · cases h

def S_readings : Sx.Spec := fun l => match l with
  | [.agg [.x (.int .i64 a), .x (.int .i64 b)]] => some ([], bl (insB (-1000000) a b 1000000))
  | _ => none

set_option maxRecDepth 100000 in
theorem readings_at (a b : Int) : SoundAt Try.prog 54 [.agg [i a, i b]] (bl (insB (-1000000) a b 1000000)) := by
  refine soundAt_fin (G := [(61, S_inside)]) (L := []) (SoundG.cons inside_ok (SoundG.nil _)) mixed Try.func54 (show Try.f54.body = some (bodyOf Try.f54) by kernel_rfl) noLoops (t := (Tree.leaf (RV.x (Value.bool (insB (-1000000 : Int) a b (1000000 : Int)))))) (by kernel_rfl) ?_
  simp only [Tree.sat, allP, fitP, fitL, valEq, true_and, and_true]
  all_goals (simp +contextual [bt, insB, scB, Bool.and_assoc])
  all_goals omega
theorem readings_ok : SoundSpec Try.prog 54 S_readings := by
  refine ⟨⟨_, Try.func54, by kernel_rfl, by kernel_rfl⟩, ?_⟩
  intro avs ns res h hn
  unfold S_readings at h
  split at h
  · cases h
    exact readings_at _ _
  · cases h

def S_valid : Sx.Spec := fun l => match l with
  | [.agg [.x (.int .i64 a), .x (.int .i64 b)]] => some ([], bl (scB a b))
  | _ => none

set_option maxRecDepth 100000 in
theorem valid_at (a b : Int) : SoundAt Try.prog 53 [.agg [i a, i b]] (bl (scB a b)) := by
  refine soundAt_fin (G := [(79, S_within)]) (L := []) (SoundG.cons within_ok (SoundG.nil _)) mixed Try.func53 (show Try.f53.body = some (bodyOf Try.f53) by kernel_rfl) noLoops (t := (Tree.branch (bt (-1000 : Int) a (1000 : Int)) (Tree.branch (bt (-1000 : Int) b (1000 : Int)) (Tree.leaf (RV.x (Value.bool (a != b)))) (Tree.leaf (RV.x (Value.bool false)))) (Tree.leaf (RV.x (Value.bool false))))) (by kernel_rfl) ?_
  simp only [Tree.sat, allP, fitP, fitL, valEq, true_and, and_true]
  all_goals (simp +contextual [bt, insB, scB, Bool.and_assoc])
  all_goals omega
theorem valid_ok : SoundSpec Try.prog 53 S_valid := by
  refine ⟨⟨_, Try.func53, by kernel_rfl, by kernel_rfl⟩, ?_⟩
  intro avs ns res h hn
  unfold S_valid at h
  split at h
  · cases h
    exact valid_at _ _
  · cases h

def S_CheckScale : Sx.Spec := fun l => match l with
  | [.agg [.x (.int .i64 a), .x (.int .i64 b)]] => some ([], i (if scB a b then 0 else 1))
  | _ => none

set_option maxRecDepth 100000 in
theorem CheckScale_at (a b : Int) : SoundAt Try.prog 41 [.agg [i a, i b]] (i (if scB a b then 0 else 1)) := by
  refine soundAt_fin (G := [(53, S_valid)]) (L := []) (SoundG.cons valid_ok (SoundG.nil _)) mixed Try.func41 (show Try.f41.body = some (bodyOf Try.f41) by kernel_rfl) noLoops (t := (Tree.branch (!scB a b) (Tree.leaf (RV.x (Value.int IntKind.i64 (1 : Int)))) (Tree.leaf (RV.x (Value.int IntKind.i64 (0 : Int)))))) (by kernel_rfl) ?_
  simp only [Tree.sat, fitP, valEq]
  cases scB a b <;> simp
theorem CheckScale_ok : SoundSpec Try.prog 41 S_CheckScale := by
  refine ⟨⟨_, Try.func41, by kernel_rfl, by kernel_rfl⟩, ?_⟩
  intro avs ns res h hn
  unfold S_CheckScale at h
  split at h
  · cases h
    exact CheckScale_at _ _
  · cases h

def S_rIn : Sx.Spec := fun l => match l with
  | [.x (.int .i64 n), .x (.int .i64 lo), .x (.int .i64 hi)] => some ([], bl (bt lo n hi))
  | _ => none

set_option maxRecDepth 100000 in
theorem rIn_at (n lo hi : Int) : SoundAt Try.prog 69 [i n, i lo, i hi] (bl (bt lo n hi)) := by
  refine soundAt_fin (G := []) (L := []) (SoundG.nil _) mixed Try.func69 (show Try.f69.body = some (bodyOf Try.f69) by kernel_rfl) noLoops (t := (Tree.branch (decide (n ≥ lo)) (Tree.leaf (RV.x (Value.bool (decide (n ≤ hi))))) (Tree.leaf (RV.x (Value.bool false))))) (by kernel_rfl) ?_
  simp only [Tree.sat, allP, fitP, fitL, valEq, true_and, and_true]
  all_goals (simp +contextual [bt, insB, scB, Bool.and_assoc])
  all_goals omega
theorem rIn_ok : SoundSpec Try.prog 69 S_rIn := by
  refine ⟨⟨_, Try.func69, by kernel_rfl, by kernel_rfl⟩, ?_⟩
  intro avs ns res h hn
  unfold S_rIn at h
  split at h
  · cases h
    exact rIn_at _ _ _
  · cases h

def S_rSpan : Sx.Spec := fun l => match l with
  | [.agg [.x (.int .i64 a), .x (.int .i64 b)], .x (.int .i64 lo), .x (.int .i64 hi)] => some ([], bl (insB lo a b hi))
  | _ => none

set_option maxRecDepth 100000 in
theorem rSpan_at (a b lo hi : Int) : SoundAt Try.prog 30 [.agg [i a, i b], i lo, i hi] (bl (insB lo a b hi)) := by
  refine soundAt_fin (G := [(69, S_rIn)]) (L := []) (SoundG.cons rIn_ok (SoundG.nil _)) mixed Try.func30 (show Try.f30.body = some (bodyOf Try.f30) by kernel_rfl) noLoops (t := (Tree.branch (bt lo a b) (Tree.leaf (RV.x (Value.bool (decide (b ≤ hi))))) (Tree.leaf (RV.x (Value.bool false))))) (by kernel_rfl) ?_
  simp only [Tree.sat, allP, fitP, fitL, valEq, true_and, and_true]
  all_goals (simp +contextual [bt, insB, scB, Bool.and_assoc])
  all_goals omega
theorem rSpan_ok : SoundSpec Try.prog 30 S_rSpan := by
  refine ⟨⟨_, Try.func30, by kernel_rfl, by kernel_rfl⟩, ?_⟩
  intro avs ns res h hn
  unfold S_rSpan at h
  split at h
  · cases h
    exact rSpan_at _ _ _ _
  · cases h

def S_rIsScale : Sx.Spec := fun l => match l with
  | [.agg [.x (.int .i64 a), .x (.int .i64 b)]] => some ([], bl (scB a b))
  | _ => none

set_option maxRecDepth 100000 in
theorem rIsScale_at (a b : Int) : SoundAt Try.prog 31 [.agg [i a, i b]] (bl (scB a b)) := by
  refine soundAt_fin (G := [(69, S_rIn)]) (L := []) (SoundG.cons rIn_ok (SoundG.nil _)) mixed Try.func31 (show Try.f31.body = some (bodyOf Try.f31) by kernel_rfl) noLoops (t := (Tree.branch (bt (-1000 : Int) a (1000 : Int)) (Tree.branch (bt (-1000 : Int) b (1000 : Int)) (Tree.leaf (RV.x (Value.bool (a != b)))) (Tree.leaf (RV.x (Value.bool false)))) (Tree.leaf (RV.x (Value.bool false))))) (by kernel_rfl) ?_
  simp only [Tree.sat, allP, fitP, fitL, valEq, true_and, and_true]
  all_goals (simp +contextual [bt, insB, scB, Bool.and_assoc])
  all_goals omega
theorem rIsScale_ok : SoundSpec Try.prog 31 S_rIsScale := by
  refine ⟨⟨_, Try.func31, by kernel_rfl, by kernel_rfl⟩, ?_⟩
  intro avs ns res h hn
  unfold S_rIsScale at h
  split at h
  · cases h
    exact rIsScale_at _ _
  · cases h

def S_rAreReadings : Sx.Spec := fun l => match l with
  | [.agg [.x (.int .i64 a), .x (.int .i64 b)]] => some ([], bl (insB (-1000000) a b 1000000))
  | _ => none

set_option maxRecDepth 100000 in
theorem rAreReadings_at (a b : Int) : SoundAt Try.prog 25 [.agg [i a, i b]] (bl (insB (-1000000) a b 1000000)) := by
  refine soundAt_fin (G := [(30, S_rSpan)]) (L := []) (SoundG.cons rSpan_ok (SoundG.nil _)) mixed Try.func25 (show Try.f25.body = some (bodyOf Try.f25) by kernel_rfl) noLoops (t := (Tree.leaf (RV.x (Value.bool (insB (-1000000 : Int) a b (1000000 : Int)))))) (by kernel_rfl) ?_
  simp only [Tree.sat, allP, fitP, fitL, valEq, true_and, and_true]
  all_goals (simp +contextual [bt, insB, scB, Bool.and_assoc])
  all_goals omega
theorem rAreReadings_ok : SoundSpec Try.prog 25 S_rAreReadings := by
  refine ⟨⟨_, Try.func25, by kernel_rfl, by kernel_rfl⟩, ?_⟩
  intro avs ns res h hn
  unfold S_rAreReadings at h
  split at h
  · cases h
    exact rAreReadings_at _ _
  · cases h


/-- Half degrees between ice and steam; heights in half degrees. -/
def sizeI (a b : Int) : Int := if b > a then 2 * (b - a) else 2 * (a - b)
def aboveI (a b p : Int) : Int := if b > a then p - 2 * a else 2 * a - p
def alLo (a b lo hi : Int) : Int := if b > a then 2 * lo - 1 - 2 * a else 2 * a - (2 * hi + 1)
def alHi (a b lo hi : Int) : Int := if b > a then 2 * hi + 1 - 2 * a else 2 * a - (2 * lo - 1)

def S_rSize : Sx.Spec := fun l => match l with
  | [.agg [.x (.int .i64 a), .x (.int .i64 b)]] => some ([-1000000 ≤ a ∧ a ≤ 1000000 ∧ -1000000 ≤ b ∧ b ≤ 1000000], i (sizeI a b))
  | _ => none

set_option maxRecDepth 100000 in
theorem rSize_at (a b : Int) (pre0 : -1000000 ≤ a ∧ a ≤ 1000000 ∧ -1000000 ≤ b ∧ b ≤ 1000000) : SoundAt Try.prog 71 [.agg [i a, i b]] (i (sizeI a b)) := by
  refine soundAt_fin (G := []) (L := []) (SoundG.nil _) mixed Try.func71 (show Try.f71.body = some (bodyOf Try.f71) by kernel_rfl) noLoops (t := (Tree.branch (decide (b > a)) (Tree.need [inI64 (b - a)] (Tree.need [inI64 ((2 : Int) * (b - a))] (Tree.leaf (RV.x (Value.int IntKind.i64 ((2 : Int) * (b - a))))))) (Tree.need [inI64 (a - b)] (Tree.need [inI64 ((2 : Int) * (a - b))] (Tree.leaf (RV.x (Value.int IntKind.i64 ((2 : Int) * (a - b))))))))) (by kernel_rfl) ?_
  simp only [Tree.sat, allP, fitP, fitL, valEq, inI64, true_and, and_true, sizeI, aboveI, alLo, alHi, decide_eq_true_eq, decide_eq_false_iff_not]
  split <;> omega
theorem rSize_ok : SoundSpec Try.prog 71 S_rSize := by
  refine ⟨⟨_, Try.func71, by kernel_rfl, by kernel_rfl⟩, ?_⟩
  intro avs ns res h hn
  unfold S_rSize at h
  split at h
  · cases h
    exact rSize_at _ _ (hn _ (by simp))
  · cases h

def S_rAbove : Sx.Spec := fun l => match l with
  | [.agg [.x (.int .i64 a), .x (.int .i64 b)], .x (.int .i64 p)] => some ([-1000000 ≤ a ∧ a ≤ 1000000, -4000000000000 ≤ p ∧ p ≤ 4000000000000], i (aboveI a b p))
  | _ => none

set_option maxRecDepth 100000 in
theorem rAbove_at (a b p : Int) (pre0 : -1000000 ≤ a ∧ a ≤ 1000000) (pre1 : -4000000000000 ≤ p ∧ p ≤ 4000000000000) : SoundAt Try.prog 85 [.agg [i a, i b], i p] (i (aboveI a b p)) := by
  refine soundAt_fin (G := []) (L := []) (SoundG.nil _) mixed Try.func85 (show Try.f85.body = some (bodyOf Try.f85) by kernel_rfl) noLoops (t := (Tree.branch (decide (b > a)) (Tree.need [inI64 ((2 : Int) * a)] (Tree.need [inI64 (p - (2 : Int) * a)] (Tree.leaf (RV.x (Value.int IntKind.i64 (p - (2 : Int) * a)))))) (Tree.need [inI64 ((2 : Int) * a)] (Tree.need [inI64 ((2 : Int) * a - p)] (Tree.leaf (RV.x (Value.int IntKind.i64 ((2 : Int) * a - p)))))))) (by kernel_rfl) ?_
  simp only [Tree.sat, allP, fitP, fitL, valEq, inI64, true_and, and_true, sizeI, aboveI, alLo, alHi, decide_eq_true_eq, decide_eq_false_iff_not]
  split <;> omega
theorem rAbove_ok : SoundSpec Try.prog 85 S_rAbove := by
  refine ⟨⟨_, Try.func85, by kernel_rfl, by kernel_rfl⟩, ?_⟩
  intro avs ns res h hn
  unfold S_rAbove at h
  split at h
  · cases h
    exact rAbove_at _ _ _ (hn _ (by simp)) (hn _ (by simp))
  · cases h

def S_rAllowed : Sx.Spec := fun l => match l with
  | [.agg [.x (.int .i64 a), .x (.int .i64 b)], .agg [.x (.int .i64 lo), .x (.int .i64 hi)]] => some ([-1000000 ≤ a ∧ a ≤ 1000000, -1000000000000 ≤ lo ∧ lo ≤ hi ∧ hi ≤ 1000000000000], .agg [i (alLo a b lo hi), i (alHi a b lo hi)])
  | _ => none

set_option maxRecDepth 100000 in
theorem rAllowed_at (a b lo hi : Int) (pre0 : -1000000 ≤ a ∧ a ≤ 1000000) (pre1 : -1000000000000 ≤ lo ∧ lo ≤ hi ∧ hi ≤ 1000000000000) : SoundAt Try.prog 70 [.agg [i a, i b], .agg [i lo, i hi]] (.agg [i (alLo a b lo hi), i (alHi a b lo hi)]) := by
  refine soundAt_fin (G := [(85, S_rAbove)]) (L := []) (SoundG.cons rAbove_ok (SoundG.nil _)) mixed Try.func70 (show Try.f70.body = some (bodyOf Try.f70) by kernel_rfl) noLoops (t := (Tree.need [inI64 ((2 : Int) * lo)] (Tree.need [inI64 ((2 : Int) * lo - (1 : Int))] (Tree.need [(-1000000 : Int) ≤ a ∧ a ≤ (1000000 : Int), (-4000000000000 : Int) ≤ (2 : Int) * lo - (1 : Int) ∧ (2 : Int) * lo - (1 : Int) ≤ (4000000000000 : Int)] (Tree.need [inI64 ((2 : Int) * hi)] (Tree.need [inI64 ((2 : Int) * hi + (1 : Int))] (Tree.need [(-1000000 : Int) ≤ a ∧ a ≤ (1000000 : Int), (-4000000000000 : Int) ≤ (2 : Int) * hi + (1 : Int) ∧ (2 : Int) * hi + (1 : Int) ≤ (4000000000000 : Int)] (Tree.leaf (RV.agg [RV.x (Value.int IntKind.i64 (min (aboveI a b ((2 : Int) * lo - (1 : Int))) (aboveI a b ((2 : Int) * hi + (1 : Int))))), RV.x (Value.int IntKind.i64 (max (aboveI a b ((2 : Int) * lo - (1 : Int))) (aboveI a b ((2 : Int) * hi + (1 : Int)))))]))))))))) (by kernel_rfl) ?_
  simp only [Tree.sat, allP, fitP, fitL, valEq, inI64, true_and, and_true, sizeI, aboveI, alLo, alHi, decide_eq_true_eq, decide_eq_false_iff_not]
  split <;> omega
theorem rAllowed_ok : SoundSpec Try.prog 70 S_rAllowed := by
  refine ⟨⟨_, Try.func70, by kernel_rfl, by kernel_rfl⟩, ?_⟩
  intro avs ns res h hn
  unfold S_rAllowed at h
  split at h
  · cases h
    exact rAllowed_at _ _ _ _ (hn _ (by simp)) (hn _ (by simp))
  · cases h

def S_lto : Sx.Spec := fun l => match l with
  | [.agg [.x (.int .i64 a), .x (.int .i64 b)]] => some ([], .agg [i a, i b])
  | _ => none

set_option maxRecDepth 100000 in
theorem lto_at (a b : Int) : SoundAt Try.prog 19 [.agg [i a, i b]] (.agg [i a, i b]) := by
  refine soundAt_fin (G := []) (L := []) (SoundG.nil _) mixed Try.func19 (show Try.f19.body = some (bodyOf Try.f19) by kernel_rfl) noLoops (t := (Tree.leaf (RV.agg [RV.x (Value.int IntKind.i64 a), RV.x (Value.int IntKind.i64 b)]))) (by kernel_rfl) ?_
  simp only [Tree.sat, allP, fitP, fitL, valEq, inI64, true_and, and_true]
  all_goals first | omega | grind
theorem lto_ok : SoundSpec Try.prog 19 S_lto := by
  refine ⟨⟨_, Try.func19, by kernel_rfl, by kernel_rfl⟩, ?_⟩
  intro avs ns res h hn
  unfold S_lto at h
  split at h
  · cases h
    exact lto_at _ _
  · cases h

def S_lScale : Sx.Spec := fun l => match l with
  | [.agg [.x (.int .i64 a), .x (.int .i64 b)]] => some ([], .agg [i a, i b])
  | _ => none

set_option maxRecDepth 100000 in
theorem lScale_at (a b : Int) : SoundAt Try.prog 23 [.agg [i a, i b]] (.agg [i a, i b]) := by
  refine soundAt_fin (G := []) (L := []) (SoundG.nil _) mixed Try.func23 (show Try.f23.body = some (bodyOf Try.f23) by kernel_rfl) noLoops (t := (Tree.leaf (RV.agg [RV.x (Value.int IntKind.i64 a), RV.x (Value.int IntKind.i64 b)]))) (by kernel_rfl) ?_
  simp only [Tree.sat, allP, fitP, fitL, valEq, inI64, true_and, and_true]
  all_goals first | omega | grind
theorem lScale_ok : SoundSpec Try.prog 23 S_lScale := by
  refine ⟨⟨_, Try.func23, by kernel_rfl, by kernel_rfl⟩, ?_⟩
  intro avs ns res h hn
  unfold S_lScale at h
  split at h
  · cases h
    exact lScale_at _ _
  · cases h

def S_between : Sx.Spec := fun l => match l with
  | [.x (.int .i64 a), .x (.int .i64 b)] => some ([], .agg [i a, i b])
  | _ => none

set_option maxRecDepth 100000 in
theorem between_at (a b : Int) : SoundAt Try.prog 35 [i a, i b] (.agg [i a, i b]) := by
  refine soundAt_fin (G := []) (L := []) (SoundG.nil _) mixed Try.func35 (show Try.f35.body = some (bodyOf Try.f35) by kernel_rfl) noLoops (t := (Tree.leaf (RV.agg [RV.x (Value.int IntKind.i64 a), RV.x (Value.int IntKind.i64 b)]))) (by kernel_rfl) ?_
  simp only [Tree.sat, allP, fitP, fitL, valEq, inI64, true_and, and_true]
  all_goals first | omega | grind
theorem between_ok : SoundSpec Try.prog 35 S_between := by
  refine ⟨⟨_, Try.func35, by kernel_rfl, by kernel_rfl⟩, ?_⟩
  intro avs ns res h hn
  unfold S_between at h
  split at h
  · cases h
    exact between_at _ _
  · cases h

def S_turned : Sx.Spec := fun l => match l with
  | [.agg [.x (.int .i64 a), .x (.int .i64 b)]] => some ([-1000000 ≤ a ∧ a ≤ 1000000 ∧ -1000000 ≤ b ∧ b ≤ 1000000], .agg [i (-a), i (-b)])
  | _ => none

set_option maxRecDepth 100000 in
theorem turned_at (a b : Int) (pre0 : -1000000 ≤ a ∧ a ≤ 1000000 ∧ -1000000 ≤ b ∧ b ≤ 1000000) : SoundAt Try.prog 40 [.agg [i a, i b]] (.agg [i (-a), i (-b)]) := by
  refine soundAt_fin (G := []) (L := []) (SoundG.nil _) mixed Try.func40 (show Try.f40.body = some (bodyOf Try.f40) by kernel_rfl) noLoops (t := (Tree.need [inI64 (-a)] (Tree.need [inI64 (-b)] (Tree.leaf (RV.agg [RV.x (Value.int IntKind.i64 (-a)), RV.x (Value.int IntKind.i64 (-b))]))))) (by kernel_rfl) ?_
  simp only [Tree.sat, allP, fitP, fitL, valEq, inI64, true_and, and_true]
  all_goals first | omega | grind
theorem turned_ok : SoundSpec Try.prog 40 S_turned := by
  refine ⟨⟨_, Try.func40, by kernel_rfl, by kernel_rfl⟩, ?_⟩
  intro avs ns res h hn
  unfold S_turned at h
  split at h
  · cases h
    exact turned_at _ _ (hn _ (by simp))
  · cases h

end Go.Proofs.Ytchcegfhamngkaa
