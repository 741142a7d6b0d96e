/- Texts of this claim, put together: PtA, PtB, PtC, PtD, PtE, PtF, PtM, PtG, PtH, PtI, PtJ, PtK, PtN -/
import Derived.Test.YtchcegfhamngkaaMi
import Derived.Test.YtchcegfhamngkaaRows
/- Contracts of functions of the program, by the engine Sx: what each call comes to. Printed by a program of this repo (sxgen.py). -/
set_option linter.unusedSimpArgs false
set_option linter.unusedVariables false
namespace Go.Proofs.Ytchcegfhamngkaa
open Go Go.Sx Go.RowKit

theorem mixed : Try.prog.follows .mixedOrders = true := by kernel_rfl
abbrev i (n : Int) : AV := .x (.int .i64 n)
abbrev iI (n : Int) : AV := .x (.int .i64 n)
abbrev bl (b : Bool) : AV := .x (.bool b)
def bt (lo n hi : Int) : Bool := decide (lo ≤ n) && decide (n ≤ hi)
theorem bt_iff (lo n hi : Int) : bt lo n hi = true ↔ lo ≤ n ∧ n ≤ hi := by simp [bt]
def insB (lo a b hi : Int) : Bool := decide (lo ≤ a) && decide (a ≤ b) && decide (b ≤ hi)
theorem insB_iff (lo a b hi : Int) : insB lo a b hi = true ↔ lo ≤ a ∧ a ≤ b ∧ b ≤ hi := by simp [insB, and_assoc]
def scB (a b : Int) : Bool := bt (-1000) a 1000 && bt (-1000) b 1000 && (a != b)
theorem scB_iff (a b : Int) : scB a b = true ↔ -1000 ≤ a ∧ a ≤ 1000 ∧ -1000 ≤ b ∧ b ≤ 1000 ∧ a ≠ b := by simp [scB, bt, and_assoc]

def S_within : Sx.Spec := fun l => match l with
  | [.x (.int .i64 n), .x (.int .i64 lo), .x (.int .i64 hi)] => some ([], bl (bt lo n hi))
  | _ => none

set_option maxRecDepth 100000 in
theorem within_at (n lo hi : Int) : SoundAt Try.prog 79 [i n, i lo, i hi] (bl (bt lo n hi)) := by
  refine soundAt_fin (G := []) (L := []) (SoundG.nil _) mixed Try.func79 (show Try.f79.body = some (bodyOf Try.f79) by kernel_rfl) noLoops (t := (Tree.branch (decide (lo ≤ n)) (Tree.leaf (RV.x (Value.bool (decide (n ≤ hi))))) (Tree.leaf (RV.x (Value.bool false))))) (by kernel_rfl) ?_
  simp only [Tree.sat, allP, fitP, fitL, valEq, true_and, and_true]
  all_goals (simp +contextual [bt, insB, scB, Bool.and_assoc])
  all_goals omega
theorem within_ok : SoundSpec Try.prog 79 S_within := by
  refine ⟨⟨_, Try.func79, by kernel_rfl, by kernel_rfl⟩, ?_⟩
  intro avs ns res h hn
  unfold S_within at h
  split at h
  · cases h
    exact within_at _ _ _
  · cases h

def S_inside : Sx.Spec := fun l => match l with
  | [.agg [.x (.int .i64 a), .x (.int .i64 b)], .x (.int .i64 lo), .x (.int .i64 hi)] => some ([], bl (insB lo a b hi))
  | _ => none

set_option maxRecDepth 100000 in
theorem inside_at (a b lo hi : Int) : SoundAt Try.prog 61 [.agg [i a, i b], i lo, i hi] (bl (insB lo a b hi)) := by
  refine soundAt_fin (G := []) (L := []) (SoundG.nil _) mixed Try.func61 (show Try.f61.body = some (bodyOf Try.f61) by kernel_rfl) noLoops (t := (Tree.branch (decide (lo ≤ a)) (Tree.branch (decide (a ≤ b)) (Tree.leaf (RV.x (Value.bool (decide (b ≤ hi))))) (Tree.leaf (RV.x (Value.bool false)))) (Tree.leaf (RV.x (Value.bool false))))) (by kernel_rfl) ?_
  simp only [Tree.sat, allP, fitP, fitL, valEq, true_and, and_true]
  all_goals (simp +contextual [bt, insB, scB, Bool.and_assoc])
  all_goals omega
theorem inside_ok : SoundSpec Try.prog 61 S_inside := by
  refine ⟨⟨_, Try.func61, by kernel_rfl, by kernel_rfl⟩, ?_⟩
  intro avs ns res h hn
  unfold S_inside at h
  split at h
  · cases h
    exact inside_at _ _ _ _
  · cases h

def S_readings : Sx.Spec := fun l => match l with
  | [.agg [.x (.int .i64 a), .x (.int .i64 b)]] => some ([], bl (insB (-1000000) a b 1000000))
  | _ => none

set_option maxRecDepth 100000 in
theorem readings_at (a b : Int) : SoundAt Try.prog 54 [.agg [i a, i b]] (bl (insB (-1000000) a b 1000000)) := by
  refine soundAt_fin (G := [(61, S_inside)]) (L := []) (SoundG.cons inside_ok (SoundG.nil _)) mixed Try.func54 (show Try.f54.body = some (bodyOf Try.f54) by kernel_rfl) noLoops (t := (Tree.leaf (RV.x (Value.bool (insB (-1000000 : Int) a b (1000000 : Int)))))) (by kernel_rfl) ?_
  simp only [Tree.sat, allP, fitP, fitL, valEq, true_and, and_true]
  all_goals (simp +contextual [bt, insB, scB, Bool.and_assoc])
  all_goals omega
theorem readings_ok : SoundSpec Try.prog 54 S_readings := by
  refine ⟨⟨_, Try.func54, by kernel_rfl, by kernel_rfl⟩, ?_⟩
  intro avs ns res h hn
  unfold S_readings at h
  split at h
  · cases h
    exact readings_at _ _
  · cases h

def S_valid : Sx.Spec := fun l => match l with
  | [.agg [.x (.int .i64 a), .x (.int .i64 b)]] => some ([], bl (scB a b))
  | _ => none

set_option maxRecDepth 100000 in
theorem valid_at (a b : Int) : SoundAt Try.prog 53 [.agg [i a, i b]] (bl (scB a b)) := by
  refine soundAt_fin (G := [(79, S_within)]) (L := []) (SoundG.cons within_ok (SoundG.nil _)) mixed Try.func53 (show Try.f53.body = some (bodyOf Try.f53) by kernel_rfl) noLoops (t := (Tree.branch (bt (-1000 : Int) a (1000 : Int)) (Tree.branch (bt (-1000 : Int) b (1000 : Int)) (Tree.leaf (RV.x (Value.bool (a != b)))) (Tree.leaf (RV.x (Value.bool false)))) (Tree.leaf (RV.x (Value.bool false))))) (by kernel_rfl) ?_
  simp only [Tree.sat, allP, fitP, fitL, valEq, true_and, and_true]
  all_goals (simp +contextual [bt, insB, scB, Bool.and_assoc])
  all_goals omega
theorem valid_ok : SoundSpec Try.prog 53 S_valid := by
  refine ⟨⟨_, Try.func53, by kernel_rfl, by kernel_rfl⟩, ?_⟩
  intro avs ns res h hn
  unfold S_valid at h
  split at h
  · cases h
    exact valid_at _ _
  · cases h

def S_CheckScale : Sx.Spec := fun l => match l with
  | [.agg [.x (.int .i64 a), .x (.int .i64 b)]] => some ([], i (if scB a b then 0 else 1))
  | _ => none

set_option maxRecDepth 100000 in
theorem CheckScale_at (a b : Int) : SoundAt Try.prog 41 [.agg [i a, i b]] (i (if scB a b then 0 else 1)) := by
  refine soundAt_fin (G := [(53, S_valid)]) (L := []) (SoundG.cons valid_ok (SoundG.nil _)) mixed Try.func41 (show Try.f41.body = some (bodyOf Try.f41) by kernel_rfl) noLoops (t := (Tree.branch (!scB a b) (Tree.leaf (RV.x (Value.int IntKind.i64 (1 : Int)))) (Tree.leaf (RV.x (Value.int IntKind.i64 (0 : Int)))))) (by kernel_rfl) ?_
  simp only [Tree.sat, fitP, valEq]
  cases scB a b <;> simp
theorem CheckScale_ok : SoundSpec Try.prog 41 S_CheckScale := by
  refine ⟨⟨_, Try.func41, by kernel_rfl, by kernel_rfl⟩, ?_⟩
  intro avs ns res h hn
  unfold S_CheckScale at h
  split at h
  · cases h
    exact CheckScale_at _ _
  · cases h

def S_rIn : Sx.Spec := fun l => match l with
  | [.x (.int .i64 n), .x (.int .i64 lo), .x (.int .i64 hi)] => some ([], bl (bt lo n hi))
  | _ => none

set_option maxRecDepth 100000 in
theorem rIn_at (n lo hi : Int) : SoundAt Try.prog 69 [i n, i lo, i hi] (bl (bt lo n hi)) := by
  refine soundAt_fin (G := []) (L := []) (SoundG.nil _) mixed Try.func69 (show Try.f69.body = some (bodyOf Try.f69) by kernel_rfl) noLoops (t := (Tree.branch (decide (n ≥ lo)) (Tree.leaf (RV.x (Value.bool (decide (n ≤ hi))))) (Tree.leaf (RV.x (Value.bool false))))) (by kernel_rfl) ?_
  simp only [Tree.sat, allP, fitP, fitL, valEq, true_and, and_true]
  all_goals (simp +contextual [bt, insB, scB, Bool.and_assoc])
  all_goals omega
theorem rIn_ok : SoundSpec Try.prog 69 S_rIn := by
  refine ⟨⟨_, Try.func69, by kernel_rfl, by kernel_rfl⟩, ?_⟩
  intro avs ns res h hn
  unfold S_rIn at h
  split at h
  · cases h
    exact rIn_at _ _ _
  · cases h

def S_rSpan : Sx.Spec := fun l => match l with
  | [.agg [.x (.int .i64 a), .x (.int .i64 b)], .x (.int .i64 lo), .x (.int .i64 hi)] => some ([], bl (insB lo a b hi))
  | _ => none

set_option maxRecDepth 100000 in
theorem rSpan_at (a b lo hi : Int) : SoundAt Try.prog 30 [.agg [i a, i b], i lo, i hi] (bl (insB lo a b hi)) := by
  refine soundAt_fin (G := [(69, S_rIn)]) (L := []) (SoundG.cons rIn_ok (SoundG.nil _)) mixed Try.func30 (show Try.f30.body = some (bodyOf Try.f30) by kernel_rfl) noLoops (t := (Tree.branch (bt lo a b) (Tree.leaf (RV.x (Value.bool (decide (b ≤ hi))))) (Tree.leaf (RV.x (Value.bool false))))) (by kernel_rfl) ?_
  simp only [Tree.sat, allP, fitP, fitL, valEq, true_and, and_true]
  all_goals (simp +contextual [bt, insB, scB, Bool.and_assoc])
  all_goals omega
theorem rSpan_ok : SoundSpec Try.prog 30 S_rSpan := by
  refine ⟨⟨_, Try.func30, by kernel_rfl, by kernel_rfl⟩, ?_⟩
  intro avs ns res h hn
  unfold S_rSpan at h
  split at h
  · cases h
    exact rSpan_at _ _ _ _
  · cases h

def S_rIsScale : Sx.Spec := fun l => match l with
  | [.agg [.x (.int .i64 a), .x (.int .i64 b)]] => some ([], bl (scB a b))
  | _ => none

set_option maxRecDepth 100000 in
theorem rIsScale_at (a b : Int) : SoundAt Try.prog 31 [.agg [i a, i b]] (bl (scB a b)) := by
  refine soundAt_fin (G := [(69, S_rIn)]) (L := []) (SoundG.cons rIn_ok (SoundG.nil _)) mixed Try.func31 (show Try.f31.body = some (bodyOf Try.f31) by kernel_rfl) noLoops (t := (Tree.branch (bt (-1000 : Int) a (1000 : Int)) (Tree.branch (bt (-1000 : Int) b (1000 : Int)) (Tree.leaf (RV.x (Value.bool (a != b)))) (Tree.leaf (RV.x (Value.bool false)))) (Tree.leaf (RV.x (Value.bool false))))) (by kernel_rfl) ?_
  simp only [Tree.sat, allP, fitP, fitL, valEq, true_and, and_true]
  all_goals (simp +contextual [bt, insB, scB, Bool.and_assoc])
  all_goals omega
theorem rIsScale_ok : SoundSpec Try.prog 31 S_rIsScale := by
  refine ⟨⟨_, Try.func31, by kernel_rfl, by kernel_rfl⟩, ?_⟩
  intro avs ns res h hn
  unfold S_rIsScale at h
  split at h
  · cases h
    exact rIsScale_at _ _
  · cases h

def S_rAreReadings : Sx.Spec := fun l => match l with
  | [.agg [.x (.int .i64 a), .x (.int .i64 b)]] => some ([], bl (insB (-1000000) a b 1000000))
  | _ => none

set_option maxRecDepth 100000 in
theorem rAreReadings_at (a b : Int) : SoundAt Try.prog 25 [.agg [i a, i b]] (bl (insB (-1000000) a b 1000000)) := by
  refine soundAt_fin (G := [(30, S_rSpan)]) (L := []) (SoundG.cons rSpan_ok (SoundG.nil _)) mixed Try.func25 (show Try.f25.body = some (bodyOf Try.f25) by kernel_rfl) noLoops (t := (Tree.leaf (RV.x (Value.bool (insB (-1000000 : Int) a b (1000000 : Int)))))) (by kernel_rfl) ?_
  simp only [Tree.sat, allP, fitP, fitL, valEq, true_and, and_true]
  all_goals (simp +contextual [bt, insB, scB, Bool.and_assoc])
  all_goals omega
theorem rAreReadings_ok : SoundSpec Try.prog 25 S_rAreReadings := by
  refine ⟨⟨_, Try.func25, by kernel_rfl, by kernel_rfl⟩, ?_⟩
  intro avs ns res h hn
  unfold S_rAreReadings at h
  split at h
  · cases h
    exact rAreReadings_at _ _
  · cases h


/-- Half degrees between ice and steam; heights in half degrees. -/
def sizeI (a b : Int) : Int := if b > a then 2 * (b - a) else 2 * (a - b)
def aboveI (a b p : Int) : Int := if b > a then p - 2 * a else 2 * a - p
def alLo (a b lo hi : Int) : Int := if b > a then 2 * lo - 1 - 2 * a else 2 * a - (2 * hi + 1)
def alHi (a b lo hi : Int) : Int := if b > a then 2 * hi + 1 - 2 * a else 2 * a - (2 * lo - 1)

def S_rSize : Sx.Spec := fun l => match l with
  | [.agg [.x (.int .i64 a), .x (.int .i64 b)]] => some ([-1000000 ≤ a ∧ a ≤ 1000000 ∧ -1000000 ≤ b ∧ b ≤ 1000000], i (sizeI a b))
  | _ => none

set_option maxRecDepth 100000 in
theorem rSize_at (a b : Int) (pre0 : -1000000 ≤ a ∧ a ≤ 1000000 ∧ -1000000 ≤ b ∧ b ≤ 1000000) : SoundAt Try.prog 71 [.agg [i a, i b]] (i (sizeI a b)) := by
  refine soundAt_fin (G := []) (L := []) (SoundG.nil _) mixed Try.func71 (show Try.f71.body = some (bodyOf Try.f71) by kernel_rfl) noLoops (t := (Tree.branch (decide (b > a)) (Tree.need [inI64 (b - a)] (Tree.need [inI64 ((2 : Int) * (b - a))] (Tree.leaf (RV.x (Value.int IntKind.i64 ((2 : Int) * (b - a))))))) (Tree.need [inI64 (a - b)] (Tree.need [inI64 ((2 : Int) * (a - b))] (Tree.leaf (RV.x (Value.int IntKind.i64 ((2 : Int) * (a - b))))))))) (by kernel_rfl) ?_
  simp only [Tree.sat, allP, fitP, fitL, valEq, inI64, true_and, and_true, sizeI, aboveI, alLo, alHi, decide_eq_true_eq, decide_eq_false_iff_not]
  split <;> omega
theorem rSize_ok : SoundSpec Try.prog 71 S_rSize := by
  refine ⟨⟨_, Try.func71, by kernel_rfl, by kernel_rfl⟩, ?_⟩
  intro avs ns res h hn
  unfold S_rSize at h
  split at h
  · cases h
    exact rSize_at _ _ (hn _ (by simp))
  · cases h

def S_rAbove : Sx.Spec := fun l => match l with
  | [.agg [.x (.int .i64 a), .x (.int .i64 b)], .x (.int .i64 p)] => some ([-1000000 ≤ a ∧ a ≤ 1000000, -4000000000000 ≤ p ∧ p ≤ 4000000000000], i (aboveI a b p))
  | _ => none

set_option maxRecDepth 100000 in
theorem rAbove_at (a b p : Int) (pre0 : -1000000 ≤ a ∧ a ≤ 1000000) (pre1 : -4000000000000 ≤ p ∧ p ≤ 4000000000000) : SoundAt Try.prog 85 [.agg [i a, i b], i p] (i (aboveI a b p)) := by
  refine soundAt_fin (G := []) (L := []) (SoundG.nil _) mixed Try.func85 (show Try.f85.body = some (bodyOf Try.f85) by kernel_rfl) noLoops (t := (Tree.branch (decide (b > a)) (Tree.need [inI64 ((2 : Int) * a)] (Tree.need [inI64 (p - (2 : Int) * a)] (Tree.leaf (RV.x (Value.int IntKind.i64 (p - (2 : Int) * a)))))) (Tree.need [inI64 ((2 : Int) * a)] (Tree.need [inI64 ((2 : Int) * a - p)] (Tree.leaf (RV.x (Value.int IntKind.i64 ((2 : Int) * a - p)))))))) (by kernel_rfl) ?_
  simp only [Tree.sat, allP, fitP, fitL, valEq, inI64, true_and, and_true, sizeI, aboveI, alLo, alHi, decide_eq_true_eq, decide_eq_false_iff_not]
  split <;> omega
theorem rAbove_ok : SoundSpec Try.prog 85 S_rAbove := by
  refine ⟨⟨_, Try.func85, by kernel_rfl, by kernel_rfl⟩, ?_⟩
  intro avs ns res h hn
  unfold S_rAbove at h
  split at h
  · cases h
    exact rAbove_at _ _ _ (hn _ (by simp)) (hn _ (by simp))
  · cases h

def S_rAllowed : Sx.Spec := fun l => match l with
  | [.agg [.x (.int .i64 a), .x (.int .i64 b)], .agg [.x (.int .i64 lo), .x (.int .i64 hi)]] => some ([-1000000 ≤ a ∧ a ≤ 1000000, -1000000000000 ≤ lo ∧ lo ≤ hi ∧ hi ≤ 1000000000000], .agg [i (alLo a b lo hi), i (alHi a b lo hi)])
  | _ => none

set_option maxRecDepth 100000 in
theorem rAllowed_at (a b lo hi : Int) (pre0 : -1000000 ≤ a ∧ a ≤ 1000000) (pre1 : -1000000000000 ≤ lo ∧ lo ≤ hi ∧ hi ≤ 1000000000000) : SoundAt Try.prog 70 [.agg [i a, i b], .agg [i lo, i hi]] (.agg [i (alLo a b lo hi), i (alHi a b lo hi)]) := by
  refine soundAt_fin (G := [(85, S_rAbove)]) (L := []) (SoundG.cons rAbove_ok (SoundG.nil _)) mixed Try.func70 (show Try.f70.body = some (bodyOf Try.f70) by kernel_rfl) noLoops (t := (Tree.need [inI64 ((2 : Int) * lo)] (Tree.need [inI64 ((2 : Int) * lo - (1 : Int))] (Tree.need [(-1000000 : Int) ≤ a ∧ a ≤ (1000000 : Int), (-4000000000000 : Int) ≤ (2 : Int) * lo - (1 : Int) ∧ (2 : Int) * lo - (1 : Int) ≤ (4000000000000 : Int)] (Tree.need [inI64 ((2 : Int) * hi)] (Tree.need [inI64 ((2 : Int) * hi + (1 : Int))] (Tree.need [(-1000000 : Int) ≤ a ∧ a ≤ (1000000 : Int), (-4000000000000 : Int) ≤ (2 : Int) * hi + (1 : Int) ∧ (2 : Int) * hi + (1 : Int) ≤ (4000000000000 : Int)] (Tree.leaf (RV.agg [RV.x (Value.int IntKind.i64 (min (aboveI a b ((2 : Int) * lo - (1 : Int))) (aboveI a b ((2 : Int) * hi + (1 : Int))))), RV.x (Value.int IntKind.i64 (max (aboveI a b ((2 : Int) * lo - (1 : Int))) (aboveI a b ((2 : Int) * hi + (1 : Int)))))]))))))))) (by kernel_rfl) ?_
  simp only [Tree.sat, allP, fitP, fitL, valEq, inI64, true_and, and_true, sizeI, aboveI, alLo, alHi, decide_eq_true_eq, decide_eq_false_iff_not]
  split <;> omega
theorem rAllowed_ok : SoundSpec Try.prog 70 S_rAllowed := by
  refine ⟨⟨_, Try.func70, by kernel_rfl, by kernel_rfl⟩, ?_⟩
  intro avs ns res h hn
  unfold S_rAllowed at h
  split at h
  · cases h
    exact rAllowed_at _ _ _ _ (hn _ (by simp)) (hn _ (by simp))
  · cases h

def S_lto : Sx.Spec := fun l => match l with
  | [.agg [.x (.int .i64 a), .x (.int .i64 b)]] => some ([], .agg [i a, i b])
  | _ => none

set_option maxRecDepth 100000 in
theorem lto_at (a b : Int) : SoundAt Try.prog 19 [.agg [i a, i b]] (.agg [i a, i b]) := by
  refine soundAt_fin (G := []) (L := []) (SoundG.nil _) mixed Try.func19 (show Try.f19.body = some (bodyOf Try.f19) by kernel_rfl) noLoops (t := (Tree.leaf (RV.agg [RV.x (Value.int IntKind.i64 a), RV.x (Value.int IntKind.i64 b)]))) (by kernel_rfl) ?_
  simp only [Tree.sat, allP, fitP, fitL, valEq, inI64, true_and, and_true]
  all_goals first | omega | grind
theorem lto_ok : SoundSpec Try.prog 19 S_lto := by
  refine ⟨⟨_, Try.func19, by kernel_rfl, by kernel_rfl⟩, ?_⟩
  intro avs ns res h hn
  unfold S_lto at h
  split at h
  · cases h
    exact lto_at _ _
  · cases h

def S_lScale : Sx.Spec := fun l => match l with
  | [.agg [.x (.int .i64 a), .x (.int .i64 b)]] => some ([], .agg [i a, i b])
  | _ => none

set_option maxRecDepth 100000 in
theorem lScale_at (a b : Int) : SoundAt Try.prog 23 [.agg [i a, i b]] (.agg [i a, i b]) := by
  refine soundAt_fin (G := []) (L := []) (SoundG.nil _) mixed Try.func23 (show Try.f23.body = some (bodyOf Try.f23) by kernel_rfl) noLoops (t := (Tree.leaf (RV.agg [RV.x (Value.int IntKind.i64 a), RV.x (Value.int IntKind.i64 b)]))) (by kernel_rfl) ?_
  simp only [Tree.sat, allP, fitP, fitL, valEq, inI64, true_and, and_true]
  all_goals first | omega | grind
theorem lScale_ok : SoundSpec Try.prog 23 S_lScale := by
  refine ⟨⟨_, Try.func23, by kernel_rfl, by kernel_rfl⟩, ?_⟩
  intro avs ns res h hn
  unfold S_lScale at h
  split at h
  · cases h
    exact lScale_at _ _
  · cases h

def S_between : Sx.Spec := fun l => match l with
  | [.x (.int .i64 a), .x (.int .i64 b)] => some ([], .agg [i a, i b])
  | _ => none

set_option maxRecDepth 100000 in
theorem between_at (a b : Int) : SoundAt Try.prog 35 [i a, i b] (.agg [i a, i b]) := by
  refine soundAt_fin (G := []) (L := []) (SoundG.nil _) mixed Try.func35 (show Try.f35.body = some (bodyOf Try.f35) by kernel_rfl) noLoops (t := (Tree.leaf (RV.agg [RV.x (Value.int IntKind.i64 a), RV.x (Value.int IntKind.i64 b)]))) (by kernel_rfl) ?_
  simp only [Tree.sat, allP, fitP, fitL, valEq, inI64, true_and, and_true]
  all_goals first | omega | grind
theorem between_ok : SoundSpec Try.prog 35 S_between := by
  refine ⟨⟨_, Try.func35, by kernel_rfl, by kernel_rfl⟩, ?_⟩
  intro avs ns res h hn
  unfold S_between at h
  split at h
  · cases h
    exact between_at _ _
  · cases h

def S_turned : Sx.Spec := fun l => match l with
  | [.agg [.x (.int .i64 a), .x (.int .i64 b)]] => some ([-1000000 ≤ a ∧ a ≤ 1000000 ∧ -1000000 ≤ b ∧ b ≤ 1000000], .agg [i (-a), i (-b)])
  | _ => none

set_option maxRecDepth 100000 in
theorem turned_at (a b : Int) (pre0 : -1000000 ≤ a ∧ a ≤ 1000000 ∧ -1000000 ≤ b ∧ b ≤ 1000000) : SoundAt Try.prog 40 [.agg [i a, i b]] (.agg [i (-a), i (-b)]) := by
  refine soundAt_fin (G := []) (L := []) (SoundG.nil _) mixed Try.func40 (show Try.f40.body = some (bodyOf Try.f40) by kernel_rfl) noLoops (t := (Tree.need [inI64 (-a)] (Tree.need [inI64 (-b)] (Tree.leaf (RV.agg [RV.x (Value.int IntKind.i64 (-a)), RV.x (Value.int IntKind.i64 (-b))]))))) (by kernel_rfl) ?_
  simp only [Tree.sat, allP, fitP, fitL, valEq, inI64, true_and, and_true]
  all_goals first | omega | grind
theorem turned_ok : SoundSpec Try.prog 40 S_turned := by
  refine ⟨⟨_, Try.func40, by kernel_rfl, by kernel_rfl⟩, ?_⟩
  intro avs ns res h hn
  unfold S_turned at h
  split at h
  · cases h
    exact turned_at _ _ (hn _ (by simp))
  · cases h

end Go.Proofs.Ytchcegfhamngkaa
/- Contracts of functions of the program, by the engine Sx: what each call comes to. Printed by a program of this repo (sxgen.py). -/
set_option linter.unusedSimpArgs false
set_option linter.unusedVariables false
namespace Go.Proofs.Ytchcegfhamngkaa
open Go Go.Sx Go.RowKit

def ceI (n d : Int) : Int := -((-n) / d)

/-- What Go's quotient has to do with the rounded ones. -/
theorem div_facts (a b : Int) (hb : 0 < b) : ∃ m, a.tmod b = m ∧ a.tdiv b * b = a - m ∧ (0 ≤ a → 0 ≤ m ∧ m < b) ∧ (a ≤ 0 → -b < m ∧ m ≤ 0) ∧
    (0 ≤ m → a / b = a.tdiv b) ∧ (m < 0 → a / b = a.tdiv b - 1) ∧ (m ≤ 0 → ceI a b = a.tdiv b) ∧ (0 < m → ceI a b = a.tdiv b + 1) ∧ (0 ≤ a → 0 ≤ a.tdiv b ∧ a.tdiv b ≤ a) ∧ (a ≤ 0 → a ≤ a.tdiv b ∧ a.tdiv b ≤ 0) := by
  have h1 := Int.mul_tdiv_add_tmod a b
  have key : ∀ t m : Int, b * t + m = a → 0 ≤ m → m < b → a / b = t := by
    intro t m h h0 hlt
    rw [← h, Int.mul_add_ediv_left _ _ (by omega), Int.ediv_eq_zero_of_lt h0 hlt]; omega
  have keyN : ∀ t m : Int, b * t + m = -a → 0 ≤ m → m < b → (-a) / b = t := by
    intro t m h h0 hlt
    rw [← h, Int.mul_add_ediv_left _ _ (by omega), Int.ediv_eq_zero_of_lt h0 hlt]; omega
  have hpos : 0 ≤ a → 0 ≤ a.tmod b ∧ a.tmod b < b := by
    intro ha
    rw [Int.tmod_eq_emod_of_nonneg ha]
    exact ⟨Int.emod_nonneg _ (by omega), Int.emod_lt_of_pos _ hb⟩
  have hneg : a ≤ 0 → -b < a.tmod b ∧ a.tmod b ≤ 0 := by
    intro ha
    have e : a.tmod b = -((-a).tmod b) := by rw [Int.neg_tmod]; omega
    rw [e, Int.tmod_eq_emod_of_nonneg (by omega)]
    have g1 := Int.emod_nonneg (-a) (show b ≠ 0 by omega)
    have g2 := Int.emod_lt_of_pos (-a) hb
    omega
  generalize a.tmod b = m at *
  generalize a.tdiv b = t at *
  have hbt : t * b = b * t := Int.mul_comm _ _
  have hbt1 : b * (t - 1) = b * t - b := by rw [Int.mul_sub, Int.mul_one]
  have hbt2 : b * (t + 1) = b * t + b := by rw [Int.mul_add, Int.mul_one]
  have hnt : b * (-t) = -(b * t) := by rw [Int.mul_neg]
  have hnt1 : b * (-t - 1) = -(b * t) - b := by rw [Int.mul_sub, Int.mul_neg, Int.mul_one]
  refine ⟨m, rfl, by omega, hpos, hneg, ?_, ?_, ?_, ?_, ?_, ?_⟩
  · intro hm
    by_cases ha : 0 ≤ a
    · exact key t m h1 hm (hpos ha).2
    · have := hneg (by omega); exact key t m h1 hm (by omega)
  · intro hm
    have : ¬ 0 ≤ a := fun ha => by have := hpos ha; omega
    have := hneg (by omega)
    exact key (t - 1) (b + m) (by omega) (by omega) (by omega)
  · intro hm
    have : (-a) / b = -t := by
      refine keyN (-t) (-m) (by omega) (by omega) ?_
      by_cases ha : 0 ≤ a
      · have := hpos ha; omega
      · have := hneg (by omega); omega
    unfold ceI; omega
  · intro hm
    have ha : 0 ≤ a := by
      by_cases ha : 0 ≤ a
      · exact ha
      · have := hneg (by omega); omega
    have := hpos ha
    have : (-a) / b = -t - 1 := keyN (-t - 1) (b - m) (by omega) (by omega) (by omega)
    unfold ceI; omega
  · intro ha
    have hm := hpos ha
    have h2 := key t m h1 hm.1 hm.2
    have g1 := Int.ediv_nonneg ha (show 0 ≤ b by omega)
    have g2 := Int.ediv_le_self b ha
    omega
  · intro ha
    have hm := hneg ha
    have h2 : (-a) / b = -t := keyN (-t) (-m) (by omega) (by omega) (by omega)
    have g1 := Int.ediv_nonneg (show 0 ≤ -a by omega) (show 0 ≤ b by omega)
    have g2 := Int.ediv_le_self b (show 0 ≤ -a by omega)
    omega

def S_qdown : Sx.Spec := fun l => match l with
  | [.agg [.x (.int .i64 a), .x (.int .i64 b)]] => some ([-4611686018427387904 ≤ a ∧ a ≤ 4611686018427387904, 1 ≤ b], i (a / b))
  | _ => none

set_option maxRecDepth 100000 in
theorem qdown_at (a b : Int) (pre0 : -4611686018427387904 ≤ a ∧ a ≤ 4611686018427387904) (pre1 : 1 ≤ b) : SoundAt Try.prog 83 [.agg [i a, i b]] (i (a / b)) := by
  refine soundAt_fin (G := []) (L := []) (SoundG.nil _) mixed Try.func83 (show Try.f83.body = some (bodyOf Try.f83) by kernel_rfl) noLoops (t := (Tree.branch (decide (a < (0 : Int))) (Tree.need [b ≠ (0 : Int)] (Tree.branch (Int.tmod a b != (0 : Int)) (Tree.need [b ≠ (0 : Int), inI64 (Int.tdiv a b)] (Tree.need [inI64 (Int.tdiv a b - (1 : Int))] (Tree.leaf (RV.x (Value.int IntKind.i64 (Int.tdiv a b - (1 : Int))))))) (Tree.need [b ≠ (0 : Int), inI64 (Int.tdiv a b)] (Tree.leaf (RV.x (Value.int IntKind.i64 (Int.tdiv a b))))))) (Tree.need [b ≠ (0 : Int), inI64 (Int.tdiv a b)] (Tree.leaf (RV.x (Value.int IntKind.i64 (Int.tdiv a b))))))) (by kernel_rfl) ?_
  obtain ⟨m, hm, h1, h2, h3, h4, h5, h6, h7, h8, h9⟩ := div_facts a b (by omega)
  simp only [Tree.sat, allP, fitP, fitL, valEq, inI64, true_and, and_true, decide_eq_true_eq, decide_eq_false_iff_not, hm, bne_iff_ne, ne_eq, bne_eq_false_iff_eq]
  omega
theorem qdown_ok : SoundSpec Try.prog 83 S_qdown := by
  refine ⟨⟨_, Try.func83, by kernel_rfl, by kernel_rfl⟩, ?_⟩
  intro avs ns res h hn
  unfold S_qdown at h
  split at h
  · cases h
    exact qdown_at _ _ (hn _ (by simp)) (hn _ (by simp))
  · cases h

def S_qup : Sx.Spec := fun l => match l with
  | [.agg [.x (.int .i64 a), .x (.int .i64 b)]] => some ([-4611686018427387904 ≤ a ∧ a ≤ 4611686018427387904, 1 ≤ b], i (ceI a b))
  | _ => none

set_option maxRecDepth 100000 in
theorem qup_at (a b : Int) (pre0 : -4611686018427387904 ≤ a ∧ a ≤ 4611686018427387904) (pre1 : 1 ≤ b) : SoundAt Try.prog 84 [.agg [i a, i b]] (i (ceI a b)) := by
  refine soundAt_fin (G := [(83, S_qdown)]) (L := []) (SoundG.cons qdown_ok (SoundG.nil _)) mixed Try.func84 (show Try.f84.body = some (bodyOf Try.f84) by kernel_rfl) noLoops (t := (Tree.need [inI64 (-a)] (Tree.need [(-4611686018427387904 : Int) ≤ -a ∧ -a ≤ (4611686018427387904 : Int), (1 : Int) ≤ b] (Tree.need [inI64 (-(-a / b))] (Tree.leaf (RV.x (Value.int IntKind.i64 (-(-a / b))))))))) (by kernel_rfl) ?_
  have hb : ceI a b = -((-a) / b) := rfl
  obtain ⟨m, hm, h1, h2, h3, h4, h5, h6, h7, h8, h9⟩ := div_facts (-a) b (by omega)
  simp only [Tree.sat, allP, fitP, fitL, valEq, inI64, true_and, and_true]
  omega
theorem qup_ok : SoundSpec Try.prog 84 S_qup := by
  refine ⟨⟨_, Try.func84, by kernel_rfl, by kernel_rfl⟩, ?_⟩
  intro avs ns res h hn
  unfold S_qup at h
  split at h
  · cases h
    exact qup_at _ _ (hn _ (by simp)) (hn _ (by simp))
  · cases h

def S_rFloor : Sx.Spec := fun l => match l with
  | [.x (.int .i64 a), .x (.int .i64 b)] => some ([-4611686018427387904 ≤ a ∧ a ≤ 4611686018427387904, 1 ≤ b ∧ b ≤ 4000000000000], i (a / b))
  | _ => none

set_option maxRecDepth 100000 in
theorem rFloor_at (a b : Int) (pre0 : -4611686018427387904 ≤ a ∧ a ≤ 4611686018427387904) (pre1 : 1 ≤ b ∧ b ≤ 4000000000000) : SoundAt Try.prog 57 [i a, i b] (i (a / b)) := by
  refine soundAt_fin (G := []) (L := [fun s => some (unrollT Try.prog [] [] (loopBody (loopAt (bodyOf Try.f57) 0)) 2 s)]) (SoundG.nil _) mixed Try.func57 (show Try.f57.body = some (bodyOf Try.f57) by kernel_rfl) (one_loop (fun cj hcj => by
    have e : loopAt (bodyOf Try.f57) 0 = some (.loop (loopBody (loopAt (bodyOf Try.f57) 0))) := by kernel_rfl
    rw [e] at hcj; cases hcj
    exact unroll_sound (SoundG.nil _) mixed noLoops _)) (t := (Tree.need [b ≠ (0 : Int), inI64 (Int.tdiv a b)] (Tree.need [inI64 (Int.tdiv a b * b)] (Tree.branch (decide (Int.tdiv a b * b > a)) (Tree.need [inI64 (Int.tdiv a b - (1 : Int))] (Tree.need [inI64 ((Int.tdiv a b - (1 : Int)) * b)] (Tree.branch (decide ((Int.tdiv a b - (1 : Int)) * b > a)) (Tree.need [inI64 (Int.tdiv a b - (1 : Int) - (1 : Int))] Tree.fail) (Tree.leaf (RV.x (Value.int IntKind.i64 (Int.tdiv a b - (1 : Int)))))))) (Tree.leaf (RV.x (Value.int IntKind.i64 (Int.tdiv a b)))))))) (by kernel_rfl) ?_
  obtain ⟨m, hm, h1, h2, h3, h4, h5, h6, h7, h8, h9⟩ := div_facts a b (by omega)
  have e1 : (a.tdiv b - 1) * b = a.tdiv b * b - b := by rw [Int.sub_mul, Int.one_mul]
  have e2 : (a.tdiv b + 1) * b = a.tdiv b * b + b := by rw [Int.add_mul, Int.one_mul]
  simp only [Tree.sat, allP, fitP, fitL, valEq, inI64, true_and, and_true, decide_eq_true_eq, decide_eq_false_iff_not, e1, e2]
  omega
theorem rFloor_ok : SoundSpec Try.prog 57 S_rFloor := by
  refine ⟨⟨_, Try.func57, by kernel_rfl, by kernel_rfl⟩, ?_⟩
  intro avs ns res h hn
  unfold S_rFloor at h
  split at h
  · cases h
    exact rFloor_at _ _ (hn _ (by simp)) (hn _ (by simp))
  · cases h

def S_rCeil : Sx.Spec := fun l => match l with
  | [.x (.int .i64 a), .x (.int .i64 b)] => some ([-4611686018427387904 ≤ a ∧ a ≤ 4611686018427387904, 1 ≤ b ∧ b ≤ 4000000000000], i (ceI a b))
  | _ => none

set_option maxRecDepth 100000 in
theorem rCeil_at (a b : Int) (pre0 : -4611686018427387904 ≤ a ∧ a ≤ 4611686018427387904) (pre1 : 1 ≤ b ∧ b ≤ 4000000000000) : SoundAt Try.prog 72 [i a, i b] (i (ceI a b)) := by
  refine soundAt_fin (G := []) (L := [fun s => some (unrollT Try.prog [] [] (loopBody (loopAt (bodyOf Try.f72) 0)) 2 s)]) (SoundG.nil _) mixed Try.func72 (show Try.f72.body = some (bodyOf Try.f72) by kernel_rfl) (one_loop (fun cj hcj => by
    have e : loopAt (bodyOf Try.f72) 0 = some (.loop (loopBody (loopAt (bodyOf Try.f72) 0))) := by kernel_rfl
    rw [e] at hcj; cases hcj
    exact unroll_sound (SoundG.nil _) mixed noLoops _)) (t := (Tree.need [b ≠ (0 : Int), inI64 (Int.tdiv a b)] (Tree.need [inI64 (Int.tdiv a b * b)] (Tree.branch (decide (Int.tdiv a b * b < a)) (Tree.need [inI64 (Int.tdiv a b + (1 : Int))] (Tree.need [inI64 ((Int.tdiv a b + (1 : Int)) * b)] (Tree.branch (decide ((Int.tdiv a b + (1 : Int)) * b < a)) (Tree.need [inI64 (Int.tdiv a b + (1 : Int) + (1 : Int))] Tree.fail) (Tree.leaf (RV.x (Value.int IntKind.i64 (Int.tdiv a b + (1 : Int)))))))) (Tree.leaf (RV.x (Value.int IntKind.i64 (Int.tdiv a b)))))))) (by kernel_rfl) ?_
  obtain ⟨m, hm, h1, h2, h3, h4, h5, h6, h7, h8, h9⟩ := div_facts a b (by omega)
  have e1 : (a.tdiv b - 1) * b = a.tdiv b * b - b := by rw [Int.sub_mul, Int.one_mul]
  have e2 : (a.tdiv b + 1) * b = a.tdiv b * b + b := by rw [Int.add_mul, Int.one_mul]
  simp only [Tree.sat, allP, fitP, fitL, valEq, inI64, true_and, and_true, decide_eq_true_eq, decide_eq_false_iff_not, e1, e2]
  omega
theorem rCeil_ok : SoundSpec Try.prog 72 S_rCeil := by
  refine ⟨⟨_, Try.func72, by kernel_rfl, by kernel_rfl⟩, ?_⟩
  intro avs ns res h hn
  unfold S_rCeil at h
  split at h
  · cases h
    exact rCeil_at _ _ (hn _ (by simp)) (hn _ (by simp))
  · cases h

def S_pdown : Sx.Spec := fun l => match l with
  | [] => some ([], .agg [.fn (.func 83) [] []])
  | _ => none

set_option maxRecDepth 100000 in
theorem pdown_at  : SoundAt Try.prog 67 [] (.agg [.fn (.func 83) [] []]) := by
  refine soundAt_fin (G := []) (L := []) (SoundG.nil _) mixed Try.func67 (show Try.f67.body = some (bodyOf Try.f67) by kernel_rfl) noLoops (t := (Tree.leaf (RV.agg [RV.fn (Fn.func 83)]))) (by kernel_rfl) ?_
  simp only [Tree.sat, allP, fitP, fitL, valEq, inI64, true_and, and_true]
  all_goals first | omega | grind
theorem pdown_ok : SoundSpec Try.prog 67 S_pdown := by
  refine ⟨⟨_, Try.func67, by kernel_rfl, by kernel_rfl⟩, ?_⟩
  intro avs ns res h hn
  unfold S_pdown at h
  split at h
  · cases h
    exact pdown_at 
  · cases h

def S_pup : Sx.Spec := fun l => match l with
  | [] => some ([], .agg [.fn (.func 84) [] []])
  | _ => none

set_option maxRecDepth 100000 in
theorem pup_at  : SoundAt Try.prog 68 [] (.agg [.fn (.func 84) [] []]) := by
  refine soundAt_fin (G := []) (L := []) (SoundG.nil _) mixed Try.func68 (show Try.f68.body = some (bodyOf Try.f68) by kernel_rfl) noLoops (t := (Tree.leaf (RV.agg [RV.fn (Fn.func 84)]))) (by kernel_rfl) ?_
  simp only [Tree.sat, allP, fitP, fitL, valEq, inI64, true_and, and_true]
  all_goals first | omega | grind
theorem pup_ok : SoundSpec Try.prog 68 S_pup := by
  refine ⟨⟨_, Try.func68, by kernel_rfl, by kernel_rfl⟩, ?_⟩
  intro avs ns res h hn
  unfold S_pup at h
  split at h
  · cases h
    exact pup_at 
  · cases h

set_option maxRecDepth 100000 in
theorem sMin_at (a b : Int) : SoundAt Try.prog 81 [.lst 1 2 (fun k => [i (if k = 0 then a else b)])] (i (min a b)) := by
  refine soundAt_fin (G := []) (L := [fun s => some (unrollT Try.prog [] [] (loopBody (loopAt (bodyOf Try.f81) 0)) 3 s)]) (SoundG.nil _) mixed Try.func81 (show Try.f81.body = some (bodyOf Try.f81) by kernel_rfl) (one_loop (fun cj hcj => by
    have e : loopAt (bodyOf Try.f81) 0 = some (.loop (loopBody (loopAt (bodyOf Try.f81) 0))) := by kernel_rfl
    rw [e] at hcj; cases hcj
    exact unroll_sound (SoundG.nil _) mixed noLoops _)) (t := (Tree.branch (decide ((↑(2 : Nat) : Int) < (1 : Int))) Tree.fail (Tree.need [(0 : Int) ≤ (0 : Int) ∧ (0 : Int) < (↑(2 : Nat) : Int)] (Tree.branch (decide ((1 : Int) < (↑(2 : Nat) : Int))) (Tree.need [(0 : Int) ≤ (1 : Int) ∧ (1 : Int) < (↑(2 : Nat) : Int)] (Tree.need [inI64 ((1 : Int) + (1 : Int))] (Tree.branch (decide ((1 : Int) + (1 : Int) < (↑(2 : Nat) : Int))) (Tree.need [(0 : Int) ≤ (1 : Int) + (1 : Int) ∧ (1 : Int) + (1 : Int) < (↑(2 : Nat) : Int)] (Tree.need [inI64 ((1 : Int) + (1 : Int) + (1 : Int))] (Tree.branch (decide ((1 : Int) + (1 : Int) + (1 : Int) < (↑(2 : Nat) : Int))) (Tree.need [(0 : Int) ≤ (1 : Int) + (1 : Int) + (1 : Int) ∧ (1 : Int) + (1 : Int) + (1 : Int) < (↑(2 : Nat) : Int)] (Tree.need [inI64 ((1 : Int) + (1 : Int) + (1 : Int) + (1 : Int))] Tree.fail)) (Tree.leaf (RV.x (Value.int IntKind.i64 (min (min (if Int.toNat (0 : Int) = 0 then a else b) (if Int.toNat (1 : Int) = 0 then a else b)) (if Int.toNat ((1 : Int) + (1 : Int)) = 0 then a else b)))))))) (Tree.leaf (RV.x (Value.int IntKind.i64 (min (if Int.toNat (0 : Int) = 0 then a else b) (if Int.toNat (1 : Int) = 0 then a else b)))))))) (Tree.leaf (RV.x (Value.int IntKind.i64 (if Int.toNat (0 : Int) = 0 then a else b)))))))) (by kernel_rfl) ?_
  simp [Tree.sat, allP, fitP, fitL, valEq, inI64]

set_option maxRecDepth 100000 in
theorem sMax_at (a b : Int) : SoundAt Try.prog 82 [.lst 1 2 (fun k => [i (if k = 0 then a else b)])] (i (max a b)) := by
  refine soundAt_fin (G := []) (L := [fun s => some (unrollT Try.prog [] [] (loopBody (loopAt (bodyOf Try.f82) 0)) 3 s)]) (SoundG.nil _) mixed Try.func82 (show Try.f82.body = some (bodyOf Try.f82) by kernel_rfl) (one_loop (fun cj hcj => by
    have e : loopAt (bodyOf Try.f82) 0 = some (.loop (loopBody (loopAt (bodyOf Try.f82) 0))) := by kernel_rfl
    rw [e] at hcj; cases hcj
    exact unroll_sound (SoundG.nil _) mixed noLoops _)) (t := (Tree.branch (decide ((↑(2 : Nat) : Int) < (1 : Int))) Tree.fail (Tree.need [(0 : Int) ≤ (0 : Int) ∧ (0 : Int) < (↑(2 : Nat) : Int)] (Tree.branch (decide ((1 : Int) < (↑(2 : Nat) : Int))) (Tree.need [(0 : Int) ≤ (1 : Int) ∧ (1 : Int) < (↑(2 : Nat) : Int)] (Tree.need [inI64 ((1 : Int) + (1 : Int))] (Tree.branch (decide ((1 : Int) + (1 : Int) < (↑(2 : Nat) : Int))) (Tree.need [(0 : Int) ≤ (1 : Int) + (1 : Int) ∧ (1 : Int) + (1 : Int) < (↑(2 : Nat) : Int)] (Tree.need [inI64 ((1 : Int) + (1 : Int) + (1 : Int))] (Tree.branch (decide ((1 : Int) + (1 : Int) + (1 : Int) < (↑(2 : Nat) : Int))) (Tree.need [(0 : Int) ≤ (1 : Int) + (1 : Int) + (1 : Int) ∧ (1 : Int) + (1 : Int) + (1 : Int) < (↑(2 : Nat) : Int)] (Tree.need [inI64 ((1 : Int) + (1 : Int) + (1 : Int) + (1 : Int))] Tree.fail)) (Tree.leaf (RV.x (Value.int IntKind.i64 (max (max (if Int.toNat (0 : Int) = 0 then a else b) (if Int.toNat (1 : Int) = 0 then a else b)) (if Int.toNat ((1 : Int) + (1 : Int)) = 0 then a else b)))))))) (Tree.leaf (RV.x (Value.int IntKind.i64 (max (if Int.toNat (0 : Int) = 0 then a else b) (if Int.toNat (1 : Int) = 0 then a else b)))))))) (Tree.leaf (RV.x (Value.int IntKind.i64 (if Int.toNat (0 : Int) = 0 then a else b)))))))) (by kernel_rfl) ?_
  simp [Tree.sat, allP, fitP, fitL, valEq, inI64]

end Go.Proofs.Ytchcegfhamngkaa
/- Contracts of functions of the program, by the engine Sx: what each call comes to. Printed by a program of this repo (sxgen.py). -/
set_option linter.unusedSimpArgs false
set_option linter.unusedVariables false
namespace Go.Proofs.Ytchcegfhamngkaa
open Go Go.Sx Go.RowKit

def S_sMin : Sx.Spec := fun l => match l with
  | [.lst 1 2 f] => (match f 0, f 1 with
    | [.x (.int .i64 a)], [.x (.int .i64 b)] => some ([], i (min a b))
    | _, _ => none)
  | _ => none


theorem sMin_ok : SoundSpec Try.prog 81 S_sMin := by
  refine ⟨⟨_, Try.func81, by kernel_rfl, by kernel_rfl⟩, ?_⟩
  intro avs ns res h hn
  unfold S_sMin at h
  split at h
  · rename_i f
    split at h
    · rename_i a b h0 h1
      cases h
      refine (sMin_at a b).same (.cons (.lst 1 2 _ _ ?_) .nil)
      intro k hk
      rcases (show k = 0 ∨ k = 1 by omega) with rfl | rfl
      · exact h0
      · exact h1
    · cases h
  · cases h


def S_sMax : Sx.Spec := fun l => match l with
  | [.lst 1 2 f] => (match f 0, f 1 with
    | [.x (.int .i64 a)], [.x (.int .i64 b)] => some ([], i (max a b))
    | _, _ => none)
  | _ => none


theorem sMax_ok : SoundSpec Try.prog 82 S_sMax := by
  refine ⟨⟨_, Try.func82, by kernel_rfl, by kernel_rfl⟩, ?_⟩
  intro avs ns res h hn
  unfold S_sMax at h
  split at h
  · rename_i f
    split at h
    · rename_i a b h0 h1
      cases h
      refine (sMax_at a b).same (.cons (.lst 1 2 _ _ ?_) .nil)
      intro k hk
      rcases (show k = 0 ∨ k = 1 by omega) with rfl | rfl
      · exact h0
      · exact h1
    · cases h
  · cases h

set_option maxRecDepth 100000 in
theorem least_at (a b : Int) : SoundAt Try.prog 65 [.lst 1 2 (fun k => [i (if k = 0 then a else b)])] (i (min a b)) := by
  refine soundAt_fin (G := [(81, S_sMin)]) (L := []) (SoundG.cons sMin_ok (SoundG.nil _)) mixed Try.func65 (show Try.f65.body = some (bodyOf Try.f65) by kernel_rfl) noLoops (t := (Tree.leaf (RV.x (Value.int IntKind.i64 (min (if 0 = 0 then a else b) (if 1 = 0 then a else b)))))) (by kernel_rfl) ?_
  simp [Tree.sat, fitP, valEq]


def S_least : Sx.Spec := S_sMin


theorem least_ok : SoundSpec Try.prog 65 S_least := by
  refine ⟨⟨_, Try.func65, by kernel_rfl, by kernel_rfl⟩, ?_⟩
  intro avs ns res h hn
  unfold S_least S_sMin at h
  split at h
  · rename_i f
    split at h
    · rename_i a b h0 h1
      cases h
      refine (least_at a b).same (.cons (.lst 1 2 _ _ ?_) .nil)
      intro k hk
      rcases (show k = 0 ∨ k = 1 by omega) with rfl | rfl
      · exact h0
      · exact h1
    · cases h
  · cases h

set_option maxRecDepth 100000 in
theorem greatest_at (a b : Int) : SoundAt Try.prog 66 [.lst 1 2 (fun k => [i (if k = 0 then a else b)])] (i (max a b)) := by
  refine soundAt_fin (G := [(82, S_sMax)]) (L := []) (SoundG.cons sMax_ok (SoundG.nil _)) mixed Try.func66 (show Try.f66.body = some (bodyOf Try.f66) by kernel_rfl) noLoops (t := (Tree.leaf (RV.x (Value.int IntKind.i64 (max (if 0 = 0 then a else b) (if 1 = 0 then a else b)))))) (by kernel_rfl) ?_
  simp [Tree.sat, fitP, valEq]


def S_greatest : Sx.Spec := S_sMax


theorem greatest_ok : SoundSpec Try.prog 66 S_greatest := by
  refine ⟨⟨_, Try.func66, by kernel_rfl, by kernel_rfl⟩, ?_⟩
  intro avs ns res h hn
  unfold S_greatest S_sMax at h
  split at h
  · rename_i f
    split at h
    · rename_i a b h0 h1
      cases h
      refine (greatest_at a b).same (.cons (.lst 1 2 _ _ ?_) .nil)
      intro k hk
      rcases (show k = 0 ∨ k = 1 by omega) with rfl | rfl
      · exact h0
      · exact h1
    · cases h
  · cases h

def S_rod : Sx.Spec := fun l => match l with
  | [.agg [.x (.int .i64 a), .x (.int .i64 b)]] => some ([-1000 ≤ a ∧ a ≤ 1000 ∧ -1000 ≤ b ∧ b ≤ 1000], .agg [i a, i b, i (sizeI a b)])
  | _ => none

set_option maxRecDepth 100000 in
theorem rod_at (a b : Int) (pre0 : -1000 ≤ a ∧ a ≤ 1000 ∧ -1000 ≤ b ∧ b ≤ 1000) : SoundAt Try.prog 63 [.agg [i a, i b]] (.agg [i a, i b, i (sizeI a b)]) := by
  refine soundAt_fin (G := [(66, S_greatest)]) (L := []) (SoundG.cons greatest_ok (SoundG.nil _)) mixed Try.func63 (show Try.f63.body = some (bodyOf Try.f63) by kernel_rfl) noLoops (t := (Tree.need [inI64 (b - a)] (Tree.need [inI64 (-(b - a))] (Tree.need [inI64 ((2 : Int) * max (b - a) (-(b - a)))] (Tree.leaf (RV.agg [RV.x (Value.int IntKind.i64 a), RV.x (Value.int IntKind.i64 b), RV.x (Value.int IntKind.i64 ((2 : Int) * max (b - a) (-(b - a))))])))))) (by kernel_rfl) ?_
  simp only [Tree.sat, allP, fitP, fitL, valEq, inI64, true_and, and_true, sizeI]
  split <;> omega
theorem rod_ok : SoundSpec Try.prog 63 S_rod := by
  refine ⟨⟨_, Try.func63, by kernel_rfl, by kernel_rfl⟩, ?_⟩
  intro avs ns res h hn
  unfold S_rod at h
  split at h
  · cases h
    exact rod_at _ _ (hn _ (by simp))
  · cases h

def S_heights : Sx.Spec := fun l => match l with
  | [.agg [.x (.int .i64 a), .x (.int .i64 b), .x (.int .i64 c)], .agg [.x (.int .i64 lo), .x (.int .i64 hi)]] => some ([-1000 ≤ a ∧ a ≤ 1000 ∧ -1000 ≤ b ∧ b ≤ 1000 ∧ a ≠ b, -100000000 ≤ lo ∧ lo ≤ hi ∧ hi ≤ 100000000], .agg [i (alLo a b lo hi), i (alHi a b lo hi)])
  | _ => none

set_option maxRecDepth 100000 in
theorem heights_at (a b c lo hi : Int) (pre0 : -1000 ≤ a ∧ a ≤ 1000 ∧ -1000 ≤ b ∧ b ≤ 1000 ∧ a ≠ b) (pre1 : -100000000 ≤ lo ∧ lo ≤ hi ∧ hi ≤ 100000000) : SoundAt Try.prog 64 [.agg [i a, i b, i c], .agg [i lo, i hi]] (.agg [i (alLo a b lo hi), i (alHi a b lo hi)]) := by
  refine soundAt_fin (G := []) (L := []) (SoundG.nil _) mixed Try.func64 (show Try.f64.body = some (bodyOf Try.f64) by kernel_rfl) noLoops (t := (Tree.need [inI64 ((2 : Int) * lo)] (Tree.need [inI64 ((2 : Int) * lo - (1 : Int))] (Tree.need [inI64 ((2 : Int) * a)] (Tree.need [inI64 ((2 : Int) * lo - (1 : Int) - (2 : Int) * a)] (Tree.need [inI64 ((2 : Int) * hi)] (Tree.need [inI64 ((2 : Int) * hi + (1 : Int))] (Tree.need [inI64 ((2 : Int) * a)] (Tree.need [inI64 ((2 : Int) * hi + (1 : Int) - (2 : Int) * a)] (Tree.branch (decide (b < a)) (Tree.need [inI64 (-((2 : Int) * hi + (1 : Int) - (2 : Int) * a))] (Tree.need [inI64 (-((2 : Int) * lo - (1 : Int) - (2 : Int) * a))] (Tree.leaf (RV.agg [RV.x (Value.int IntKind.i64 (-((2 : Int) * hi + (1 : Int) - (2 : Int) * a))), RV.x (Value.int IntKind.i64 (-((2 : Int) * lo - (1 : Int) - (2 : Int) * a)))])))) (Tree.leaf (RV.agg [RV.x (Value.int IntKind.i64 ((2 : Int) * lo - (1 : Int) - (2 : Int) * a)), RV.x (Value.int IntKind.i64 ((2 : Int) * hi + (1 : Int) - (2 : Int) * a))])))))))))))) (by kernel_rfl) ?_
  simp only [Tree.sat, allP, fitP, fitL, valEq, inI64, true_and, and_true, alLo, alHi, decide_eq_true_eq, decide_eq_false_iff_not]
  split <;> omega
theorem heights_ok : SoundSpec Try.prog 64 S_heights := by
  refine ⟨⟨_, Try.func64, by kernel_rfl, by kernel_rfl⟩, ?_⟩
  intro avs ns res h hn
  unfold S_heights at h
  split at h
  · cases h
    exact heights_at _ _ _ _ _ (hn _ (by simp)) (hn _ (by simp))
  · cases h


theorem sizeI_pos {a b : Int} (h : a ≠ b) : 2 ≤ sizeI a b := by unfold sizeI; split <;> omega
theorem sizeI_le {a b : Int} (h : -1000 ≤ a ∧ a ≤ 1000 ∧ -1000 ≤ b ∧ b ≤ 1000) : sizeI a b ≤ 4000 := by unfold sizeI; split <;> omega
theorem al_bd {a b lo hi : Int} (h : -1000 ≤ a ∧ a ≤ 1000 ∧ -1000 ≤ b ∧ b ≤ 1000) (k : -100000000 ≤ lo ∧ lo ≤ hi ∧ hi ≤ 100000000) : -300000000 ≤ alLo a b lo hi ∧ alLo a b lo hi < alHi a b lo hi ∧ alHi a b lo hi ≤ 300000000 := by
  unfold alLo alHi; split <;> omega


theorem mul_bd {x y X Y : Int} (hx : -X ≤ x ∧ x ≤ X) (hy : -Y ≤ y ∧ y ≤ Y) : -(X * Y) ≤ x * y ∧ x * y ≤ X * Y := by
  have h1 : x.natAbs ≤ X.natAbs := by omega
  have h2 : y.natAbs ≤ Y.natAbs := by omega
  have h3 : (x * y).natAbs ≤ (X * Y).natAbs := by rw [Int.natAbs_mul, Int.natAbs_mul]; exact Nat.mul_le_mul h1 h2
  have h4 : 0 ≤ X * Y := Int.mul_nonneg (by omega) (by omega)
  omega
theorem div_bd {n d N : Int} (hd : 1 ≤ d) (h : -N ≤ n ∧ n ≤ N) : -N ≤ n / d ∧ n / d ≤ N := by
  have hN : 0 ≤ N := by omega
  have hm : N * 1 ≤ N * d := Int.mul_le_mul_of_nonneg_left hd hN
  constructor
  · rw [Int.le_ediv_iff_mul_le (by omega), Int.neg_mul]; omega
  · exact Int.ediv_le_of_le_mul (by omega) (by omega)
theorem ce_bd {n d N : Int} (hd : 1 ≤ d) (h : -N ≤ n ∧ n ≤ N) : -N ≤ ceI n d ∧ ceI n d ≤ N := by
  have := div_bd (n := -n) hd (show -N ≤ -n ∧ -n ≤ N by omega)
  unfold ceI; omega
/-- What can stand on the scale c, d for readings lo to hi on the scale a, b. -/
def stA (a b c d lo hi : Int) : Int := min (alLo a b lo hi * (d - c)) (alHi a b lo hi * (d - c)) - sizeI a b / 2
def stB (a b c d lo hi : Int) : Int := max (alLo a b lo hi * (d - c)) (alHi a b lo hi * (d - c)) + sizeI a b / 2
def stLo (a b c d lo hi : Int) : Int := c + ceI (stA a b c d lo hi) (sizeI a b)
def stHi (a b c d lo hi : Int) : Int := c + stB a b c d lo hi / sizeI a b
theorem scB_bd {a b : Int} (h : scB a b = true) : -1000 ≤ a ∧ a ≤ 1000 ∧ -1000 ≤ b ∧ b ≤ 1000 ∧ a ≠ b := (scB_iff a b).1 h
theorem st_bd {a b c d lo hi : Int} (h : -1000 ≤ a ∧ a ≤ 1000 ∧ -1000 ≤ b ∧ b ≤ 1000 ∧ a ≠ b) (k : -1000 ≤ c ∧ c ≤ 1000 ∧ -1000 ≤ d ∧ d ≤ 1000 ∧ c ≠ d) (r : -1000000 ≤ lo ∧ lo ≤ hi ∧ hi ≤ 1000000) :
    (-8000000000 ≤ alLo a b lo hi * (d - c) ∧ alLo a b lo hi * (d - c) ≤ 8000000000) ∧ (-8000000000 ≤ alHi a b lo hi * (d - c) ∧ alHi a b lo hi * (d - c) ≤ 8000000000) ∧ (2 ≤ sizeI a b ∧ sizeI a b ≤ 4000) ∧
    (-9000000000 ≤ stA a b c d lo hi ∧ stA a b c d lo hi ≤ 9000000000) ∧ (-9000000000 ≤ stB a b c d lo hi ∧ stB a b c d lo hi ≤ 9000000000) ∧
    (-10000000000 ≤ stLo a b c d lo hi ∧ stLo a b c d lo hi ≤ 10000000000) ∧ (-10000000000 ≤ stHi a b c d lo hi ∧ stHi a b c d lo hi ≤ 10000000000) := by
  have e1 : -4000000 ≤ alLo a b lo hi ∧ alLo a b lo hi ≤ 4000000 := by unfold alLo; split <;> omega
  have e2 : -4000000 ≤ alHi a b lo hi ∧ alHi a b lo hi ≤ 4000000 := by unfold alHi; split <;> omega
  have e3 : -2000 ≤ d - c ∧ d - c ≤ 2000 := by omega
  have m1 := mul_bd e1 e3
  have m2 := mul_bd e2 e3
  have s1 := sizeI_pos h.2.2.2.2
  have s2 := sizeI_le (a := a) (b := b) (by omega)
  have hA : -9000000000 ≤ stA a b c d lo hi ∧ stA a b c d lo hi ≤ 9000000000 := by unfold stA; omega
  have hB : -9000000000 ≤ stB a b c d lo hi ∧ stB a b c d lo hi ≤ 9000000000 := by unfold stB; omega
  have hC := ce_bd (d := sizeI a b) (by omega) hA
  have hD := div_bd (d := sizeI a b) (by omega) hB
  refine ⟨by omega, by omega, by omega, hA, hB, ?_, ?_⟩
  · unfold stLo; omega
  · unfold stHi; omega
def hgOk (a b lo hi : Int) : Bool := scB a b && insB (-1000000) lo hi 1000000
def hgErr (a b lo hi : Int) : Int := if scB a b then (if insB (-1000000) lo hi 1000000 then 0 else 2) else 1
def hgLo (a b lo hi : Int) : Int := 1000 * alLo a b lo hi / sizeI a b
def hgHi (a b lo hi : Int) : Int := ceI (1000 * alHi a b lo hi) (sizeI a b)

def S_pHeights : Sx.Spec := fun l => match l with
  | [.agg [.x (.int .i64 a), .x (.int .i64 b)], .agg [.x (.int .i64 lo), .x (.int .i64 hi)]] => some ([], .tup [.agg [i (if hgOk a b lo hi then hgLo a b lo hi else 0), i (if hgOk a b lo hi then hgHi a b lo hi else 0)], i (hgErr a b lo hi)])
  | _ => none

set_option maxRecDepth 100000 in
theorem pHeights_at (a b lo hi : Int) : SoundAt Try.prog 36 [.agg [i a, i b], .agg [i lo, i hi]] (.tup [.agg [i (if hgOk a b lo hi then hgLo a b lo hi else 0), i (if hgOk a b lo hi then hgHi a b lo hi else 0)], i (hgErr a b lo hi)]) := by
  refine soundAt_fin (G := [(53, S_valid), (54, S_readings), (63, S_rod), (64, S_heights), (67, S_pdown), (68, S_pup), (83, S_qdown), (84, S_qup)]) (L := []) (SoundG.cons valid_ok (SoundG.cons readings_ok (SoundG.cons rod_ok (SoundG.cons heights_ok (SoundG.cons pdown_ok (SoundG.cons pup_ok (SoundG.cons qdown_ok (SoundG.cons qup_ok (SoundG.nil _))))))))) mixed Try.func36 (show Try.f36.body = some (bodyOf Try.f36) by kernel_rfl) noLoops (t := (Tree.branch (!scB a b) (Tree.leaf (RV.tup [RV.agg [RV.x (Value.int IntKind.i64 (0 : Int)), RV.x (Value.int IntKind.i64 (0 : Int))], RV.x (Value.int IntKind.i64 (1 : Int))])) (Tree.branch (!insB (-1000000 : Int) lo hi (1000000 : Int)) (Tree.leaf (RV.tup [RV.agg [RV.x (Value.int IntKind.i64 (0 : Int)), RV.x (Value.int IntKind.i64 (0 : Int))], RV.x (Value.int IntKind.i64 (2 : Int))])) (Tree.need [(-1000 : Int) ≤ a ∧ a ≤ (1000 : Int) ∧ (-1000 : Int) ≤ b ∧ b ≤ (1000 : Int)] (Tree.need [(-1000 : Int) ≤ a ∧ a ≤ (1000 : Int) ∧ (-1000 : Int) ≤ b ∧ b ≤ (1000 : Int) ∧ a ≠ b, (-100000000 : Int) ≤ lo ∧ lo ≤ hi ∧ hi ≤ (100000000 : Int)] (Tree.need [inI64 ((1000 : Int) * alLo a b lo hi)] (Tree.need [(-4611686018427387904 : Int) ≤ (1000 : Int) * alLo a b lo hi ∧ (1000 : Int) * alLo a b lo hi ≤ (4611686018427387904 : Int), (1 : Int) ≤ sizeI a b] (Tree.need [inI64 ((1000 : Int) * alHi a b lo hi)] (Tree.need [(-4611686018427387904 : Int) ≤ (1000 : Int) * alHi a b lo hi ∧ (1000 : Int) * alHi a b lo hi ≤ (4611686018427387904 : Int), (1 : Int) ≤ sizeI a b] (Tree.leaf (RV.tup [RV.agg [RV.x (Value.int IntKind.i64 ((1000 : Int) * alLo a b lo hi / sizeI a b)), RV.x (Value.int IntKind.i64 (ceI ((1000 : Int) * alHi a b lo hi) (sizeI a b)))], RV.x (Value.int IntKind.i64 (0 : Int))]))))))))))) (by kernel_rfl) ?_
  unfold hgOk hgErr
  cases h1 : scB a b
  · simp [Tree.sat, fitP, fitL, valEq]
  cases h2 : insB (-1000000) lo hi 1000000
  · simp [Tree.sat, fitP, fitL, valEq]
  have e1 := scB_bd h1
  have e2 := (insB_iff _ _ _ _).1 h2
  have e3 := al_bd (a := a) (b := b) (lo := lo) (hi := hi) (by omega) (by omega)
  have e4 := sizeI_pos e1.2.2.2.2
  simp [Tree.sat, allP, fitP, fitL, valEq, inI64, hgLo, hgHi]
  omega
theorem pHeights_ok : SoundSpec Try.prog 36 S_pHeights := by
  refine ⟨⟨_, Try.func36, by kernel_rfl, by kernel_rfl⟩, ?_⟩
  intro avs ns res h hn
  unfold S_pHeights at h
  split at h
  · cases h
    exact pHeights_at _ _ _ _
  · cases h

def S_stand : Sx.Spec := fun l => match l with
  | [.agg [.x (.int .i64 a), .x (.int .i64 b)], .agg [.x (.int .i64 c), .x (.int .i64 d)], .agg [.x (.int .i64 lo), .x (.int .i64 hi)]] => some ([-1000 ≤ a ∧ a ≤ 1000 ∧ -1000 ≤ b ∧ b ≤ 1000 ∧ a ≠ b, -1000 ≤ c ∧ c ≤ 1000 ∧ -1000 ≤ d ∧ d ≤ 1000 ∧ c ≠ d, -1000000 ≤ lo ∧ lo ≤ hi ∧ hi ≤ 1000000], .agg [i (stLo a b c d lo hi), i (stHi a b c d lo hi)])
  | _ => none

set_option maxRecDepth 100000 in
theorem stand_at (a b c d lo hi : Int) (pre0 : -1000 ≤ a ∧ a ≤ 1000 ∧ -1000 ≤ b ∧ b ≤ 1000 ∧ a ≠ b) (pre1 : -1000 ≤ c ∧ c ≤ 1000 ∧ -1000 ≤ d ∧ d ≤ 1000 ∧ c ≠ d) (pre2 : -1000000 ≤ lo ∧ lo ≤ hi ∧ hi ≤ 1000000) : SoundAt Try.prog 56 [.agg [i a, i b], .agg [i c, i d], .agg [i lo, i hi]] (.agg [i (stLo a b c d lo hi), i (stHi a b c d lo hi)]) := by
  refine soundAt_fin (G := [(63, S_rod), (64, S_heights), (65, S_least), (66, S_greatest), (67, S_pdown), (68, S_pup), (83, S_qdown), (84, S_qup)]) (L := []) (SoundG.cons rod_ok (SoundG.cons heights_ok (SoundG.cons least_ok (SoundG.cons greatest_ok (SoundG.cons pdown_ok (SoundG.cons pup_ok (SoundG.cons qdown_ok (SoundG.cons qup_ok (SoundG.nil _))))))))) mixed Try.func56 (show Try.f56.body = some (bodyOf Try.f56) by kernel_rfl) noLoops (t := (Tree.need [(-1000 : Int) ≤ a ∧ a ≤ (1000 : Int) ∧ (-1000 : Int) ≤ b ∧ b ≤ (1000 : Int)] (Tree.need [(-1000 : Int) ≤ a ∧ a ≤ (1000 : Int) ∧ (-1000 : Int) ≤ b ∧ b ≤ (1000 : Int) ∧ a ≠ b, (-100000000 : Int) ≤ lo ∧ lo ≤ hi ∧ hi ≤ (100000000 : Int)] (Tree.need [inI64 (d - c)] (Tree.need [inI64 (alLo a b lo hi * (d - c))] (Tree.need [inI64 (alHi a b lo hi * (d - c))] (Tree.need [(2 : Int) ≠ (0 : Int), inI64 (Int.tdiv (sizeI a b) (2 : Int))] (Tree.need [inI64 (min (alLo a b lo hi * (d - c)) (alHi a b lo hi * (d - c)) - Int.tdiv (sizeI a b) (2 : Int))] (Tree.need [(-4611686018427387904 : Int) ≤ min (alLo a b lo hi * (d - c)) (alHi a b lo hi * (d - c)) - Int.tdiv (sizeI a b) (2 : Int) ∧ min (alLo a b lo hi * (d - c)) (alHi a b lo hi * (d - c)) - Int.tdiv (sizeI a b) (2 : Int) ≤ (4611686018427387904 : Int), (1 : Int) ≤ sizeI a b] (Tree.need [inI64 (c + ceI (min (alLo a b lo hi * (d - c)) (alHi a b lo hi * (d - c)) - Int.tdiv (sizeI a b) (2 : Int)) (sizeI a b))] (Tree.need [inI64 (max (alLo a b lo hi * (d - c)) (alHi a b lo hi * (d - c)) + Int.tdiv (sizeI a b) (2 : Int))] (Tree.need [(-4611686018427387904 : Int) ≤ max (alLo a b lo hi * (d - c)) (alHi a b lo hi * (d - c)) + Int.tdiv (sizeI a b) (2 : Int) ∧ max (alLo a b lo hi * (d - c)) (alHi a b lo hi * (d - c)) + Int.tdiv (sizeI a b) (2 : Int) ≤ (4611686018427387904 : Int), (1 : Int) ≤ sizeI a b] (Tree.need [inI64 (c + (max (alLo a b lo hi * (d - c)) (alHi a b lo hi * (d - c)) + Int.tdiv (sizeI a b) (2 : Int)) / sizeI a b)] (Tree.leaf (RV.agg [RV.x (Value.int IntKind.i64 (c + ceI (min (alLo a b lo hi * (d - c)) (alHi a b lo hi * (d - c)) - Int.tdiv (sizeI a b) (2 : Int)) (sizeI a b))), RV.x (Value.int IntKind.i64 (c + (max (alLo a b lo hi * (d - c)) (alHi a b lo hi * (d - c)) + Int.tdiv (sizeI a b) (2 : Int)) / sizeI a b))]))))))))))))))) (by kernel_rfl) ?_
  obtain ⟨b1, b2, b3, b4, b5, b6, b7⟩ := st_bd pre0 pre1 pre2
  have e1 : (sizeI a b).tdiv 2 = sizeI a b / 2 := Int.tdiv_eq_ediv_of_nonneg (by omega)
  have e2 : min (alLo a b lo hi * (d - c)) (alHi a b lo hi * (d - c)) - sizeI a b / 2 = stA a b c d lo hi := rfl
  have e3 : max (alLo a b lo hi * (d - c)) (alHi a b lo hi * (d - c)) + sizeI a b / 2 = stB a b c d lo hi := rfl
  simp only [Tree.sat, allP, fitP, fitL, valEq, inI64, true_and, and_true, e1, e2, e3]
  refine ⟨by omega, ⟨by omega, by omega⟩, by omega, by omega, by omega, ?_⟩
  have e4 : c + ceI (stA a b c d lo hi) (sizeI a b) = stLo a b c d lo hi := rfl
  have e5 : c + stB a b c d lo hi / sizeI a b = stHi a b c d lo hi := rfl
  rw [e4, e5]
  omega
theorem stand_ok : SoundSpec Try.prog 56 S_stand := by
  refine ⟨⟨_, Try.func56, by kernel_rfl, by kernel_rfl⟩, ?_⟩
  intro avs ns res h hn
  unfold S_stand at h
  split at h
  · cases h
    exact stand_at _ _ _ _ _ _ (hn _ (by simp)) (hn _ (by simp)) (hn _ (by simp))
  · cases h


theorem al_bdx {a b lo hi R : Int} (h : -1000 ≤ a ∧ a ≤ 1000 ∧ -1000 ≤ b ∧ b ≤ 1000) (k : -R ≤ lo ∧ lo ≤ hi ∧ hi ≤ R) : -(2 * R + 2001) ≤ alLo a b lo hi ∧ alLo a b lo hi < alHi a b lo hi ∧ alHi a b lo hi ≤ 2 * R + 2001 := by
  unfold alLo alHi; split <;> omega
def lowB (c d x a b lo hi : Int) : Bool := decide (alHi c d x x * sizeI a b < alLo a b lo hi * sizeI c d)
def highB (c d x a b lo hi : Int) : Bool := decide (alLo c d x x * sizeI a b > alHi a b lo hi * sizeI c d)
def meetB (c d x a b lo hi : Int) : Bool := decide (alLo c d x x * sizeI a b ≤ alHi a b lo hi * sizeI c d) && decide (alHi c d x x * sizeI a b ≥ alLo a b lo hi * sizeI c d)

def S_rLow : Sx.Spec := fun l => match l with
  | [.agg [.x (.int .i64 c), .x (.int .i64 d)], .x (.int .i64 x), .agg [.x (.int .i64 a), .x (.int .i64 b)], .agg [.x (.int .i64 lo), .x (.int .i64 hi)]] => some ([-1000 ≤ a ∧ a ≤ 1000 ∧ -1000 ≤ b ∧ b ≤ 1000 ∧ -1000 ≤ c ∧ c ≤ 1000 ∧ -1000 ≤ d ∧ d ≤ 1000, -1000000 ≤ lo ∧ lo ≤ hi ∧ hi ≤ 1000000, -100000000000 ≤ x ∧ x ≤ 100000000000], bl (lowB c d x a b lo hi))
  | _ => none

set_option maxRecDepth 100000 in
theorem rLow_at (c d x a b lo hi : Int) (pre0 : -1000 ≤ a ∧ a ≤ 1000 ∧ -1000 ≤ b ∧ b ≤ 1000 ∧ -1000 ≤ c ∧ c ≤ 1000 ∧ -1000 ≤ d ∧ d ≤ 1000) (pre1 : -1000000 ≤ lo ∧ lo ≤ hi ∧ hi ≤ 1000000) (pre2 : -100000000000 ≤ x ∧ x ≤ 100000000000) : SoundAt Try.prog 58 [.agg [i c, i d], i x, .agg [i a, i b], .agg [i lo, i hi]] (bl (lowB c d x a b lo hi)) := by
  refine soundAt_fin (G := [(70, S_rAllowed), (71, S_rSize)]) (L := []) (SoundG.cons rAllowed_ok (SoundG.cons rSize_ok (SoundG.nil _))) mixed Try.func58 (show Try.f58.body = some (bodyOf Try.f58) by kernel_rfl) noLoops (t := (Tree.need [(-1000000 : Int) ≤ c ∧ c ≤ (1000000 : Int), (-1000000000000 : Int) ≤ x ∧ x ≤ x ∧ x ≤ (1000000000000 : Int)] (Tree.need [(-1000000 : Int) ≤ a ∧ a ≤ (1000000 : Int) ∧ (-1000000 : Int) ≤ b ∧ b ≤ (1000000 : Int)] (Tree.need [inI64 (alHi c d x x * sizeI a b)] (Tree.need [(-1000000 : Int) ≤ a ∧ a ≤ (1000000 : Int), (-1000000000000 : Int) ≤ lo ∧ lo ≤ hi ∧ hi ≤ (1000000000000 : Int)] (Tree.need [(-1000000 : Int) ≤ c ∧ c ≤ (1000000 : Int) ∧ (-1000000 : Int) ≤ d ∧ d ≤ (1000000 : Int)] (Tree.need [inI64 (alLo a b lo hi * sizeI c d)] (Tree.leaf (RV.x (Value.bool (decide (alHi c d x x * sizeI a b < alLo a b lo hi * sizeI c d)))))))))))) (by kernel_rfl) ?_
  have e1 := al_bdx (a := a) (b := b) (lo := lo) (hi := hi) (R := 1000000) (by omega) (by omega)
  have e2 := al_bdx (a := c) (b := d) (lo := x) (hi := x) (R := 100000000000) (by omega) (by omega)
  have s1 : 0 ≤ sizeI a b := by unfold sizeI; split <;> omega
  have s2 := sizeI_le (a := a) (b := b) (by omega)
  have s3 : 0 ≤ sizeI c d := by unfold sizeI; split <;> omega
  have s4 := sizeI_le (a := c) (b := d) (by omega)
  have m1 := mul_bd (x := alHi c d x x) (y := sizeI a b) (X := 300000000000) (Y := 4000) (by omega) (by omega)
  have m2 := mul_bd (x := alLo c d x x) (y := sizeI a b) (X := 300000000000) (Y := 4000) (by omega) (by omega)
  have m3 := mul_bd (x := alHi a b lo hi) (y := sizeI c d) (X := 300000000000) (Y := 4000) (by omega) (by omega)
  have m4 := mul_bd (x := alLo a b lo hi) (y := sizeI c d) (X := 300000000000) (Y := 4000) (by omega) (by omega)
  simp only [Tree.sat, allP, fitP, fitL, valEq, inI64, true_and, and_true, lowB]
  omega
theorem rLow_ok : SoundSpec Try.prog 58 S_rLow := by
  refine ⟨⟨_, Try.func58, by kernel_rfl, by kernel_rfl⟩, ?_⟩
  intro avs ns res h hn
  unfold S_rLow at h
  split at h
  · cases h
    exact rLow_at _ _ _ _ _ _ _ (hn _ (by simp)) (hn _ (by simp)) (hn _ (by simp))
  · cases h

def S_rHigh : Sx.Spec := fun l => match l with
  | [.agg [.x (.int .i64 c), .x (.int .i64 d)], .x (.int .i64 x), .agg [.x (.int .i64 a), .x (.int .i64 b)], .agg [.x (.int .i64 lo), .x (.int .i64 hi)]] => some ([-1000 ≤ a ∧ a ≤ 1000 ∧ -1000 ≤ b ∧ b ≤ 1000 ∧ -1000 ≤ c ∧ c ≤ 1000 ∧ -1000 ≤ d ∧ d ≤ 1000, -1000000 ≤ lo ∧ lo ≤ hi ∧ hi ≤ 1000000, -100000000000 ≤ x ∧ x ≤ 100000000000], bl (highB c d x a b lo hi))
  | _ => none

set_option maxRecDepth 100000 in
theorem rHigh_at (c d x a b lo hi : Int) (pre0 : -1000 ≤ a ∧ a ≤ 1000 ∧ -1000 ≤ b ∧ b ≤ 1000 ∧ -1000 ≤ c ∧ c ≤ 1000 ∧ -1000 ≤ d ∧ d ≤ 1000) (pre1 : -1000000 ≤ lo ∧ lo ≤ hi ∧ hi ≤ 1000000) (pre2 : -100000000000 ≤ x ∧ x ≤ 100000000000) : SoundAt Try.prog 59 [.agg [i c, i d], i x, .agg [i a, i b], .agg [i lo, i hi]] (bl (highB c d x a b lo hi)) := by
  refine soundAt_fin (G := [(70, S_rAllowed), (71, S_rSize)]) (L := []) (SoundG.cons rAllowed_ok (SoundG.cons rSize_ok (SoundG.nil _))) mixed Try.func59 (show Try.f59.body = some (bodyOf Try.f59) by kernel_rfl) noLoops (t := (Tree.need [(-1000000 : Int) ≤ c ∧ c ≤ (1000000 : Int), (-1000000000000 : Int) ≤ x ∧ x ≤ x ∧ x ≤ (1000000000000 : Int)] (Tree.need [(-1000000 : Int) ≤ a ∧ a ≤ (1000000 : Int) ∧ (-1000000 : Int) ≤ b ∧ b ≤ (1000000 : Int)] (Tree.need [inI64 (alLo c d x x * sizeI a b)] (Tree.need [(-1000000 : Int) ≤ a ∧ a ≤ (1000000 : Int), (-1000000000000 : Int) ≤ lo ∧ lo ≤ hi ∧ hi ≤ (1000000000000 : Int)] (Tree.need [(-1000000 : Int) ≤ c ∧ c ≤ (1000000 : Int) ∧ (-1000000 : Int) ≤ d ∧ d ≤ (1000000 : Int)] (Tree.need [inI64 (alHi a b lo hi * sizeI c d)] (Tree.leaf (RV.x (Value.bool (decide (alLo c d x x * sizeI a b > alHi a b lo hi * sizeI c d)))))))))))) (by kernel_rfl) ?_
  have e1 := al_bdx (a := a) (b := b) (lo := lo) (hi := hi) (R := 1000000) (by omega) (by omega)
  have e2 := al_bdx (a := c) (b := d) (lo := x) (hi := x) (R := 100000000000) (by omega) (by omega)
  have s1 : 0 ≤ sizeI a b := by unfold sizeI; split <;> omega
  have s2 := sizeI_le (a := a) (b := b) (by omega)
  have s3 : 0 ≤ sizeI c d := by unfold sizeI; split <;> omega
  have s4 := sizeI_le (a := c) (b := d) (by omega)
  have m1 := mul_bd (x := alHi c d x x) (y := sizeI a b) (X := 300000000000) (Y := 4000) (by omega) (by omega)
  have m2 := mul_bd (x := alLo c d x x) (y := sizeI a b) (X := 300000000000) (Y := 4000) (by omega) (by omega)
  have m3 := mul_bd (x := alHi a b lo hi) (y := sizeI c d) (X := 300000000000) (Y := 4000) (by omega) (by omega)
  have m4 := mul_bd (x := alLo a b lo hi) (y := sizeI c d) (X := 300000000000) (Y := 4000) (by omega) (by omega)
  simp only [Tree.sat, allP, fitP, fitL, valEq, inI64, true_and, and_true, highB]
  omega
theorem rHigh_ok : SoundSpec Try.prog 59 S_rHigh := by
  refine ⟨⟨_, Try.func59, by kernel_rfl, by kernel_rfl⟩, ?_⟩
  intro avs ns res h hn
  unfold S_rHigh at h
  split at h
  · cases h
    exact rHigh_at _ _ _ _ _ _ _ (hn _ (by simp)) (hn _ (by simp)) (hn _ (by simp))
  · cases h

def S_rMeets : Sx.Spec := fun l => match l with
  | [.agg [.x (.int .i64 c), .x (.int .i64 d)], .x (.int .i64 x), .agg [.x (.int .i64 a), .x (.int .i64 b)], .agg [.x (.int .i64 lo), .x (.int .i64 hi)]] => some ([-1000 ≤ a ∧ a ≤ 1000 ∧ -1000 ≤ b ∧ b ≤ 1000 ∧ -1000 ≤ c ∧ c ≤ 1000 ∧ -1000 ≤ d ∧ d ≤ 1000, -1000000 ≤ lo ∧ lo ≤ hi ∧ hi ≤ 1000000, -100000000000 ≤ x ∧ x ≤ 100000000000], bl (meetB c d x a b lo hi))
  | _ => none

set_option maxRecDepth 100000 in
theorem rMeets_at (c d x a b lo hi : Int) (pre0 : -1000 ≤ a ∧ a ≤ 1000 ∧ -1000 ≤ b ∧ b ≤ 1000 ∧ -1000 ≤ c ∧ c ≤ 1000 ∧ -1000 ≤ d ∧ d ≤ 1000) (pre1 : -1000000 ≤ lo ∧ lo ≤ hi ∧ hi ≤ 1000000) (pre2 : -100000000000 ≤ x ∧ x ≤ 100000000000) : SoundAt Try.prog 38 [.agg [i c, i d], i x, .agg [i a, i b], .agg [i lo, i hi]] (bl (meetB c d x a b lo hi)) := by
  refine soundAt_fin (G := [(70, S_rAllowed), (71, S_rSize)]) (L := []) (SoundG.cons rAllowed_ok (SoundG.cons rSize_ok (SoundG.nil _))) mixed Try.func38 (show Try.f38.body = some (bodyOf Try.f38) by kernel_rfl) noLoops (t := (Tree.need [(-1000000 : Int) ≤ c ∧ c ≤ (1000000 : Int), (-1000000000000 : Int) ≤ x ∧ x ≤ x ∧ x ≤ (1000000000000 : Int)] (Tree.need [(-1000000 : Int) ≤ a ∧ a ≤ (1000000 : Int), (-1000000000000 : Int) ≤ lo ∧ lo ≤ hi ∧ hi ≤ (1000000000000 : Int)] (Tree.need [(-1000000 : Int) ≤ a ∧ a ≤ (1000000 : Int) ∧ (-1000000 : Int) ≤ b ∧ b ≤ (1000000 : Int)] (Tree.need [inI64 (alLo c d x x * sizeI a b)] (Tree.need [(-1000000 : Int) ≤ c ∧ c ≤ (1000000 : Int) ∧ (-1000000 : Int) ≤ d ∧ d ≤ (1000000 : Int)] (Tree.need [inI64 (alHi a b lo hi * sizeI c d)] (Tree.branch (decide (alLo c d x x * sizeI a b ≤ alHi a b lo hi * sizeI c d)) (Tree.need [(-1000000 : Int) ≤ a ∧ a ≤ (1000000 : Int) ∧ (-1000000 : Int) ≤ b ∧ b ≤ (1000000 : Int)] (Tree.need [inI64 (alHi c d x x * sizeI a b)] (Tree.need [(-1000000 : Int) ≤ c ∧ c ≤ (1000000 : Int) ∧ (-1000000 : Int) ≤ d ∧ d ≤ (1000000 : Int)] (Tree.need [inI64 (alLo a b lo hi * sizeI c d)] (Tree.leaf (RV.x (Value.bool (decide (alHi c d x x * sizeI a b ≥ alLo a b lo hi * sizeI c d))))))))) (Tree.leaf (RV.x (Value.bool false))))))))))) (by kernel_rfl) ?_
  have e1 := al_bdx (a := a) (b := b) (lo := lo) (hi := hi) (R := 1000000) (by omega) (by omega)
  have e2 := al_bdx (a := c) (b := d) (lo := x) (hi := x) (R := 100000000000) (by omega) (by omega)
  have s1 : 0 ≤ sizeI a b := by unfold sizeI; split <;> omega
  have s2 := sizeI_le (a := a) (b := b) (by omega)
  have s3 : 0 ≤ sizeI c d := by unfold sizeI; split <;> omega
  have s4 := sizeI_le (a := c) (b := d) (by omega)
  have m1 := mul_bd (x := alHi c d x x) (y := sizeI a b) (X := 300000000000) (Y := 4000) (by omega) (by omega)
  have m2 := mul_bd (x := alLo c d x x) (y := sizeI a b) (X := 300000000000) (Y := 4000) (by omega) (by omega)
  have m3 := mul_bd (x := alHi a b lo hi) (y := sizeI c d) (X := 300000000000) (Y := 4000) (by omega) (by omega)
  have m4 := mul_bd (x := alLo a b lo hi) (y := sizeI c d) (X := 300000000000) (Y := 4000) (by omega) (by omega)
  simp only [Tree.sat, allP, fitP, fitL, valEq, inI64, true_and, and_true]
  refine ⟨by omega, by omega, by omega, by omega, by omega, by omega, fun h => ⟨by omega, by omega, by omega, by omega, ?_⟩, fun h => ?_⟩
  · unfold meetB; rw [h]; rfl
  · unfold meetB; rw [h]; rfl
theorem rMeets_ok : SoundSpec Try.prog 38 S_rMeets := by
  refine ⟨⟨_, Try.func38, by kernel_rfl, by kernel_rfl⟩, ?_⟩
  intro avs ns res h hn
  unfold S_rMeets at h
  split at h
  · cases h
    exact rMeets_at _ _ _ _ _ _ _ (hn _ (by simp)) (hn _ (by simp)) (hn _ (by simp))
  · cases h

def S_rHeights : Sx.Spec := fun l => match l with
  | [.agg [.x (.int .i64 a), .x (.int .i64 b)], .agg [.x (.int .i64 lo), .x (.int .i64 hi)]] => some ([-1000 ≤ a ∧ a ≤ 1000 ∧ -1000 ≤ b ∧ b ≤ 1000 ∧ a ≠ b, -1000000 ≤ lo ∧ lo ≤ hi ∧ hi ≤ 1000000], .agg [i (hgLo a b lo hi), i (hgHi a b lo hi)])
  | _ => none

set_option maxRecDepth 100000 in
theorem rHeights_at (a b lo hi : Int) (pre0 : -1000 ≤ a ∧ a ≤ 1000 ∧ -1000 ≤ b ∧ b ≤ 1000 ∧ a ≠ b) (pre1 : -1000000 ≤ lo ∧ lo ≤ hi ∧ hi ≤ 1000000) : SoundAt Try.prog 42 [.agg [i a, i b], .agg [i lo, i hi]] (.agg [i (hgLo a b lo hi), i (hgHi a b lo hi)]) := by
  refine soundAt_fin (G := [(70, S_rAllowed), (71, S_rSize), (57, S_rFloor), (72, S_rCeil)]) (L := []) (SoundG.cons rAllowed_ok (SoundG.cons rSize_ok (SoundG.cons rFloor_ok (SoundG.cons rCeil_ok (SoundG.nil _))))) mixed Try.func42 (show Try.f42.body = some (bodyOf Try.f42) by kernel_rfl) noLoops (t := (Tree.need [(-1000000 : Int) ≤ a ∧ a ≤ (1000000 : Int), (-1000000000000 : Int) ≤ lo ∧ lo ≤ hi ∧ hi ≤ (1000000000000 : Int)] (Tree.need [inI64 ((1000 : Int) * alLo a b lo hi)] (Tree.need [(-1000000 : Int) ≤ a ∧ a ≤ (1000000 : Int) ∧ (-1000000 : Int) ≤ b ∧ b ≤ (1000000 : Int)] (Tree.need [(-4611686018427387904 : Int) ≤ (1000 : Int) * alLo a b lo hi ∧ (1000 : Int) * alLo a b lo hi ≤ (4611686018427387904 : Int), (1 : Int) ≤ sizeI a b ∧ sizeI a b ≤ (4000000000000 : Int)] (Tree.need [inI64 ((1000 : Int) * alHi a b lo hi)] (Tree.need [(-1000000 : Int) ≤ a ∧ a ≤ (1000000 : Int) ∧ (-1000000 : Int) ≤ b ∧ b ≤ (1000000 : Int)] (Tree.need [(-4611686018427387904 : Int) ≤ (1000 : Int) * alHi a b lo hi ∧ (1000 : Int) * alHi a b lo hi ≤ (4611686018427387904 : Int), (1 : Int) ≤ sizeI a b ∧ sizeI a b ≤ (4000000000000 : Int)] (Tree.leaf (RV.agg [RV.x (Value.int IntKind.i64 ((1000 : Int) * alLo a b lo hi / sizeI a b)), RV.x (Value.int IntKind.i64 (ceI ((1000 : Int) * alHi a b lo hi) (sizeI a b)))])))))))))) (by kernel_rfl) ?_
  have e1 := al_bdx (a := a) (b := b) (lo := lo) (hi := hi) (R := 1000000) (by omega) (by omega)
  have s1 := sizeI_pos pre0.2.2.2.2
  have s2 := sizeI_le (a := a) (b := b) (by omega)
  simp only [Tree.sat, allP, fitP, fitL, valEq, inI64, true_and, and_true, hgLo, hgHi]
  omega
theorem rHeights_ok : SoundSpec Try.prog 42 S_rHeights := by
  refine ⟨⟨_, Try.func42, by kernel_rfl, by kernel_rfl⟩, ?_⟩
  intro avs ns res h hn
  unfold S_rHeights at h
  split at h
  · cases h
    exact rHeights_at _ _ _ _ (hn _ (by simp)) (hn _ (by simp))
  · cases h

end Go.Proofs.Ytchcegfhamngkaa
/- Contracts of functions of the program, by the engine Sx: what each call comes to. Printed by a program of this repo (sxgen.py). -/
set_option linter.unusedSimpArgs false
set_option linter.unusedVariables false
namespace Go.Proofs.Ytchcegfhamngkaa
open Go Go.Sx Go.RowKit
def S_pall1 : Sx.Spec := fun l => match l with
  | [.agg [.x (.int .i64 a), .x (.int .i64 b)], .ro [.fn (.func 53) [] []]] => some ([], bl (!scB a b))
  | _ => none

set_option maxRecDepth 100000 in
theorem pall1_at (a b : Int) : SoundAt Try.prog 78 [.agg [i a, i b], .ro [.fn (.func 53) [] []]] (bl (!scB a b)) := by
  refine soundAt_fin (G := [(53, S_valid)]) (L := []) (SoundG.cons valid_ok (SoundG.nil _)) mixed Try.func78 (show Try.f78.body = some (bodyOf Try.f78) by kernel_rfl) noLoops (t := (Tree.leaf (RV.x (Value.bool !scB a b)))) (by kernel_rfl) ?_
  simp [Tree.sat, fitP, valEq]
theorem pall1_ok : SoundSpec Try.prog 78 S_pall1 := by
  refine ⟨⟨_, Try.func78, by kernel_rfl, by kernel_rfl⟩, ?_⟩
  intro avs ns res h hn
  unfold S_pall1 at h
  split at h
  · cases h
    exact pall1_at _ _
  · cases h


abbrev scs (n : Nat) (a b : Nat → Int) : AV := .lst 2 n (fun k => [i (a k), i (b k)])
def notS (a b : Nat → Int) (k : Nat) : Bool := !scB (a k) (b k)
def allS (n : Nat) (a b : Nat → Int) : Bool := allI (fun k => scB (a k) (b k)) n

noncomputable def E_xf (n : Nat) (a b : Nat → Int) : St := (some
  {
    σ :=
      [AV.lst (2 : Nat) n fun k => [AV.x (Value.int IntKind.i64 (a k)), AV.x (Value.int IntKind.i64 (b k))],
        AV.fn (Fn.func (78 : Nat)) [] [AV.ro [AV.fn (Fn.func (53 : Nat)) [] []]], AV.top, AV.top, AV.top, AV.top,
        AV.lst (2 : Nat) n fun k => [AV.x (Value.int IntKind.i64 (a k)), AV.x (Value.int IntKind.i64 (b k))],
        AV.x (Value.int IntKind.i64 (↑n : Int)), AV.top, AV.top, AV.top, AV.top, AV.top, AV.top, AV.top, AV.top, AV.top,
        AV.top, AV.top],
    m := [], nx := (4 : Nat) } : Option St).getD { σ := [], m := [], nx := 0 }
noncomputable def B_xf : Code := loopBody (loopAt (bodyOf Try.f88) 0)
noncomputable def inv_xf (n : Nat) (a b : Nat → Int) (k : Nat) : St := { σ := ovrS [(8, i k)] (E_xf n a b).σ, m := (E_xf n a b).m, nx := (E_xf n a b).nx }
noncomputable def out_xf (n : Nat) (a b : Nat → Int) (k : Nat) : AEx → Option St := fun ex => match ex with
  | .ret => some { σ := ovrS [(4, i (fstI (notS a b) n))] (E_xf n a b).σ, m := (E_xf n a b).m, nx := (E_xf n a b).nx }
  | .exit 0 => some { σ := ovrS [] (E_xf n a b).σ, m := (E_xf n a b).m, nx := (E_xf n a b).nx }
  | _ => none
noncomputable def T_xf (n : Nat) (a b : Nat → Int) : CT := .branch (decide (fstI (notS a b) n < n)) (.leaf (.ret, ( out_xf n a b 0 .ret).getD (E_xf n a b))) (.leaf (.exit 0, ( out_xf n a b 0 (.exit 0)).getD (E_xf n a b)))
noncomputable def LS_xf (n : Nat) (a b : Nat → Int) : LSpec := (sumL (inv_xf n a b (0)) (T_xf n a b))
set_option maxRecDepth 100000 in
theorem xf_ls (n : Nat) (a b : Nat → Int) (pre0 : n ≤ 100000) : LSound Try.prog (.loop B_xf) (LS_xf n a b) := by
  refine loop_rounds (G := [(78, S_pall1)]) (L := []) (SoundG.cons pall1_ok (SoundG.nil _)) mixed noLoops (X := Nat) (inv_xf n a b) (fun k => k ≤ n ∧ ∀ j, j < k → notS a b j = false) (fun k => n - k) (out_xf n a b) (x0 := 0) (by simp) ?_ ?_ ?_
  · rintro k
    kernel_rfl
  · rintro k y E h
    unfold out_xf at h
    split at h
    · cases h; kernel_rfl
    · cases h; kernel_rfl
    · cases h
  · rintro Q hQ k hx
    refine ⟨(k + 1), ?_⟩
    have e : roundT Try.prog [(78, S_pall1)] [] B_xf (inv_xf n a b k) (inv_xf n a b ((k + 1))) (out_xf n a b k) = (Tree.branch (decide ((↑k : Int) < (↑n : Int))) (Tree.need [(0 : Int) ≤ (↑k : Int) ∧ (↑k : Int) < (↑n : Int)] (Tree.branch (!scB (a (Int.toNat (↑k : Int))) (b (Int.toNat (↑k : Int)))) (Tree.need [(AV.lst 2 n fun k => [iI (a k), iI (b k)]) = AV.lst 2 n fun k => [iI (a k), iI (b k)], AV.fn (Fn.func 78) [] [AV.ro [AV.fn (Fn.func 53) [] []]] = AV.fn (Fn.func 78) [] [AV.ro [AV.fn (Fn.func 53) [] []]], (↑k : Int) = (↑(fstI (notS a b) n) : Int), (AV.lst 2 n fun k => [iI (a k), iI (b k)]) = AV.lst 2 n fun k => [iI (a k), iI (b k)], (↑n : Int) = (↑n : Int)] (Tree.leaf AEx.ret)) (Tree.need [inI64 ((↑k : Int) + (1 : Int))] (Tree.need [(AV.lst 2 n fun k => [iI (a k), iI (b k)]) = AV.lst 2 n fun k => [iI (a k), iI (b k)], AV.fn (Fn.func 78) [] [AV.ro [AV.fn (Fn.func 53) [] []]] = AV.fn (Fn.func 78) [] [AV.ro [AV.fn (Fn.func 53) [] []]], (AV.lst 2 n fun k => [iI (a k), iI (b k)]) = AV.lst 2 n fun k => [iI (a k), iI (b k)], (↑n : Int) = (↑n : Int), (↑k : Int) + (1 : Int) = (↑(k + 1) : Int)] (Tree.leaf AEx.normal))))) (Tree.need [(AV.lst 2 n fun k => [iI (a k), iI (b k)]) = AV.lst 2 n fun k => [iI (a k), iI (b k)], AV.fn (Fn.func 78) [] [AV.ro [AV.fn (Fn.func 53) [] []]] = AV.fn (Fn.func 78) [] [AV.ro [AV.fn (Fn.func 53) [] []]], (AV.lst 2 n fun k => [iI (a k), iI (b k)]) = AV.lst 2 n fun k => [iI (a k), iI (b k)], (↑n : Int) = (↑n : Int)] (Tree.leaf (AEx.exit 0)))) := by kernel_rfl
    rw [e]
    simp only [T_xf, out_xf, Tree.sat, Option.getD_some, decide_eq_true_eq, decide_eq_false_iff_not] at hQ
    simp only [Tree.sat, allP, true_and, and_true, decide_eq_true_eq, decide_eq_false_iff_not, inI64, out_xf, Int.toNat_natCast]
    refine ⟨fun h => ⟨by omega, fun hb => ?_, fun hb => ?_⟩, fun h => ?_⟩
    · have hf : fstI (notS a b) n = k := fstI_eq (by omega) hb hx.2
      refine ⟨by omega, fun E hE => ?_⟩
      cases hE
      exact hQ.1 (by omega)
    · refine ⟨by omega, by omega, ⟨by omega, fun j hj => ?_⟩, by omega⟩
      rcases (show j < k ∨ j = k by omega) with h1 | rfl
      · exact hx.2 j h1
      · exact hb
    · have hf : fstI (notS a b) n = n := fstI_none (fun j hj => hx.2 j (by omega))
      intro E hE
      cases hE
      exact hQ.2 (by omega)

set_option maxRecDepth 100000 in
theorem xf_at (n : Nat) (a b : Nat → Int) (pre0 : n ≤ 100000) : SoundAt Try.prog 88 [scs n a b, .fn (.func 78) [] [.ro [.fn (.func 53) [] []]]] (i (if fstI (notS a b) n < n then (fstI (notS a b) n : Int) else -1)) := by
  refine soundAt_fin (G := [(78, S_pall1)]) (L := [LS_xf n a b]) (SoundG.cons pall1_ok (SoundG.nil _)) mixed Try.func88 (show Try.f88.body = some (bodyOf Try.f88) by kernel_rfl) (one_loop (fun cj hcj => by
    have e : loopAt (bodyOf Try.f88) 0 = some (.loop B_xf) := by kernel_rfl
    rw [e] at hcj; cases hcj
    exact xf_ls n a b pre0)) (t := (Tree.need [(AV.lst 2 n fun k => [iI (a k), iI (b k)]) = AV.lst 2 n fun k => [iI (a k), iI (b k)], AV.fn (Fn.func 78) [] [AV.ro [AV.fn (Fn.func 53) [] []]] = AV.fn (Fn.func 78) [] [AV.ro [AV.fn (Fn.func 53) [] []]], (AV.lst 2 n fun k => [iI (a k), iI (b k)]) = AV.lst 2 n fun k => [iI (a k), iI (b k)], (↑n : Int) = (↑n : Int), (0 : Int) = (↑(0 : Nat) : Int)] (Tree.branch (decide (fstI (notS a b) n < n)) (Tree.leaf (RV.x (Value.int IntKind.i64 (↑(fstI (notS a b) n) : Int)))) (Tree.leaf (RV.x (Value.int IntKind.i64 (-1 : Int))))))) (by kernel_rfl) ?_
  simp only [Tree.sat, allP, fitP, valEq, true_and, and_true, decide_eq_true_eq, decide_eq_false_iff_not]
  simp +contextual


theorem isRec2 (n : Nat) (a b : Nat → Int) : isRec 2 n (fun k => [i (a k), i (b k)]) := fun _ _ => rfl
def col (j : Nat) (f : Nat → List AV) : Nat → Int := fun k => intAt (f k) j
def S_xf : Sx.Spec := fun l => match l with
  | [.lst 2 n f, .fn (.func 78) [] [.ro [.fn (.func 53) [] []]]] => some ([isRec 2 n f, n ≤ 100000], i (if fstI (notS (col 0 f) (col 1 f)) n < n then (fstI (notS (col 0 f) (col 1 f)) n : Int) else -1))
  | _ => none
def S_cf : Sx.Spec := fun l => match l with
  | [.lst 2 n f, .fn (.func 78) [] [.ro [.fn (.func 53) [] []]]] => some ([isRec 2 n f, n ≤ 100000], bl (!allS n (col 0 f) (col 1 f)))
  | _ => none
def S_pall : Sx.Spec := fun l => match l with
  | [.lst 2 n f, .fn (.func 53) [] []] => some ([isRec 2 n f, n ≤ 100000], bl (allS n (col 0 f) (col 1 f)))
  | _ => none


theorem xf_ok : SoundSpec Try.prog 88 S_xf := by
  refine ⟨⟨_, Try.func88, by kernel_rfl, by kernel_rfl⟩, ?_⟩
  intro avs ns res h hn
  unfold S_xf at h
  split at h
  · rename_i n f
    cases h
    have hr : isRec 2 n f := hn _ (by simp)
    exact (xf_at n (col 0 f) (col 1 f) (hn _ (by simp))).same (.cons (.lst 2 n _ _ hr) (.cons (.refl _) .nil))
  · cases h

set_option maxRecDepth 100000 in
theorem cf_at (n : Nat) (a b : Nat → Int) (pre0 : n ≤ 100000) : SoundAt Try.prog 77 [scs n a b, .fn (.func 78) [] [.ro [.fn (.func 53) [] []]]] (bl (!allS n a b)) := by
  refine soundAt_fin (G := [(88, S_xf)]) (L := []) (SoundG.cons xf_ok (SoundG.nil _)) mixed Try.func77 (show Try.f77.body = some (bodyOf Try.f77) by kernel_rfl) noLoops (t := (Tree.need [isRec 2 n fun k => [i (a k), i (b k)], n ≤ 100000] (Tree.leaf (RV.x (Value.bool (decide ((if fstI (notS (col 0 fun k => [i (a k), i (b k)]) (col 1 fun k => [i (a k), i (b k)])) n < n then (↑(fstI (notS (col 0 fun k => [i (a k), i (b k)]) (col 1 fun k => [i (a k), i (b k)])) n) : Int) else (-1 : Int)) ≥ (0 : Int)))))))) (by kernel_rfl) ?_
  simp only [Tree.sat, allP, fitP, valEq, true_and, and_true]
  refine ⟨⟨isRec2 n _ _, pre0⟩, ?_⟩
  unfold allS
  rw [allI_fst]
  have := fstI_spec (notS a b) n
  have e : (fun k => !(fun k => scB (a k) (b k)) k) = notS a b := rfl
  rw [e]
  have e3 : notS (col 0 (fun k => [i (a k), i (b k)])) (col 1 (fun k => [i (a k), i (b k)])) = notS a b := rfl
  rw [e3]
  split <;> simp <;> omega


theorem cf_ok : SoundSpec Try.prog 77 S_cf := by
  refine ⟨⟨_, Try.func77, by kernel_rfl, by kernel_rfl⟩, ?_⟩
  intro avs ns res h hn
  unfold S_cf at h
  split at h
  · rename_i n f
    cases h
    have hr : isRec 2 n f := hn _ (by simp)
    exact (cf_at n (col 0 f) (col 1 f) (hn _ (by simp))).same (.cons (.lst 2 n _ _ hr) (.cons (.refl _) .nil))
  · cases h

set_option maxRecDepth 100000 in
theorem pall_at (n : Nat) (a b : Nat → Int) (pre0 : n ≤ 100000) : SoundAt Try.prog 52 [scs n a b, .fn (.func 53) [] []] (bl (allS n a b)) := by
  refine soundAt_fin (G := [(77, S_cf)]) (L := []) (SoundG.cons cf_ok (SoundG.nil _)) mixed Try.func52 (show Try.f52.body = some (bodyOf Try.f52) by kernel_rfl) noLoops (t := (Tree.need [isRec 2 n fun k => [i (a k), i (b k)], n ≤ 100000] (Tree.leaf (RV.x (Value.bool !!allS n (col 0 fun k => [i (a k), i (b k)]) (col 1 fun k => [i (a k), i (b k)])))))) (by kernel_rfl) ?_
  simp only [Tree.sat, allP, fitP, valEq, true_and, and_true]
  refine ⟨⟨isRec2 n _ _, pre0⟩, ?_⟩
  have e3 : allS n (col 0 (fun k => [i (a k), i (b k)])) (col 1 (fun k => [i (a k), i (b k)])) = allS n a b := rfl
  simp [e3]


theorem pall_ok : SoundSpec Try.prog 52 S_pall := by
  refine ⟨⟨_, Try.func52, by kernel_rfl, by kernel_rfl⟩, ?_⟩
  intro avs ns res h hn
  unfold S_pall at h
  split at h
  · rename_i n f
    cases h
    have hr : isRec 2 n f := hn _ (by simp)
    exact (pall_at n (col 0 f) (col 1 f) (hn _ (by simp))).same (.cons (.lst 2 n _ _ hr) (.cons (.refl _) .nil))
  · cases h

end Go.Proofs.Ytchcegfhamngkaa
/- Contracts of functions of the program, by the engine Sx: what each call comes to. Printed by a program of this repo (sxgen.py). -/
set_option linter.unusedSimpArgs false
set_option linter.unusedVariables false
namespace Go.Proofs.Ytchcegfhamngkaa
open Go Go.Sx Go.RowKit

/-- The variable that holds the function itself, as deep as one looks. -/
def onL (n : Nat) (f : Nat → List AV) : Nat → List AV
  | 0 => [.fn (.func 55) [] [.top, .top]]
  | d + 1 => [.fn (.func 55) [] [.ro [.lst 2 n f], .ro (onL n f d)]]
/-- What can stand on the scale behind m more ones, from the scale k on; none: some reading is too great. -/
def thr (a b : Nat → Int) : Nat → Nat → Int → Int → Option (Int × Int)
  | 0, _, lo, hi => if insB (-1000000) lo hi 1000000 then some (lo, hi) else none
  | m + 1, k, lo, hi => if insB (-1000000) lo hi 1000000 then thr a b m (k + 1) (stLo (a k) (b k) (a (k + 1)) (b (k + 1)) lo hi) (stHi (a k) (b k) (a (k + 1)) (b (k + 1)) lo hi) else none
def rgO (o : Option (Int × Int)) : AV := .agg [i (match o with | some p => p.1 | none => 0), i (match o with | some p => p.2 | none => 0)]
def erO (o : Option (Int × Int)) (e : Int) : AV := i (match o with | some _ => 0 | none => e)
def S_T1 (d : Nat) : Sx.Spec := fun l => match l with
  | [.x (.int .i64 k), .agg [.x (.int .i64 lo), .x (.int .i64 hi)], .ro [.lst 2 n f], .ro b] => some ([b = onL n f d, f = (fun k => [i (col 0 f k), i (col 1 f k)]), 0 ≤ k ∧ k < n ∧ n ≤ k + d ∧ n ≤ 1000, allS n (col 0 f) (col 1 f) = true],
      .tup [rgO (thr (col 0 f) (col 1 f) (n - 1 - k.toNat) k.toNat lo hi), erO (thr (col 0 f) (col 1 f) (n - 1 - k.toNat) k.toNat lo hi) 10])
  | _ => none

set_option maxRecDepth 100000 in
theorem Through1_at (d n k : Nat) (lo hi : Int) (a b : Nat → Int) (pre0 : SoundSpec Try.prog 55 (S_T1 d)) (pre1 : k < n ∧ n ≤ k + (d + 1) ∧ n ≤ 1000) (pre2 : allS n a b = true) : SoundAt Try.prog 55 [i k, .agg [i lo, i hi], .ro [scs n a b], (.ro (onL n (fun k => [i (a k), i (b k)]) (d + 1)))] (.tup [rgO (thr a b (n - 1 - k) k lo hi), erO (thr a b (n - 1 - k) k lo hi) 10]) := by
  refine soundAt_fin (G := [(54, S_readings), (56, S_stand), (55, S_T1 d)]) (L := []) (SoundG.cons readings_ok (SoundG.cons stand_ok (SoundG.cons pre0 (SoundG.nil _)))) mixed Try.func55 (show Try.f55.body = some (bodyOf Try.f55) by kernel_rfl) noLoops (t := (Tree.branch (!insB (-1000000 : Int) lo hi (1000000 : Int)) (Tree.leaf (RV.tup [RV.agg [RV.x (Value.int IntKind.i64 (0 : Int)), RV.x (Value.int IntKind.i64 (0 : Int))], RV.x (Value.int IntKind.i64 (10 : Int))])) (Tree.need [inI64 ((↑k : Int) + (1 : Int))] (Tree.branch ((↑k : Int) + (1 : Int) == (↑n : Int)) (Tree.leaf (RV.tup [RV.agg [RV.x (Value.int IntKind.i64 lo), RV.x (Value.int IntKind.i64 hi)], RV.x (Value.int IntKind.i64 (0 : Int))])) (Tree.need [inI64 ((↑k : Int) + (1 : Int))] (Tree.need [(0 : Int) ≤ (↑k : Int) ∧ (↑k : Int) < (↑n : Int)] (Tree.need [inI64 ((↑k : Int) + (1 : Int))] (Tree.need [(0 : Int) ≤ (↑k : Int) + (1 : Int) ∧ (↑k : Int) + (1 : Int) < (↑n : Int)] (Tree.need [(-1000 : Int) ≤ a (Int.toNat (↑k : Int)) ∧ a (Int.toNat (↑k : Int)) ≤ (1000 : Int) ∧ (-1000 : Int) ≤ b (Int.toNat (↑k : Int)) ∧ b (Int.toNat (↑k : Int)) ≤ (1000 : Int) ∧ a (Int.toNat (↑k : Int)) ≠ b (Int.toNat (↑k : Int)), (-1000 : Int) ≤ a (Int.toNat ((↑k : Int) + (1 : Int))) ∧ a (Int.toNat ((↑k : Int) + (1 : Int))) ≤ (1000 : Int) ∧ (-1000 : Int) ≤ b (Int.toNat ((↑k : Int) + (1 : Int))) ∧ b (Int.toNat ((↑k : Int) + (1 : Int))) ≤ (1000 : Int) ∧ a (Int.toNat ((↑k : Int) + (1 : Int))) ≠ b (Int.toNat ((↑k : Int) + (1 : Int))), (-1000000 : Int) ≤ lo ∧ lo ≤ hi ∧ hi ≤ (1000000 : Int)] (Tree.need [onL n (fun k => [i (a k), i (b k)]) d = onL n (fun k => [i (a k), i (b k)]) d, (fun k => [i (a k), i (b k)]) = fun k => [i (col 0 (fun k => [i (a k), i (b k)]) k), i (col 1 (fun k => [i (a k), i (b k)]) k)], (0 : Int) ≤ (↑k : Int) + (1 : Int) ∧ (↑k : Int) + (1 : Int) < (↑n : Int) ∧ (↑n : Int) ≤ (↑k : Int) + (1 : Int) + (↑d : Int) ∧ n ≤ 1000, allS n (col 0 fun k => [i (a k), i (b k)]) (col 1 fun k => [i (a k), i (b k)]) = true] (Tree.leaf (RV.tup [RV.agg [RV.x (Value.int IntKind.i64 (match thr (col 0 fun k => [i (a k), i (b k)]) (col 1 fun k => [i (a k), i (b k)]) (n - 1 - Int.toNat ((↑k : Int) + (1 : Int))) (Int.toNat ((↑k : Int) + (1 : Int))) (stLo (a (Int.toNat (↑k : Int))) (b (Int.toNat (↑k : Int))) (a (Int.toNat ((↑k : Int) + (1 : Int)))) (b (Int.toNat ((↑k : Int) + (1 : Int)))) lo hi) (stHi (a (Int.toNat (↑k : Int))) (b (Int.toNat (↑k : Int))) (a (Int.toNat ((↑k : Int) + (1 : Int)))) (b (Int.toNat ((↑k : Int) + (1 : Int)))) lo hi) with | some p => Prod.fst p | none => (0 : Int))), RV.x (Value.int IntKind.i64 (match thr (col 0 fun k => [i (a k), i (b k)]) (col 1 fun k => [i (a k), i (b k)]) (n - 1 - Int.toNat ((↑k : Int) + (1 : Int))) (Int.toNat ((↑k : Int) + (1 : Int))) (stLo (a (Int.toNat (↑k : Int))) (b (Int.toNat (↑k : Int))) (a (Int.toNat ((↑k : Int) + (1 : Int)))) (b (Int.toNat ((↑k : Int) + (1 : Int)))) lo hi) (stHi (a (Int.toNat (↑k : Int))) (b (Int.toNat (↑k : Int))) (a (Int.toNat ((↑k : Int) + (1 : Int)))) (b (Int.toNat ((↑k : Int) + (1 : Int)))) lo hi) with | some p => Prod.snd p | none => (0 : Int)))], RV.x (Value.int IntKind.i64 (match thr (col 0 fun k => [i (a k), i (b k)]) (col 1 fun k => [i (a k), i (b k)]) (n - 1 - Int.toNat ((↑k : Int) + (1 : Int))) (Int.toNat ((↑k : Int) + (1 : Int))) (stLo (a (Int.toNat (↑k : Int))) (b (Int.toNat (↑k : Int))) (a (Int.toNat ((↑k : Int) + (1 : Int)))) (b (Int.toNat ((↑k : Int) + (1 : Int)))) lo hi) (stHi (a (Int.toNat (↑k : Int))) (b (Int.toNat (↑k : Int))) (a (Int.toNat ((↑k : Int) + (1 : Int)))) (b (Int.toNat ((↑k : Int) + (1 : Int)))) lo hi) with | some val => (0 : Int) | none => (10 : Int)))])))))))))))) (by kernel_rfl) ?_
  obtain ⟨m, hm⟩ : ∃ m, n = k + 1 + m := ⟨n - k - 1, by omega⟩
  have hA : ∀ j, j < n → scB (a j) (b j) = true := allI_iff.1 pre2
  have b1 := scB_bd (hA k (by omega))
  have e0 : n - 1 - k = m := by omega
  have t1 : ((k : Int) + 1).toNat = k + 1 := by omega
  simp only [Tree.sat, allP, fitP, fitL, valEq, inI64, true_and, and_true, Int.toNat_natCast, t1, e0, rgO, erO]
  refine ⟨fun h => ?_, fun h => ⟨by omega, fun h2 => ?_, fun h2 => ?_⟩⟩
  · cases m <;> simp_all [thr]
  · have : m = 0 := by simp at h2; omega
    subst this
    have h' : insB (-1000000) lo hi 1000000 = true := by simpa using h
    simp [thr, h']
  · have hm1 : 1 ≤ m := by simp at h2; omega
    obtain ⟨m', rfl⟩ : ∃ m', m = m' + 1 := ⟨m - 1, by omega⟩
    have h' : insB (-1000000) lo hi 1000000 = true := by simpa using h
    have e2 : n - 1 - (k + 1) = m' := by omega
    have b2 := scB_bd (hA (k + 1) (by omega))
    have b3 := (insB_iff _ _ _ _).1 h'
    refine ⟨by omega, by omega, by omega, by omega, ⟨b1, b2, b3⟩, ⟨rfl, by omega, pre2⟩, ?_⟩
    rw [e2]
    simp only [thr, h', if_true]
    exact ⟨⟨rfl, rfl⟩, rfl⟩


theorem T1_ok : ∀ d, SoundSpec Try.prog 55 (S_T1 d) := by
  intro d
  induction d with
  | zero =>
    refine ⟨⟨_, Try.func55, by kernel_rfl, by kernel_rfl⟩, ?_⟩
    intro avs ns res h hn
    unfold S_T1 at h
    split at h
    · cases h
      have h3 := hn _ (List.mem_cons_of_mem _ (List.mem_cons_of_mem _ List.mem_cons_self))
      exfalso
      omega
    · cases h
  | succ d ih =>
    refine ⟨⟨_, Try.func55, by kernel_rfl, by kernel_rfl⟩, ?_⟩
    intro avs ns res h hn
    unfold S_T1 at h
    split at h
    · rename_i k lo hi n f bb
      cases h
      have h1 := hn _ List.mem_cons_self
      have h2 := hn _ (List.mem_cons_of_mem _ List.mem_cons_self)
      have h3 := hn _ (List.mem_cons_of_mem _ (List.mem_cons_of_mem _ List.mem_cons_self))
      have h4 : allS n (col 0 f) (col 1 f) = true := hn _ (List.mem_cons_of_mem _ (List.mem_cons_of_mem _ (List.mem_cons_of_mem _ List.mem_cons_self)))
      obtain ⟨k', rfl⟩ := Int.eq_ofNat_of_zero_le h3.1
      have key := Through1_at d n k' lo hi (col 0 f) (col 1 f) ih (by omega) h4
      rw [← h2] at key
      subst h1
      have e : scs n (col 0 f) (col 1 f) = .lst 2 n f := by unfold scs; rw [← h2]
      rw [e] at key
      simpa using key
    · cases h


/-- The error of Through. -/
def thE (n : Nat) (a b : Nat → Int) (lo hi : Int) : Int := if 8 < n then 3 else if n = 0 then 1 else if allS n a b then (if insB (-1000000) lo hi 1000000 then (match thr a b (n - 1) 0 lo hi with | some _ => 0 | none => 10) else 2) else 1
def thR (n : Nat) (a b : Nat → Int) (lo hi : Int) : Option (Int × Int) := if thE n a b lo hi = 0 then thr a b (n - 1) 0 lo hi else none
def S_Through : Sx.Spec := fun l => match l with
  | [.lst 2 n f, .agg [.x (.int .i64 lo), .x (.int .i64 hi)]] => some ([isRec 2 n f], .tup [rgO (thR n (col 0 f) (col 1 f) lo hi), i (thE n (col 0 f) (col 1 f) lo hi)])
  | _ => none

set_option maxRecDepth 100000 in
theorem Through_at (n : Nat) (a b : Nat → Int) (lo hi : Int) : SoundAt Try.prog 17 [scs n a b, .agg [i lo, i hi]] (.tup [rgO (thR n a b lo hi), i (thE n a b lo hi)]) := by
  refine soundAt_fin (G := [(52, S_pall), (54, S_readings), (55, S_T1 19)]) (L := []) (SoundG.cons pall_ok (SoundG.cons readings_ok (SoundG.cons (T1_ok 19) (SoundG.nil _)))) mixed Try.func17 (show Try.f17.body = some (bodyOf Try.f17) by kernel_rfl) noLoops (t := (Tree.branch (decide ((↑n : Int) > (8 : Int))) (Tree.leaf (RV.tup [RV.agg [RV.x (Value.int IntKind.i64 (0 : Int)), RV.x (Value.int IntKind.i64 (0 : Int))], RV.x (Value.int IntKind.i64 (3 : Int))])) (Tree.branch ((↑n : Int) == (0 : Int)) (Tree.leaf (RV.tup [RV.agg [RV.x (Value.int IntKind.i64 (0 : Int)), RV.x (Value.int IntKind.i64 (0 : Int))], RV.x (Value.int IntKind.i64 (1 : Int))])) (Tree.need [isRec 2 n fun k => [i (a k), i (b k)], n ≤ 100000] (Tree.branch (!allS n (col 0 fun k => [i (a k), i (b k)]) (col 1 fun k => [i (a k), i (b k)])) (Tree.leaf (RV.tup [RV.agg [RV.x (Value.int IntKind.i64 (0 : Int)), RV.x (Value.int IntKind.i64 (0 : Int))], RV.x (Value.int IntKind.i64 (1 : Int))])) (Tree.branch (!insB (-1000000 : Int) lo hi (1000000 : Int)) (Tree.leaf (RV.tup [RV.agg [RV.x (Value.int IntKind.i64 (0 : Int)), RV.x (Value.int IntKind.i64 (0 : Int))], RV.x (Value.int IntKind.i64 (2 : Int))])) (Tree.need [[AV.fn (Fn.func 55) [] [AV.ro [AV.lst 2 n fun k => [iI (a k), iI (b k)]], AV.ro [AV.fn (Fn.func 55) [] [AV.ro [AV.lst 2 n fun k => [iI (a k), iI (b k)]], AV.ro [AV.fn (Fn.func 55) [] [AV.ro [AV.lst 2 n fun k => [iI (a k), iI (b k)]], AV.ro [AV.fn (Fn.func 55) [] [AV.ro [AV.lst 2 n fun k => [iI (a k), iI (b k)]], AV.ro [AV.fn (Fn.func 55) [] [AV.ro [AV.lst 2 n fun k => [iI (a k), iI (b k)]], AV.ro [AV.fn (Fn.func 55) [] [AV.ro [AV.lst 2 n fun k => [iI (a k), iI (b k)]], AV.ro [AV.fn (Fn.func 55) [] [AV.ro [AV.lst 2 n fun k => [iI (a k), iI (b k)]], AV.ro [AV.fn (Fn.func 55) [] [AV.ro [AV.lst 2 n fun k => [iI (a k), iI (b k)]], AV.ro [AV.fn (Fn.func 55) [] [AV.ro [AV.lst 2 n fun k => [iI (a k), iI (b k)]], AV.ro [AV.fn (Fn.func 55) [] [AV.ro [AV.lst 2 n fun k => [iI (a k), iI (b k)]], AV.ro [AV.fn (Fn.func 55) [] [AV.ro [AV.lst 2 n fun k => [iI (a k), iI (b k)]], AV.ro [AV.fn (Fn.func 55) [] [AV.ro [AV.lst 2 n fun k => [iI (a k), iI (b k)]], AV.ro [AV.fn (Fn.func 55) [] [AV.ro [AV.lst 2 n fun k => [iI (a k), iI (b k)]], AV.ro [AV.fn (Fn.func 55) [] [AV.ro [AV.lst 2 n fun k => [iI (a k), iI (b k)]], AV.ro [AV.fn (Fn.func 55) [] [AV.ro [AV.lst 2 n fun k => [iI (a k), iI (b k)]], AV.ro [AV.fn (Fn.func 55) [] [AV.ro [AV.lst 2 n fun k => [iI (a k), iI (b k)]], AV.ro [AV.fn (Fn.func 55) [] [AV.ro [AV.lst 2 n fun k => [iI (a k), iI (b k)]], AV.ro [AV.fn (Fn.func 55) [] [AV.ro [AV.lst 2 n fun k => [iI (a k), iI (b k)]], AV.ro [AV.fn (Fn.func 55) [] [AV.ro [AV.lst 2 n fun k => [iI (a k), iI (b k)]], AV.ro [AV.fn (Fn.func 55) [] [AV.top, AV.top]]]]]]]]]]]]]]]]]]]]]]]]]]]]]]]]]]]]]]]] = [AV.fn (Fn.func 55) [] [AV.ro [AV.lst 2 n fun k => [iI (a k), iI (b k)]], AV.ro [AV.fn (Fn.func 55) [] [AV.ro [AV.lst 2 n fun k => [iI (a k), iI (b k)]], AV.ro [AV.fn (Fn.func 55) [] [AV.ro [AV.lst 2 n fun k => [iI (a k), iI (b k)]], AV.ro [AV.fn (Fn.func 55) [] [AV.ro [AV.lst 2 n fun k => [iI (a k), iI (b k)]], AV.ro [AV.fn (Fn.func 55) [] [AV.ro [AV.lst 2 n fun k => [iI (a k), iI (b k)]], AV.ro [AV.fn (Fn.func 55) [] [AV.ro [AV.lst 2 n fun k => [iI (a k), iI (b k)]], AV.ro [AV.fn (Fn.func 55) [] [AV.ro [AV.lst 2 n fun k => [iI (a k), iI (b k)]], AV.ro [AV.fn (Fn.func 55) [] [AV.ro [AV.lst 2 n fun k => [iI (a k), iI (b k)]], AV.ro [AV.fn (Fn.func 55) [] [AV.ro [AV.lst 2 n fun k => [iI (a k), iI (b k)]], AV.ro [AV.fn (Fn.func 55) [] [AV.ro [AV.lst 2 n fun k => [iI (a k), iI (b k)]], AV.ro [AV.fn (Fn.func 55) [] [AV.ro [AV.lst 2 n fun k => [iI (a k), iI (b k)]], AV.ro [AV.fn (Fn.func 55) [] [AV.ro [AV.lst 2 n fun k => [iI (a k), iI (b k)]], AV.ro [AV.fn (Fn.func 55) [] [AV.ro [AV.lst 2 n fun k => [iI (a k), iI (b k)]], AV.ro [AV.fn (Fn.func 55) [] [AV.ro [AV.lst 2 n fun k => [iI (a k), iI (b k)]], AV.ro [AV.fn (Fn.func 55) [] [AV.ro [AV.lst 2 n fun k => [iI (a k), iI (b k)]], AV.ro [AV.fn (Fn.func 55) [] [AV.ro [AV.lst 2 n fun k => [iI (a k), iI (b k)]], AV.ro [AV.fn (Fn.func 55) [] [AV.ro [AV.lst 2 n fun k => [iI (a k), iI (b k)]], AV.ro [AV.fn (Fn.func 55) [] [AV.ro [AV.lst 2 n fun k => [iI (a k), iI (b k)]], AV.ro [AV.fn (Fn.func 55) [] [AV.ro [AV.lst 2 n fun k => [iI (a k), iI (b k)]], AV.ro [AV.fn (Fn.func 55) [] [AV.top, AV.top]]]]]]]]]]]]]]]]]]]]]]]]]]]]]]]]]]]]]]]], (fun k => [i (a k), i (b k)]) = fun k => [i (col 0 (fun k => [i (a k), i (b k)]) k), i (col 1 (fun k => [i (a k), i (b k)]) k)], (0 : Int) ≤ (0 : Int) ∧ (0 : Int) < (↑n : Int) ∧ (↑n : Int) ≤ (0 : Int) + (↑(19 : Nat) : Int) ∧ n ≤ 1000, allS n (col 0 fun k => [i (a k), i (b k)]) (col 1 fun k => [i (a k), i (b k)]) = true] (Tree.leaf (RV.tup [RV.agg [RV.x (Value.int IntKind.i64 (match thr (col 0 fun k => [i (a k), i (b k)]) (col 1 fun k => [i (a k), i (b k)]) (n - 1 - Int.toNat (0 : Int)) (Int.toNat (0 : Int)) lo hi with | some p => Prod.fst p | none => (0 : Int))), RV.x (Value.int IntKind.i64 (match thr (col 0 fun k => [i (a k), i (b k)]) (col 1 fun k => [i (a k), i (b k)]) (n - 1 - Int.toNat (0 : Int)) (Int.toNat (0 : Int)) lo hi with | some p => Prod.snd p | none => (0 : Int)))], RV.x (Value.int IntKind.i64 (match thr (col 0 fun k => [i (a k), i (b k)]) (col 1 fun k => [i (a k), i (b k)]) (n - 1 - Int.toNat (0 : Int)) (Int.toNat (0 : Int)) lo hi with | some val => (0 : Int) | none => (10 : Int)))]))))))))) (by kernel_rfl) ?_
  have c0 : col 0 (fun k => [i (a k), i (b k)]) = a := rfl
  have c1 : col 1 (fun k => [i (a k), i (b k)]) = b := rfl
  simp only [Tree.sat, allP, fitP, fitL, valEq, true_and, and_true, c0, c1, decide_eq_true_eq, decide_eq_false_iff_not, rgO, thR, thE]
  refine ⟨fun h => ?_, fun h => ?_⟩
  · simp [show 8 < n by omega]
  have h8 : ¬ 8 < n := by omega
  refine ⟨fun h2 => ?_, fun h2 => ?_⟩
  · have : n = 0 := by simp at h2; omega
    simp [this]
  have h0 : n ≠ 0 := by intro h; subst h; simp at h2
  refine ⟨⟨isRec2 n _ _, by omega⟩, fun h3 => ?_, fun h3 => ?_⟩
  · have : allS n a b = false := by simpa using h3
    simp [h8, h0, this]
  have h3' : allS n a b = true := by simpa using h3
  refine ⟨fun h4 => ?_, fun h4 => ?_⟩
  · have : insB (-1000000) lo hi 1000000 = false := by simpa using h4
    simp [h8, h0, h3', this]
  have h4' : insB (-1000000) lo hi 1000000 = true := by simpa using h4
  refine ⟨⟨by omega, h3'⟩, ?_⟩
  simp only [h8, h0, h3', h4', if_true, if_false, Nat.sub_zero, Int.toNat_zero]
  cases ht : thr a b (n - 1) 0 lo hi <;> simp


theorem Through_ok : SoundSpec Try.prog 17 S_Through := by
  refine ⟨⟨_, Try.func17, by kernel_rfl, by kernel_rfl⟩, ?_⟩
  intro avs ns res h hn
  unfold S_Through at h
  split at h
  · rename_i n f lo hi
    cases h
    have hr : isRec 2 n f := hn _ (by simp)
    exact (Through_at n (col 0 f) (col 1 f) lo hi).same (.cons (.lst 2 n _ _ hr) (.cons (.refl _) .nil))
  · cases h


/-- The error of Convert; what can stand. -/
def cvE (a b c d lo hi : Int) : Int := if scB a b && scB c d then (if insB (-1000000) lo hi 1000000 then (if insB (-1000000) (stLo a b c d lo hi) (stHi a b c d lo hi) 1000000 then 0 else 10) else 2) else 1
def cvLo (a b c d lo hi : Int) : Int := if cvE a b c d lo hi = 0 then stLo a b c d lo hi else 0
def cvHi (a b c d lo hi : Int) : Int := if cvE a b c d lo hi = 0 then stHi a b c d lo hi else 0
theorem thE_two (p q : Nat → Int) (lo hi : Int) : thE 2 p q lo hi = cvE (p 0) (q 0) (p 1) (q 1) lo hi := by
  unfold thE cvE
  simp only [allS, allI, thr, Bool.true_and]
  cases scB (p 0) (q 0) && scB (p 1) (q 1) <;> simp
  cases insB (-1000000) lo hi 1000000 <;> simp
  cases insB (-1000000) (stLo (p 0) (q 0) (p 1) (q 1) lo hi) (stHi (p 0) (q 0) (p 1) (q 1) lo hi) 1000000 <;> simp
theorem thR_two (p q : Nat → Int) (lo hi : Int) : rgO (thR 2 p q lo hi) = .agg [i (cvLo (p 0) (q 0) (p 1) (q 1) lo hi), i (cvHi (p 0) (q 0) (p 1) (q 1) lo hi)] := by
  unfold thR cvLo cvHi
  rw [thE_two]
  by_cases h : cvE (p 0) (q 0) (p 1) (q 1) lo hi = 0
  · simp only [h, if_true]
    have h2 := h
    unfold cvE at h2
    split at h2
    · split at h2
      · split at h2
        · rename_i h3 h4 h5
          simp [thr, h4, h5, rgO]
        · omega
      · omega
    · omega
  · simp [h, rgO]

def S_Convert : Sx.Spec := fun l => match l with
  | [.agg [.x (.int .i64 a), .x (.int .i64 b)], .agg [.x (.int .i64 c), .x (.int .i64 d)], .agg [.x (.int .i64 lo), .x (.int .i64 hi)]] => some ([], .tup [.agg [i (cvLo a b c d lo hi), i (cvHi a b c d lo hi)], i (cvE a b c d lo hi)])
  | _ => none

set_option maxRecDepth 100000 in
theorem Convert_at (a b c d lo hi : Int) : SoundAt Try.prog 22 [.agg [i a, i b], .agg [i c, i d], .agg [i lo, i hi]] (.tup [.agg [i (cvLo a b c d lo hi), i (cvHi a b c d lo hi)], i (cvE a b c d lo hi)]) := by
  refine soundAt_fin (G := [(17, S_Through)]) (L := []) (SoundG.cons Through_ok (SoundG.nil _)) mixed Try.func22 (show Try.f22.body = some (bodyOf Try.f22) by kernel_rfl) noLoops (t := (Tree.need [isRec 2 2 (chunk 2 [iI a, iI b, iI c, iI d])] (Tree.leaf (RV.tup [RV.agg [RV.x (Value.int IntKind.i64 (match thR 2 (col 0 (chunk 2 [iI a, iI b, iI c, iI d])) (col 1 (chunk 2 [iI a, iI b, iI c, iI d])) lo hi with | some p => Prod.fst p | none => (0 : Int))), RV.x (Value.int IntKind.i64 (match thR 2 (col 0 (chunk 2 [iI a, iI b, iI c, iI d])) (col 1 (chunk 2 [iI a, iI b, iI c, iI d])) lo hi with | some p => Prod.snd p | none => (0 : Int)))], RV.x (Value.int IntKind.i64 (thE 2 (col 0 (chunk 2 [iI a, iI b, iI c, iI d])) (col 1 (chunk 2 [iI a, iI b, iI c, iI d])) lo hi))])))) (by kernel_rfl) ?_
  have e1 := thR_two (col 0 (chunk 2 [i a, i b, i c, i d])) (col 1 (chunk 2 [i a, i b, i c, i d])) lo hi
  have e2 := thE_two (col 0 (chunk 2 [i a, i b, i c, i d])) (col 1 (chunk 2 [i a, i b, i c, i d])) lo hi
  simp only [Tree.sat, allP, fitP, fitL, valEq, true_and, and_true]
  refine ⟨fun k hk => ?_, ⟨?_, ?_⟩, e2⟩
  · rcases (show k = 0 ∨ k = 1 by omega) with rfl | rfl <;> rfl
  · unfold rgO at e1
    simp only [AV.agg.injEq, List.cons.injEq, AV.x.injEq, Value.int.injEq, true_and, and_true] at e1
    exact e1.1
  · unfold rgO at e1
    simp only [AV.agg.injEq, List.cons.injEq, AV.x.injEq, Value.int.injEq, true_and, and_true] at e1
    exact e1.2
theorem Convert_ok : SoundSpec Try.prog 22 S_Convert := by
  refine ⟨⟨_, Try.func22, by kernel_rfl, by kernel_rfl⟩, ?_⟩
  intro avs ns res h hn
  unfold S_Convert at h
  split at h
  · cases h
    exact Convert_at _ _ _ _ _ _
  · cases h

end Go.Proofs.Ytchcegfhamngkaa
/- Contracts of functions of the program, by the engine Sx: what each call comes to. Printed by a program of this repo (sxgen.py). -/
set_option linter.unusedSimpArgs false
set_option linter.unusedVariables false
namespace Go.Proofs.Ytchcegfhamngkaa
open Go Go.Sx Go.RowKit

def wy (c d : Int) : Int := if d < c then -1 else 1
/-- The first number of steps at which a reading is not too low; the last one at which it is not too high. -/
def stF (a b c d lo hi : Int) : Int := ceI (alLo a b lo hi * sizeI c d - sizeI a b) (2 * sizeI a b)
def stL (a b c d lo hi : Int) : Int := (alHi a b lo hi * sizeI c d + sizeI a b) / (2 * sizeI a b)
theorem al_wy {c d n : Int} (h : c ≠ d) : alHi c d (c + wy c d * n) (c + wy c d * n) = 2 * n + 1 ∧ alLo c d (c + wy c d * n) (c + wy c d * n) = 2 * n - 1 := by
  unfold alHi alLo wy
  split
  · rw [if_neg (by omega)]; omega
  · rw [if_pos (by omega)]; omega
theorem low_wy {a b c d lo hi n : Int} (h : c ≠ d) (hs : 2 ≤ sizeI a b) : lowB c d (c + wy c d * n) a b lo hi = decide (n < stF a b c d lo hi) := by
  unfold lowB stF ceI
  rw [(al_wy h).1]
  rw [Bool.eq_iff_iff, decide_eq_true_eq, decide_eq_true_eq]
  have e : (2 * n + 1) * sizeI a b = n * (2 * sizeI a b) + sizeI a b := by rw [Int.add_mul, Int.mul_comm 2 n, Int.mul_assoc]; omega
  rw [e]
  have key : (-(alLo a b lo hi * sizeI c d - sizeI a b)) / (2 * sizeI a b) < -n ↔ -(alLo a b lo hi * sizeI c d - sizeI a b) < -n * (2 * sizeI a b) := Int.ediv_lt_iff_lt_mul (by omega)
  rw [Int.neg_mul] at key
  omega
theorem high_wy {a b c d lo hi n : Int} (h : c ≠ d) (hs : 2 ≤ sizeI a b) : highB c d (c + wy c d * n) a b lo hi = decide (stL a b c d lo hi < n) := by
  unfold highB stL
  rw [(al_wy h).2]
  rw [Bool.eq_iff_iff, decide_eq_true_eq, decide_eq_true_eq]
  have e : (2 * n - 1) * sizeI a b = n * (2 * sizeI a b) - sizeI a b := by rw [Int.sub_mul, Int.mul_comm 2 n, Int.mul_assoc]; omega
  rw [e]
  have key : (alHi a b lo hi * sizeI c d + sizeI a b) / (2 * sizeI a b) < n ↔ (alHi a b lo hi * sizeI c d + sizeI a b) < n * (2 * sizeI a b) := Int.ediv_lt_iff_lt_mul (by omega)
  omega
theorem stF_bd {a b c d lo hi : Int} (h : -1000 ≤ a ∧ a ≤ 1000 ∧ -1000 ≤ b ∧ b ≤ 1000 ∧ a ≠ b) (k : -1000 ≤ c ∧ c ≤ 1000 ∧ -1000 ≤ d ∧ d ≤ 1000 ∧ c ≠ d) (r : -1000000 ≤ lo ∧ lo ≤ hi ∧ hi ≤ 1000000) :
    -16000000000 ≤ stF a b c d lo hi ∧ stF a b c d lo hi ≤ stL a b c d lo hi ∧ stL a b c d lo hi ≤ 16000000000 := by
  have e := al_bdx (a := a) (b := b) (lo := lo) (hi := hi) (R := 1000000) (by omega) (by omega)
  have s1 := sizeI_pos h.2.2.2.2
  have s2 := sizeI_le (a := a) (b := b) (by omega)
  have s3 := sizeI_pos k.2.2.2.2
  have s4 := sizeI_le (a := c) (b := d) (by omega)
  have m1 := mul_bd (x := alLo a b lo hi) (y := sizeI c d) (X := 2002001) (Y := 4000) (by omega) (by omega)
  have m2 := mul_bd (x := alHi a b lo hi) (y := sizeI c d) (X := 2002001) (Y := 4000) (by omega) (by omega)
  have f1 := ce_bd (n := alLo a b lo hi * sizeI c d - sizeI a b) (d := 2 * sizeI a b) (N := 9000000000) (by omega) (by omega)
  have f2 := div_bd (n := alHi a b lo hi * sizeI c d + sizeI a b) (d := 2 * sizeI a b) (N := 9000000000) (by omega) (by omega)
  refine ⟨by unfold stF; omega, ?_, by unfold stL; omega⟩
  unfold stL
  rw [Int.le_ediv_iff_mul_le (by omega)]
  have hm : (alLo a b lo hi + 1) * sizeI c d ≤ alHi a b lo hi * sizeI c d := Int.mul_le_mul_of_nonneg_right (by omega) (by omega)
  rw [Int.add_mul] at hm
  have hc : stF a b c d lo hi * (2 * sizeI a b) < alLo a b lo hi * sizeI c d - sizeI a b + 2 * sizeI a b := by
    have := Int.lt_ediv_add_one_mul_self (-(alLo a b lo hi * sizeI c d - sizeI a b)) (show 0 < 2 * sizeI a b by omega)
    unfold stF ceI
    rw [Int.neg_mul]
    rw [Int.add_mul] at this
    omega
  omega

noncomputable def E_st1 (a b c d lo hi : Int) : St := (some
  {
    σ :=
      [AV.agg [AV.x (Value.int IntKind.i64 a), AV.x (Value.int IntKind.i64 b)],
        AV.agg [AV.x (Value.int IntKind.i64 c), AV.x (Value.int IntKind.i64 d)],
        AV.agg [AV.x (Value.int IntKind.i64 lo), AV.x (Value.int IntKind.i64 hi)], AV.ptr (0 : Nat) (0 : Nat),
        AV.ptr (1 : Nat) (0 : Nat), AV.ptr (2 : Nat) (0 : Nat), AV.ptr (3 : Nat) (0 : Nat),
        AV.x (Value.int IntKind.i64 (1 : Int)), AV.top, AV.top, AV.top, AV.top, AV.top, AV.top, AV.top,
        AV.ptr (1 : Nat) (1 : Nat), AV.x (Value.int IntKind.i64 d), AV.ptr (1 : Nat) (0 : Nat),
        AV.x (Value.int IntKind.i64 c), AV.lit false, AV.top, AV.top, AV.top, AV.top, AV.top, AV.top, AV.top, AV.top,
        AV.top, AV.top, AV.top, AV.top, AV.top, AV.top, AV.top, AV.top, AV.top, AV.top, AV.top, AV.top, AV.top, AV.top,
        AV.top, AV.top, AV.top, AV.top, AV.top, AV.top, AV.top, AV.top, AV.top, AV.top, AV.top, AV.top, AV.top, AV.top,
        AV.top, AV.top, AV.top, AV.top, AV.top, AV.top, AV.top, AV.top, AV.top, AV.top, AV.top, AV.top, AV.top, AV.top,
        AV.top, AV.top, AV.top, AV.top, AV.top, AV.top, AV.top, AV.top, AV.top, AV.top],
    m :=
      [((3 : Nat),
          Res.cells (24 : Nat) [AV.x (Value.int IntKind.i64 (0 : Int)), AV.x (Value.int IntKind.i64 (0 : Int))]),
        ((2 : Nat), Res.cells (24 : Nat) [AV.x (Value.int IntKind.i64 lo), AV.x (Value.int IntKind.i64 hi)]),
        ((1 : Nat), Res.cells (40 : Nat) [AV.x (Value.int IntKind.i64 c), AV.x (Value.int IntKind.i64 d)]),
        ((0 : Nat), Res.cells (40 : Nat) [AV.x (Value.int IntKind.i64 a), AV.x (Value.int IntKind.i64 b)])],
    nx := (12 : Nat) } : Option St).getD { σ := [], m := [], nx := 0 }
noncomputable def B_st1 : Code := loopBody (loopAt (bodyOf Try.f24) 0)
noncomputable def inv_st1 (a b c d lo hi : Int) (l h : Int) : St := { σ := ovrS [(7, i (wy c d)), (8, i l), (9, i h), (19, .top)] (E_st1 a b c d lo hi).σ, m := (E_st1 a b c d lo hi).m, nx := (E_st1 a b c d lo hi).nx }
noncomputable def out_st1 (a b c d lo hi : Int) (l h : Int) : AEx → Option St := fun ex => match ex with
  | .exit 0 => some { σ := ovrS [(7, i (wy c d)), (9, i (stF a b c d lo hi)), (19, .top)] (E_st1 a b c d lo hi).σ, m := (E_st1 a b c d lo hi).m, nx := (E_st1 a b c d lo hi).nx }
  | _ => none
noncomputable def T_st1 (a b c d lo hi : Int) : CT := .leaf (.exit 0, ( out_st1 a b c d lo hi 0 0 (.exit 0)).getD (E_st1 a b c d lo hi))
noncomputable def LS_st1 (a b c d lo hi : Int) : LSpec := (sumL (inv_st1 a b c d lo hi (-17179869184) (17179869184)) (T_st1 a b c d lo hi))
set_option maxRecDepth 100000 in
theorem st1_ls (a b c d lo hi : Int) (pre0 : -1000 ≤ a ∧ a ≤ 1000 ∧ -1000 ≤ b ∧ b ≤ 1000 ∧ a ≠ b) (pre1 : -1000 ≤ c ∧ c ≤ 1000 ∧ -1000 ≤ d ∧ d ≤ 1000 ∧ c ≠ d) (pre2 : -1000000 ≤ lo ∧ lo ≤ hi ∧ hi ≤ 1000000) : LSound Try.prog (.loop B_st1) (LS_st1 a b c d lo hi) := by
  refine loop_rounds (G := [(57, S_rFloor), (58, S_rLow)]) (L := []) (SoundG.cons rFloor_ok (SoundG.cons rLow_ok (SoundG.nil _))) mixed noLoops (X := Int × Int) (fun x => inv_st1 a b c d lo hi x.1 x.2) (fun x => (fun (l h : Int) => -17179869184 ≤ l ∧ l < stF a b c d lo hi ∧ stF a b c d lo hi ≤ h ∧ h ≤ 17179869184) x.1 x.2) (fun x => (fun (l h : Int) => (h - l).toNat) x.1 x.2) (fun x => out_st1 a b c d lo hi x.1 x.2) (x0 := (-17179869184, 17179869184)) (by have := stF_bd pre0 pre1 pre2; dsimp only; omega) ?_ ?_ ?_
  · rintro ⟨l, h⟩
    kernel_rfl
  · rintro ⟨l, h⟩ y E h
    dsimp only at h
    unfold out_st1 at h
    split at h
    · cases h; kernel_rfl
    · cases h
  · rintro Q hQ ⟨l, h⟩ hx
    refine ⟨(if lowB c d (c + wy c d * ((l + h) / 2)) a b lo hi then (l + h) / 2 else l, if lowB c d (c + wy c d * ((l + h) / 2)) a b lo hi then h else (l + h) / 2), ?_⟩
    dsimp only at hx ⊢
    have e : roundT Try.prog [(57, S_rFloor), (58, S_rLow)] [] B_st1 (inv_st1 a b c d lo hi l h) (inv_st1 a b c d lo hi (if lowB c d (c + wy c d * ((l + h) / 2)) a b lo hi then (l + h) / 2 else l) (if lowB c d (c + wy c d * ((l + h) / 2)) a b lo hi then h else (l + h) / 2)) (out_st1 a b c d lo hi l h) = (Tree.need [inI64 (h - l)] (Tree.branch (decide (h - l > (1 : Int))) (Tree.need [inI64 (l + h)] (Tree.need [(-4611686018427387904 : Int) ≤ l + h ∧ l + h ≤ (4611686018427387904 : Int), (1 : Int) ≤ (2 : Int) ∧ (2 : Int) ≤ (4000000000000 : Int)] (Tree.need [inI64 (wy c d * ((l + h) / (2 : Int)))] (Tree.need [inI64 (c + wy c d * ((l + h) / (2 : Int)))] (Tree.need [(-1000 : Int) ≤ a ∧ a ≤ (1000 : Int) ∧ (-1000 : Int) ≤ b ∧ b ≤ (1000 : Int) ∧ (-1000 : Int) ≤ c ∧ c ≤ (1000 : Int) ∧ (-1000 : Int) ≤ d ∧ d ≤ (1000 : Int), (-1000000 : Int) ≤ lo ∧ lo ≤ hi ∧ hi ≤ (1000000 : Int), (-100000000000 : Int) ≤ c + wy c d * ((l + h) / (2 : Int)) ∧ c + wy c d * ((l + h) / (2 : Int)) ≤ (100000000000 : Int)] (Tree.branch (lowB c d (c + wy c d * ((l + h) / (2 : Int))) a b lo hi) (Tree.need [AV.agg [iI a, iI b] = AV.agg [iI a, iI b], AV.agg [iI c, iI d] = AV.agg [iI c, iI d], AV.agg [iI lo, iI hi] = AV.agg [iI lo, iI hi], AV.ptr 0 0 = AV.ptr 0 0, AV.ptr 1 0 = AV.ptr 1 0, AV.ptr 2 0 = AV.ptr 2 0, AV.ptr 3 0 = AV.ptr 3 0, wy c d = wy c d, (l + h) / (2 : Int) = if lowB c d (c + wy c d * ((l + h) / (2 : Int))) a b lo hi = true then (l + h) / (2 : Int) else l, h = if lowB c d (c + wy c d * ((l + h) / (2 : Int))) a b lo hi = true then h else (l + h) / (2 : Int), AV.ptr 1 1 = AV.ptr 1 1, d = d, AV.ptr 1 0 = AV.ptr 1 0, c = c, (0 : Int) = (0 : Int), (0 : Int) = (0 : Int), lo = lo, hi = hi, c = c, d = d, a = a, b = b] (Tree.leaf AEx.normal)) (Tree.need [AV.agg [iI a, iI b] = AV.agg [iI a, iI b], AV.agg [iI c, iI d] = AV.agg [iI c, iI d], AV.agg [iI lo, iI hi] = AV.agg [iI lo, iI hi], AV.ptr 0 0 = AV.ptr 0 0, AV.ptr 1 0 = AV.ptr 1 0, AV.ptr 2 0 = AV.ptr 2 0, AV.ptr 3 0 = AV.ptr 3 0, wy c d = wy c d, l = if lowB c d (c + wy c d * ((l + h) / (2 : Int))) a b lo hi = true then (l + h) / (2 : Int) else l, (l + h) / (2 : Int) = if lowB c d (c + wy c d * ((l + h) / (2 : Int))) a b lo hi = true then h else (l + h) / (2 : Int), AV.ptr 1 1 = AV.ptr 1 1, d = d, AV.ptr 1 0 = AV.ptr 1 0, c = c, (0 : Int) = (0 : Int), (0 : Int) = (0 : Int), lo = lo, hi = hi, c = c, d = d, a = a, b = b] (Tree.leaf AEx.normal)))))))) (Tree.need [AV.agg [iI a, iI b] = AV.agg [iI a, iI b], AV.agg [iI c, iI d] = AV.agg [iI c, iI d], AV.agg [iI lo, iI hi] = AV.agg [iI lo, iI hi], AV.ptr 0 0 = AV.ptr 0 0, AV.ptr 1 0 = AV.ptr 1 0, AV.ptr 2 0 = AV.ptr 2 0, AV.ptr 3 0 = AV.ptr 3 0, wy c d = wy c d, h = stF a b c d lo hi, AV.ptr 1 1 = AV.ptr 1 1, d = d, AV.ptr 1 0 = AV.ptr 1 0, c = c, (0 : Int) = (0 : Int), (0 : Int) = (0 : Int), lo = lo, hi = hi, c = c, d = d, a = a, b = b] (Tree.leaf (AEx.exit 0))))) := by kernel_rfl
    rw [e]
    obtain ⟨f1, f2, f3⟩ := stF_bd pre0 pre1 pre2
    have s1 := sizeI_pos pre0.2.2.2.2
    have hw : (l + h) / 2 * 1 = (l + h) / 2 := by omega
    have hwy : wy c d * ((l + h) / 2) = (l + h) / 2 ∨ wy c d * ((l + h) / 2) = -((l + h) / 2) := by unfold wy; split <;> simp
    simp only [T_st1, out_st1, Tree.sat, Option.getD_some] at hQ
    simp only [Tree.sat, allP, true_and, and_true, decide_eq_true_eq, decide_eq_false_iff_not, inI64, out_st1, low_wy pre1.2.2.2.2 s1]
    refine ⟨by omega, fun h1 => ⟨by omega, by omega, by omega, by omega, by omega, fun h2 => ?_, fun h2 => ?_⟩, fun h1 => ?_⟩
    · simp only [h2, if_true, if_false, decide_true, true_and, and_true]
      omega
    · simp only [h2, if_true, if_false, decide_false, Bool.false_eq_true, true_and, and_true]
      omega
    · refine ⟨by omega, fun E hE => ?_⟩
      cases hE
      exact hQ

noncomputable def E_st2 (a b c d lo hi : Int) : St := (some
  {
    σ :=
      [AV.agg [AV.x (Value.int IntKind.i64 a), AV.x (Value.int IntKind.i64 b)],
        AV.agg [AV.x (Value.int IntKind.i64 c), AV.x (Value.int IntKind.i64 d)],
        AV.agg [AV.x (Value.int IntKind.i64 lo), AV.x (Value.int IntKind.i64 hi)], AV.ptr (0 : Nat) (0 : Nat),
        AV.ptr (1 : Nat) (0 : Nat), AV.ptr (2 : Nat) (0 : Nat), AV.ptr (3 : Nat) (0 : Nat),
        AV.x (Value.int IntKind.i64 (wy c d)), AV.top, AV.top, AV.top, AV.x (Value.int IntKind.i64 (stF a b c d lo hi)),
        AV.top, AV.top, AV.top, AV.ptr (1 : Nat) (1 : Nat), AV.x (Value.int IntKind.i64 d), AV.ptr (1 : Nat) (0 : Nat),
        AV.x (Value.int IntKind.i64 c), AV.top, AV.top, AV.top, AV.top, AV.top, AV.top, AV.top, AV.top, AV.top, AV.top,
        AV.top, AV.top, AV.top, AV.top, AV.top, AV.top, AV.top, AV.top, AV.top, AV.top, AV.top,
        AV.x (Value.int IntKind.i64 (stF a b c d lo hi)), AV.top, AV.top, AV.top, AV.top, AV.top, AV.top, AV.top,
        AV.top, AV.top, AV.top, AV.top, AV.top, AV.top, AV.top, AV.top, AV.top, AV.top, AV.top, AV.top, AV.top, AV.top,
        AV.top, AV.top, AV.top, AV.top, AV.top, AV.top, AV.top, AV.top, AV.top, AV.top, AV.top, AV.top, AV.top, AV.top,
        AV.top, AV.top, AV.top, AV.top],
    m :=
      [((3 : Nat),
          Res.cells (24 : Nat) [AV.x (Value.int IntKind.i64 (0 : Int)), AV.x (Value.int IntKind.i64 (0 : Int))]),
        ((2 : Nat), Res.cells (24 : Nat) [AV.x (Value.int IntKind.i64 lo), AV.x (Value.int IntKind.i64 hi)]),
        ((1 : Nat), Res.cells (40 : Nat) [AV.x (Value.int IntKind.i64 c), AV.x (Value.int IntKind.i64 d)]),
        ((0 : Nat), Res.cells (40 : Nat) [AV.x (Value.int IntKind.i64 a), AV.x (Value.int IntKind.i64 b)])],
    nx := (16 : Nat) } : Option St).getD { σ := [], m := [], nx := 0 }
noncomputable def B_st2 : Code := loopBody (loopAt (bodyOf Try.f24) 1)
noncomputable def inv_st2 (a b c d lo hi : Int) (l h : Int) : St := { σ := ovrS [(7, i (wy c d)), (8, i l), (9, i h), (11, i (stF a b c d lo hi)), (19, .top)] (E_st2 a b c d lo hi).σ, m := (E_st2 a b c d lo hi).m, nx := (E_st2 a b c d lo hi).nx }
noncomputable def out_st2 (a b c d lo hi : Int) (l h : Int) : AEx → Option St := fun ex => match ex with
  | .exit 2 => some { σ := ovrS [(7, i (wy c d)), (8, i (stL a b c d lo hi)), (11, i (stF a b c d lo hi)), (19, .top)] (E_st2 a b c d lo hi).σ, m := (E_st2 a b c d lo hi).m, nx := (E_st2 a b c d lo hi).nx }
  | _ => none
noncomputable def T_st2 (a b c d lo hi : Int) : CT := .leaf (.exit 2, ( out_st2 a b c d lo hi 0 0 (.exit 2)).getD (E_st2 a b c d lo hi))
noncomputable def LS_st2 (a b c d lo hi : Int) : LSpec := (sumL (inv_st2 a b c d lo hi (-17179869184) (17179869184)) (T_st2 a b c d lo hi))
set_option maxRecDepth 100000 in
theorem st2_ls (a b c d lo hi : Int) (pre0 : -1000 ≤ a ∧ a ≤ 1000 ∧ -1000 ≤ b ∧ b ≤ 1000 ∧ a ≠ b) (pre1 : -1000 ≤ c ∧ c ≤ 1000 ∧ -1000 ≤ d ∧ d ≤ 1000 ∧ c ≠ d) (pre2 : -1000000 ≤ lo ∧ lo ≤ hi ∧ hi ≤ 1000000) : LSound Try.prog (.loop B_st2) (LS_st2 a b c d lo hi) := by
  refine loop_rounds (G := [(57, S_rFloor), (59, S_rHigh)]) (L := []) (SoundG.cons rFloor_ok (SoundG.cons rHigh_ok (SoundG.nil _))) mixed noLoops (X := Int × Int) (fun x => inv_st2 a b c d lo hi x.1 x.2) (fun x => (fun (l h : Int) => -17179869184 ≤ l ∧ l ≤ stL a b c d lo hi ∧ stL a b c d lo hi < h ∧ h ≤ 17179869184) x.1 x.2) (fun x => (fun (l h : Int) => (h - l).toNat) x.1 x.2) (fun x => out_st2 a b c d lo hi x.1 x.2) (x0 := (-17179869184, 17179869184)) (by have := stF_bd pre0 pre1 pre2; dsimp only; omega) ?_ ?_ ?_
  · rintro ⟨l, h⟩
    kernel_rfl
  · rintro ⟨l, h⟩ y E h
    dsimp only at h
    unfold out_st2 at h
    split at h
    · cases h; kernel_rfl
    · cases h
  · rintro Q hQ ⟨l, h⟩ hx
    refine ⟨(if highB c d (c + wy c d * ((l + h) / 2)) a b lo hi then l else (l + h) / 2, if highB c d (c + wy c d * ((l + h) / 2)) a b lo hi then (l + h) / 2 else h), ?_⟩
    dsimp only at hx ⊢
    have e : roundT Try.prog [(57, S_rFloor), (59, S_rHigh)] [] B_st2 (inv_st2 a b c d lo hi l h) (inv_st2 a b c d lo hi (if highB c d (c + wy c d * ((l + h) / 2)) a b lo hi then l else (l + h) / 2) (if highB c d (c + wy c d * ((l + h) / 2)) a b lo hi then (l + h) / 2 else h)) (out_st2 a b c d lo hi l h) = (Tree.need [inI64 (h - l)] (Tree.branch (decide (h - l > (1 : Int))) (Tree.need [inI64 (l + h)] (Tree.need [(-4611686018427387904 : Int) ≤ l + h ∧ l + h ≤ (4611686018427387904 : Int), (1 : Int) ≤ (2 : Int) ∧ (2 : Int) ≤ (4000000000000 : Int)] (Tree.need [inI64 (wy c d * ((l + h) / (2 : Int)))] (Tree.need [inI64 (c + wy c d * ((l + h) / (2 : Int)))] (Tree.need [(-1000 : Int) ≤ a ∧ a ≤ (1000 : Int) ∧ (-1000 : Int) ≤ b ∧ b ≤ (1000 : Int) ∧ (-1000 : Int) ≤ c ∧ c ≤ (1000 : Int) ∧ (-1000 : Int) ≤ d ∧ d ≤ (1000 : Int), (-1000000 : Int) ≤ lo ∧ lo ≤ hi ∧ hi ≤ (1000000 : Int), (-100000000000 : Int) ≤ c + wy c d * ((l + h) / (2 : Int)) ∧ c + wy c d * ((l + h) / (2 : Int)) ≤ (100000000000 : Int)] (Tree.branch (highB c d (c + wy c d * ((l + h) / (2 : Int))) a b lo hi) (Tree.need [AV.agg [iI a, iI b] = AV.agg [iI a, iI b], AV.agg [iI c, iI d] = AV.agg [iI c, iI d], AV.agg [iI lo, iI hi] = AV.agg [iI lo, iI hi], AV.ptr 0 0 = AV.ptr 0 0, AV.ptr 1 0 = AV.ptr 1 0, AV.ptr 2 0 = AV.ptr 2 0, AV.ptr 3 0 = AV.ptr 3 0, wy c d = wy c d, l = if highB c d (c + wy c d * ((l + h) / (2 : Int))) a b lo hi = true then l else (l + h) / (2 : Int), (l + h) / (2 : Int) = if highB c d (c + wy c d * ((l + h) / (2 : Int))) a b lo hi = true then (l + h) / (2 : Int) else h, stF a b c d lo hi = stF a b c d lo hi, AV.ptr 1 1 = AV.ptr 1 1, d = d, AV.ptr 1 0 = AV.ptr 1 0, c = c, stF a b c d lo hi = stF a b c d lo hi, (0 : Int) = (0 : Int), (0 : Int) = (0 : Int), lo = lo, hi = hi, c = c, d = d, a = a, b = b] (Tree.leaf AEx.normal)) (Tree.need [AV.agg [iI a, iI b] = AV.agg [iI a, iI b], AV.agg [iI c, iI d] = AV.agg [iI c, iI d], AV.agg [iI lo, iI hi] = AV.agg [iI lo, iI hi], AV.ptr 0 0 = AV.ptr 0 0, AV.ptr 1 0 = AV.ptr 1 0, AV.ptr 2 0 = AV.ptr 2 0, AV.ptr 3 0 = AV.ptr 3 0, wy c d = wy c d, (l + h) / (2 : Int) = if highB c d (c + wy c d * ((l + h) / (2 : Int))) a b lo hi = true then l else (l + h) / (2 : Int), h = if highB c d (c + wy c d * ((l + h) / (2 : Int))) a b lo hi = true then (l + h) / (2 : Int) else h, stF a b c d lo hi = stF a b c d lo hi, AV.ptr 1 1 = AV.ptr 1 1, d = d, AV.ptr 1 0 = AV.ptr 1 0, c = c, stF a b c d lo hi = stF a b c d lo hi, (0 : Int) = (0 : Int), (0 : Int) = (0 : Int), lo = lo, hi = hi, c = c, d = d, a = a, b = b] (Tree.leaf AEx.normal)))))))) (Tree.need [AV.agg [iI a, iI b] = AV.agg [iI a, iI b], AV.agg [iI c, iI d] = AV.agg [iI c, iI d], AV.agg [iI lo, iI hi] = AV.agg [iI lo, iI hi], AV.ptr 0 0 = AV.ptr 0 0, AV.ptr 1 0 = AV.ptr 1 0, AV.ptr 2 0 = AV.ptr 2 0, AV.ptr 3 0 = AV.ptr 3 0, wy c d = wy c d, l = stL a b c d lo hi, stF a b c d lo hi = stF a b c d lo hi, AV.ptr 1 1 = AV.ptr 1 1, d = d, AV.ptr 1 0 = AV.ptr 1 0, c = c, stF a b c d lo hi = stF a b c d lo hi, (0 : Int) = (0 : Int), (0 : Int) = (0 : Int), lo = lo, hi = hi, c = c, d = d, a = a, b = b] (Tree.leaf (AEx.exit 2))))) := by kernel_rfl
    rw [e]
    obtain ⟨f1, f2, f3⟩ := stF_bd pre0 pre1 pre2
    have s1 := sizeI_pos pre0.2.2.2.2
    have hw : (l + h) / 2 * 1 = (l + h) / 2 := by omega
    have hwy : wy c d * ((l + h) / 2) = (l + h) / 2 ∨ wy c d * ((l + h) / 2) = -((l + h) / 2) := by unfold wy; split <;> simp
    simp only [T_st2, out_st2, Tree.sat, Option.getD_some] at hQ
    simp only [Tree.sat, allP, true_and, and_true, decide_eq_true_eq, decide_eq_false_iff_not, inI64, out_st2, high_wy pre1.2.2.2.2 s1]
    refine ⟨by omega, fun h1 => ⟨by omega, by omega, by omega, by omega, by omega, fun h2 => ?_, fun h2 => ?_⟩, fun h1 => ?_⟩
    · simp only [h2, if_true, if_false, decide_true, true_and, and_true]
      omega
    · simp only [h2, if_true, if_false, decide_false, Bool.false_eq_true, true_and, and_true]
      omega
    · refine ⟨by omega, fun E hE => ?_⟩
      cases hE
      exact hQ


theorem ce_two {n d : Int} (hd : 0 < d) : ceI (2 * n) (2 * d) = ceI n d := by
  unfold ceI
  rw [show -(2 * n) = 2 * (-n) by omega, Int.mul_ediv_mul_of_pos _ _ (by omega)]
theorem sizeI_even (a b : Int) : 2 * (sizeI a b / 2) = sizeI a b := by unfold sizeI; split <;> omega
theorem st_eq {a b c d lo hi : Int} (h : -1000 ≤ a ∧ a ≤ 1000 ∧ -1000 ≤ b ∧ b ≤ 1000 ∧ a ≠ b) (k : -1000 ≤ c ∧ c ≤ 1000 ∧ -1000 ≤ d ∧ d ≤ 1000 ∧ c ≠ d) (r : -1000000 ≤ lo ∧ lo ≤ hi ∧ hi ≤ 1000000) :
    min (c + wy c d * stF a b c d lo hi) (c + wy c d * stL a b c d lo hi) = stLo a b c d lo hi ∧ max (c + wy c d * stF a b c d lo hi) (c + wy c d * stL a b c d lo hi) = stHi a b c d lo hi := by
  obtain ⟨f1, f2, f3⟩ := stF_bd h k r
  have s1 := sizeI_pos h.2.2.2.2
  have s2 := sizeI_even a b
  have e := al_bdx (a := a) (b := b) (lo := lo) (hi := hi) (R := 1000000) (by omega) (by omega)
  by_cases hd : d < c
  · have w : wy c d = -1 := by simp [wy, hd]
    have z : sizeI c d = 2 * (c - d) := by unfold sizeI; rw [if_neg (by omega)]
    have m : alHi a b lo hi * (d - c) ≤ alLo a b lo hi * (d - c) := Int.mul_le_mul_of_nonpos_right (by omega) (by omega)
    have n1 : alHi a b lo hi * (d - c) = -(alHi a b lo hi * (c - d)) := by rw [← Int.mul_neg]; congr 1; omega
    have n2 : alLo a b lo hi * (d - c) = -(alLo a b lo hi * (c - d)) := by rw [← Int.mul_neg]; congr 1; omega
    have eA : stA a b c d lo hi = -(alHi a b lo hi * (c - d) + sizeI a b / 2) := by unfold stA; omega
    have eB : stB a b c d lo hi = -(alLo a b lo hi * (c - d) - sizeI a b / 2) := by unfold stB; omega
    have g1 : stL a b c d lo hi = (alHi a b lo hi * (c - d) + sizeI a b / 2) / sizeI a b := by
      unfold stL
      rw [z, show alHi a b lo hi * (2 * (c - d)) + sizeI a b = 2 * (alHi a b lo hi * (c - d) + sizeI a b / 2) by rw [Int.mul_left_comm]; omega, Int.mul_ediv_mul_of_pos _ _ (by omega)]
    have g2 : stF a b c d lo hi = ceI (alLo a b lo hi * (c - d) - sizeI a b / 2) (sizeI a b) := by
      unfold stF
      rw [z, show alLo a b lo hi * (2 * (c - d)) - sizeI a b = 2 * (alLo a b lo hi * (c - d) - sizeI a b / 2) by rw [Int.mul_left_comm]; omega, ce_two (by omega)]
    have h1 : stLo a b c d lo hi = c - stL a b c d lo hi := by
      unfold stLo ceI
      rw [eA, g1, Int.neg_neg]
      omega
    have h2 : stHi a b c d lo hi = c - stF a b c d lo hi := by
      unfold stHi
      rw [eB, g2]
      unfold ceI
      omega
    rw [w, h1, h2]
    omega
  · have w : wy c d = 1 := by simp [wy, hd]
    have z : sizeI c d = 2 * (d - c) := by unfold sizeI; rw [if_pos (by omega)]
    have m : alLo a b lo hi * (d - c) ≤ alHi a b lo hi * (d - c) := Int.mul_le_mul_of_nonneg_right (by omega) (by omega)
    have eA : stA a b c d lo hi = alLo a b lo hi * (d - c) - sizeI a b / 2 := by unfold stA; omega
    have eB : stB a b c d lo hi = alHi a b lo hi * (d - c) + sizeI a b / 2 := by unfold stB; omega
    have g1 : stL a b c d lo hi = (alHi a b lo hi * (d - c) + sizeI a b / 2) / sizeI a b := by
      unfold stL
      rw [z, show alHi a b lo hi * (2 * (d - c)) + sizeI a b = 2 * (alHi a b lo hi * (d - c) + sizeI a b / 2) by rw [Int.mul_left_comm]; omega, Int.mul_ediv_mul_of_pos _ _ (by omega)]
    have g2 : stF a b c d lo hi = ceI (alLo a b lo hi * (d - c) - sizeI a b / 2) (sizeI a b) := by
      unfold stF
      rw [z, show alLo a b lo hi * (2 * (d - c)) - sizeI a b = 2 * (alLo a b lo hi * (d - c) - sizeI a b / 2) by rw [Int.mul_left_comm]; omega, ce_two (by omega)]
    have h1 : stLo a b c d lo hi = c + stF a b c d lo hi := by
      unfold stLo
      rw [eA, g2]
    have h2 : stHi a b c d lo hi = c + stL a b c d lo hi := by
      unfold stHi
      rw [eB, g1]
    rw [w, h1, h2]
    omega

def S_rStands : Sx.Spec := fun l => match l with
  | [.agg [.x (.int .i64 a), .x (.int .i64 b)], .agg [.x (.int .i64 c), .x (.int .i64 d)], .agg [.x (.int .i64 lo), .x (.int .i64 hi)]] => some ([-1000 ≤ a ∧ a ≤ 1000 ∧ -1000 ≤ b ∧ b ≤ 1000 ∧ a ≠ b, -1000 ≤ c ∧ c ≤ 1000 ∧ -1000 ≤ d ∧ d ≤ 1000 ∧ c ≠ d, -1000000 ≤ lo ∧ lo ≤ hi ∧ hi ≤ 1000000], .agg [i (stLo a b c d lo hi), i (stHi a b c d lo hi)])
  | _ => none

set_option maxRecDepth 100000 in
theorem rStands_at (a b c d lo hi : Int) (pre0 : -1000 ≤ a ∧ a ≤ 1000 ∧ -1000 ≤ b ∧ b ≤ 1000 ∧ a ≠ b) (pre1 : -1000 ≤ c ∧ c ≤ 1000 ∧ -1000 ≤ d ∧ d ≤ 1000 ∧ c ≠ d) (pre2 : -1000000 ≤ lo ∧ lo ≤ hi ∧ hi ≤ 1000000) : SoundAt Try.prog 24 [.agg [i a, i b], .agg [i c, i d], .agg [i lo, i hi]] (.agg [i (stLo a b c d lo hi), i (stHi a b c d lo hi)]) := by
  refine soundAt_fin (G := [(57, S_rFloor), (58, S_rLow), (59, S_rHigh)]) (L := [LS_st1 a b c d lo hi, LS_st2 a b c d lo hi]) (SoundG.cons rFloor_ok (SoundG.cons rLow_ok (SoundG.cons rHigh_ok (SoundG.nil _)))) mixed Try.func24 (show Try.f24.body = some (bodyOf Try.f24) by kernel_rfl) (two_loops (fun cj hcj => by
    have e : loopAt (bodyOf Try.f24) 0 = some (.loop B_st1) := by kernel_rfl
    rw [e] at hcj; cases hcj
    exact st1_ls a b c d lo hi pre0 pre1 pre2) (fun cj hcj => by
    have e : loopAt (bodyOf Try.f24) 1 = some (.loop B_st2) := by kernel_rfl
    rw [e] at hcj; cases hcj
    exact st2_ls a b c d lo hi pre0 pre1 pre2)) (t := (Tree.branch (decide (d < c)) (Tree.need [AV.agg [iI a, iI b] = AV.agg [iI a, iI b], AV.agg [iI c, iI d] = AV.agg [iI c, iI d], AV.agg [iI lo, iI hi] = AV.agg [iI lo, iI hi], AV.ptr 0 0 = AV.ptr 0 0, AV.ptr 1 0 = AV.ptr 1 0, AV.ptr 2 0 = AV.ptr 2 0, AV.ptr 3 0 = AV.ptr 3 0, (-1 : Int) = wy c d, (-17179869184 : Int) = (-17179869184 : Int), (17179869184 : Int) = (17179869184 : Int), AV.ptr 1 1 = AV.ptr 1 1, d = d, AV.ptr 1 0 = AV.ptr 1 0, c = c, (0 : Int) = (0 : Int), (0 : Int) = (0 : Int), lo = lo, hi = hi, c = c, d = d, a = a, b = b] (Tree.need [AV.agg [iI a, iI b] = AV.agg [iI a, iI b], AV.agg [iI c, iI d] = AV.agg [iI c, iI d], AV.agg [iI lo, iI hi] = AV.agg [iI lo, iI hi], AV.ptr 0 0 = AV.ptr 0 0, AV.ptr 1 0 = AV.ptr 1 0, AV.ptr 2 0 = AV.ptr 2 0, AV.ptr 3 0 = AV.ptr 3 0, wy c d = wy c d, (-17179869184 : Int) = (-17179869184 : Int), (17179869184 : Int) = (17179869184 : Int), stF a b c d lo hi = stF a b c d lo hi, AV.ptr 1 1 = AV.ptr 1 1, d = d, AV.ptr 1 0 = AV.ptr 1 0, c = c, stF a b c d lo hi = stF a b c d lo hi, (0 : Int) = (0 : Int), (0 : Int) = (0 : Int), lo = lo, hi = hi, c = c, d = d, a = a, b = b] (Tree.need [inI64 (wy c d * stF a b c d lo hi)] (Tree.need [inI64 (c + wy c d * stF a b c d lo hi)] (Tree.need [inI64 (wy c d * stL a b c d lo hi)] (Tree.need [inI64 (c + wy c d * stL a b c d lo hi)] (Tree.leaf (RV.agg [RV.x (Value.int IntKind.i64 (min (c + wy c d * stF a b c d lo hi) (c + wy c d * stL a b c d lo hi))), RV.x (Value.int IntKind.i64 (max (c + wy c d * stF a b c d lo hi) (c + wy c d * stL a b c d lo hi)))])))))))) (Tree.need [AV.agg [iI a, iI b] = AV.agg [iI a, iI b], AV.agg [iI c, iI d] = AV.agg [iI c, iI d], AV.agg [iI lo, iI hi] = AV.agg [iI lo, iI hi], AV.ptr 0 0 = AV.ptr 0 0, AV.ptr 1 0 = AV.ptr 1 0, AV.ptr 2 0 = AV.ptr 2 0, AV.ptr 3 0 = AV.ptr 3 0, (1 : Int) = wy c d, (-17179869184 : Int) = (-17179869184 : Int), (17179869184 : Int) = (17179869184 : Int), AV.ptr 1 1 = AV.ptr 1 1, d = d, AV.ptr 1 0 = AV.ptr 1 0, c = c, (0 : Int) = (0 : Int), (0 : Int) = (0 : Int), lo = lo, hi = hi, c = c, d = d, a = a, b = b] (Tree.need [AV.agg [iI a, iI b] = AV.agg [iI a, iI b], AV.agg [iI c, iI d] = AV.agg [iI c, iI d], AV.agg [iI lo, iI hi] = AV.agg [iI lo, iI hi], AV.ptr 0 0 = AV.ptr 0 0, AV.ptr 1 0 = AV.ptr 1 0, AV.ptr 2 0 = AV.ptr 2 0, AV.ptr 3 0 = AV.ptr 3 0, wy c d = wy c d, (-17179869184 : Int) = (-17179869184 : Int), (17179869184 : Int) = (17179869184 : Int), stF a b c d lo hi = stF a b c d lo hi, AV.ptr 1 1 = AV.ptr 1 1, d = d, AV.ptr 1 0 = AV.ptr 1 0, c = c, stF a b c d lo hi = stF a b c d lo hi, (0 : Int) = (0 : Int), (0 : Int) = (0 : Int), lo = lo, hi = hi, c = c, d = d, a = a, b = b] (Tree.need [inI64 (wy c d * stF a b c d lo hi)] (Tree.need [inI64 (c + wy c d * stF a b c d lo hi)] (Tree.need [inI64 (wy c d * stL a b c d lo hi)] (Tree.need [inI64 (c + wy c d * stL a b c d lo hi)] (Tree.leaf (RV.agg [RV.x (Value.int IntKind.i64 (min (c + wy c d * stF a b c d lo hi) (c + wy c d * stL a b c d lo hi))), RV.x (Value.int IntKind.i64 (max (c + wy c d * stF a b c d lo hi) (c + wy c d * stL a b c d lo hi)))])))))))))) (by kernel_rfl) ?_
  obtain ⟨f1, f2, f3⟩ := stF_bd pre0 pre1 pre2
  obtain ⟨e1, e2⟩ := st_eq pre0 pre1 pre2
  have hw1 : wy c d * stF a b c d lo hi = stF a b c d lo hi ∨ wy c d * stF a b c d lo hi = -stF a b c d lo hi := by unfold wy; split <;> simp
  have hw2 : wy c d * stL a b c d lo hi = stL a b c d lo hi ∨ wy c d * stL a b c d lo hi = -stL a b c d lo hi := by unfold wy; split <;> simp
  simp only [Tree.sat, allP, fitP, fitL, valEq, inI64, true_and, and_true, decide_eq_true_eq, decide_eq_false_iff_not]
  refine ⟨fun h => ?_, fun h => ?_⟩
  · have w : wy c d = -1 := by simp [wy, h]
    rw [w] at e1 e2
    simp only [w]
    exact ⟨trivial, by omega, by omega, by omega, by omega, e1, e2⟩
  · have w : wy c d = 1 := by simp [wy, h]
    rw [w] at e1 e2
    simp only [w]
    exact ⟨trivial, by omega, by omega, by omega, by omega, e1, e2⟩
theorem rStands_ok : SoundSpec Try.prog 24 S_rStands := by
  refine ⟨⟨_, Try.func24, by kernel_rfl, by kernel_rfl⟩, ?_⟩
  intro avs ns res h hn
  unfold S_rStands at h
  split at h
  · cases h
    exact rStands_at _ _ _ _ _ _ (hn _ (by simp)) (hn _ (by simp)) (hn _ (by simp))
  · cases h

end Go.Proofs.Ytchcegfhamngkaa
/- Contracts of functions of the program, by the engine Sx: what each call comes to. Printed by a program of this repo (sxgen.py). -/
set_option linter.unusedSimpArgs false
set_option linter.unusedVariables false
namespace Go.Proofs.Ytchcegfhamngkaa
open Go Go.Sx Go.RowKit

/-- A reading meets others just if it can stand for them. -/
theorem meet_iff {a b c d lo hi x : Int} (h : -1000 ≤ a ∧ a ≤ 1000 ∧ -1000 ≤ b ∧ b ≤ 1000 ∧ a ≠ b) (k : -1000 ≤ c ∧ c ≤ 1000 ∧ -1000 ≤ d ∧ d ≤ 1000 ∧ c ≠ d) (r : -1000000 ≤ lo ∧ lo ≤ hi ∧ hi ≤ 1000000) :
    meetB c d x a b lo hi = true ↔ stLo a b c d lo hi ≤ x ∧ x ≤ stHi a b c d lo hi := by
  have s1 := sizeI_pos h.2.2.2.2
  obtain ⟨f1, f2, f3⟩ := stF_bd h k r
  obtain ⟨e1, e2⟩ := st_eq h k r
  have hw : wy c d = 1 ∨ wy c d = -1 := by unfold wy; split <;> simp
  obtain ⟨n, hn⟩ : ∃ n, x = c + wy c d * n := by
    rcases hw with hw | hw
    · exact ⟨x - c, by rw [hw]; omega⟩
    · exact ⟨c - x, by rw [hw]; omega⟩
  have hl : lowB c d x a b lo hi = decide (n < stF a b c d lo hi) := by rw [hn]; exact low_wy k.2.2.2.2 s1
  have hh : highB c d x a b lo hi = decide (stL a b c d lo hi < n) := by rw [hn]; exact high_wy k.2.2.2.2 s1
  have hm : meetB c d x a b lo hi = (!highB c d x a b lo hi && !lowB c d x a b lo hi) := by
    unfold meetB highB lowB
    rw [Bool.eq_iff_iff]
    simp only [Bool.and_eq_true, Bool.not_eq_true', decide_eq_true_eq, decide_eq_false_iff_not]
    omega
  rw [hm, hl, hh]
  simp only [Bool.and_eq_true, Bool.not_eq_true', decide_eq_false_iff_not]
  rcases hw with hw | hw
  · rw [hw] at e1 e2 hn
    omega
  · rw [hw] at e1 e2 hn
    omega
theorem st_le {a b c d lo hi : Int} (h : -1000 ≤ a ∧ a ≤ 1000 ∧ -1000 ≤ b ∧ b ≤ 1000 ∧ a ≠ b) (k : -1000 ≤ c ∧ c ≤ 1000 ∧ -1000 ≤ d ∧ d ≤ 1000 ∧ c ≠ d) (r : -1000000 ≤ lo ∧ lo ≤ hi ∧ hi ≤ 1000000) : stLo a b c d lo hi ≤ stHi a b c d lo hi := by
  obtain ⟨e1, e2⟩ := st_eq h k r
  omega
/-- With more readings no less can stand. -/
theorem st_mono {a b c d lo hi lo' hi' : Int} (h : -1000 ≤ a ∧ a ≤ 1000 ∧ -1000 ≤ b ∧ b ≤ 1000 ∧ a ≠ b) (k : -1000 ≤ c ∧ c ≤ 1000 ∧ -1000 ≤ d ∧ d ≤ 1000 ∧ c ≠ d) (r : -1000000 ≤ lo ∧ lo ≤ hi ∧ hi ≤ 1000000) (r' : -1000000 ≤ lo' ∧ lo' ≤ lo ∧ hi ≤ hi' ∧ hi' ≤ 1000000) :
    stLo a b c d lo' hi' ≤ stLo a b c d lo hi ∧ stHi a b c d lo hi ≤ stHi a b c d lo' hi' := by
  have mono : ∀ x, meetB c d x a b lo hi = true → meetB c d x a b lo' hi' = true := by
    intro x hx
    have s1 : 0 ≤ sizeI c d := by have := sizeI_pos k.2.2.2.2; omega
    have a1 : alLo a b lo' hi' ≤ alLo a b lo hi := by unfold alLo; split <;> omega
    have a2 : alHi a b lo hi ≤ alHi a b lo' hi' := by unfold alHi; split <;> omega
    have m1 := Int.mul_le_mul_of_nonneg_right a1 s1
    have m2 := Int.mul_le_mul_of_nonneg_right a2 s1
    unfold meetB at hx ⊢
    simp only [Bool.and_eq_true, decide_eq_true_eq] at hx ⊢
    omega
  have hle := st_le h k r
  have q1 := mono _ ((meet_iff h k r (x := stLo a b c d lo hi)).2 ⟨Int.le_refl _, hle⟩)
  have q2 := mono _ ((meet_iff h k r (x := stHi a b c d lo hi)).2 ⟨hle, Int.le_refl _⟩)
  have r2 : -1000000 ≤ lo' ∧ lo' ≤ hi' ∧ hi' ≤ 1000000 := by omega
  exact ⟨((meet_iff h k r2).1 q1).1, ((meet_iff h k r2).1 q2).2⟩


theorem meet_symm {a b c d x y : Int} : meetB c d x a b y y = meetB a b y c d x x := by
  unfold meetB
  rw [Bool.eq_iff_iff]
  simp only [Bool.and_eq_true, decide_eq_true_eq]
  omega
/-- What was read can stand for all that can stand for it. -/
theorem st_back {a b c d lo hi : Int} (h : -1000 ≤ a ∧ a ≤ 1000 ∧ -1000 ≤ b ∧ b ≤ 1000 ∧ a ≠ b) (k : -1000 ≤ c ∧ c ≤ 1000 ∧ -1000 ≤ d ∧ d ≤ 1000 ∧ c ≠ d) (r : -1000000 ≤ lo ∧ lo ≤ hi ∧ hi ≤ 1000000)
    (rc : -1000000 ≤ stLo a b c d lo hi ∧ stHi a b c d lo hi ≤ 1000000) :
    stLo c d a b (stLo a b c d lo hi) (stHi a b c d lo hi) ≤ lo ∧ hi ≤ stHi c d a b (stLo a b c d lo hi) (stHi a b c d lo hi) := by
  have hle := st_le h k r
  have one : ∀ y, lo ≤ y → y ≤ hi → stLo c d a b (stLo a b c d lo hi) (stHi a b c d lo hi) ≤ y ∧ y ≤ stHi c d a b (stLo a b c d lo hi) (stHi a b c d lo hi) := by
    intro y h1 h2
    have ry : -1000000 ≤ y ∧ y ≤ y ∧ y ≤ 1000000 := by omega
    have hy := st_le h k ry
    have hm := st_mono h k ry (lo' := lo) (hi' := hi) (by omega)
    have m1 := (meet_iff h k ry (x := stLo a b c d y y)).2 ⟨Int.le_refl _, hy⟩
    rw [meet_symm] at m1
    have rx : -1000000 ≤ stLo a b c d y y ∧ stLo a b c d y y ≤ stLo a b c d y y ∧ stLo a b c d y y ≤ 1000000 := by omega
    have m2 := (meet_iff k h rx).1 m1
    have m3 := st_mono k h rx (lo' := stLo a b c d lo hi) (hi' := stHi a b c d lo hi) (by omega)
    omega
  exact ⟨(one lo (Int.le_refl _) r.2.1).1, (one hi r.2.1 (Int.le_refl _)).2⟩
/-- On its own scale readings can stand for those from one less to one more. -/
theorem st_self {a b lo hi : Int} (h : -1000 ≤ a ∧ a ≤ 1000 ∧ -1000 ≤ b ∧ b ≤ 1000 ∧ a ≠ b) (r : -1000000 ≤ lo ∧ lo ≤ hi ∧ hi ≤ 1000000) : stLo a b a b lo hi = lo - 1 ∧ stHi a b a b lo hi = hi + 1 := by
  have s1 := sizeI_pos h.2.2.2.2
  have hle := st_le h h r
  have key : ∀ x, (stLo a b a b lo hi ≤ x ∧ x ≤ stHi a b a b lo hi) ↔ (lo - 1 ≤ x ∧ x ≤ hi + 1) := by
    intro x
    rw [← meet_iff h h r]
    unfold meetB
    simp only [Bool.and_eq_true, decide_eq_true_eq, ge_iff_le]
    rw [Int.mul_le_mul_right (by omega), Int.mul_le_mul_right (by omega)]
    unfold alLo alHi
    split <;> omega
  have k1 := (key (stLo a b a b lo hi)).1 ⟨Int.le_refl _, hle⟩
  have k2 := (key (stHi a b a b lo hi)).1 ⟨hle, Int.le_refl _⟩
  have k3 := (key (lo - 1)).2 (by omega)
  have k4 := (key (hi + 1)).2 (by omega)
  omega
/-- The point u / v is within the heights of readings. -/
def holdsP (a b lo hi u v : Int) : Prop := alLo a b lo hi * v ≤ u * sizeI a b ∧ u * sizeI a b ≤ alHi a b lo hi * v


theorem holds_meet {a b c d lo hi x u v : Int} (hv : 0 < v) (h : a ≠ b) (k : c ≠ d) (p : holdsP a b lo hi u v) (q : holdsP c d x x u v) : meetB c d x a b lo hi = true := by
  have s1 := sizeI_pos h
  have s2 := sizeI_pos k
  obtain ⟨p1, p2⟩ := p
  obtain ⟨q1, q2⟩ := q
  have e1 := Int.mul_le_mul_of_nonneg_right p1 (show 0 ≤ sizeI c d by omega)
  have e2 := Int.mul_le_mul_of_nonneg_right p2 (show 0 ≤ sizeI c d by omega)
  have e3 := Int.mul_le_mul_of_nonneg_right q1 (show 0 ≤ sizeI a b by omega)
  have e4 := Int.mul_le_mul_of_nonneg_right q2 (show 0 ≤ sizeI a b by omega)
  have c1 : u * sizeI a b * sizeI c d = u * sizeI c d * sizeI a b := Int.mul_right_comm _ _ _
  have c2 : alLo c d x x * v * sizeI a b = alLo c d x x * sizeI a b * v := Int.mul_right_comm _ _ _
  have c3 : alHi c d x x * v * sizeI a b = alHi c d x x * sizeI a b * v := Int.mul_right_comm _ _ _
  have c4 : alLo a b lo hi * v * sizeI c d = alLo a b lo hi * sizeI c d * v := Int.mul_right_comm _ _ _
  have c5 : alHi a b lo hi * v * sizeI c d = alHi a b lo hi * sizeI c d * v := Int.mul_right_comm _ _ _
  rw [c1, c4] at e1
  rw [c1, c5] at e2
  rw [c2] at e3
  rw [c3] at e4
  unfold meetB
  simp only [Bool.and_eq_true, decide_eq_true_eq, ge_iff_le]
  exact ⟨Int.le_of_mul_le_mul_right (Int.le_trans e3 e2) hv, Int.le_of_mul_le_mul_right (Int.le_trans e1 e4) hv⟩
theorem al_lt {a b lo hi : Int} (r : lo ≤ hi) : alLo a b lo hi < alHi a b lo hi := by unfold alLo alHi; split <;> omega
theorem meet_point {a b c d lo hi x : Int} (h : a ≠ b) (k : c ≠ d) (r : lo ≤ hi) (m : meetB c d x a b lo hi = true) : ∃ u v : Int, 0 < v ∧ holdsP a b lo hi u v ∧ holdsP c d x x u v := by
  have s1 := sizeI_pos h
  have s2 := sizeI_pos k
  unfold meetB at m
  simp only [Bool.and_eq_true, decide_eq_true_eq, ge_iff_le] at m
  obtain ⟨m1, m2⟩ := m
  have l1 := Int.mul_le_mul_of_nonneg_right (Int.le_of_lt (al_lt (a := a) (b := b) r)) (show 0 ≤ sizeI c d by omega)
  have l2 := Int.mul_le_mul_of_nonneg_right (Int.le_of_lt (al_lt (a := c) (b := d) (Int.le_refl x))) (show 0 ≤ sizeI a b by omega)
  refine ⟨max (alLo a b lo hi * sizeI c d) (alLo c d x x * sizeI a b), sizeI a b * sizeI c d, Int.mul_pos (by omega) (by omega), ⟨?_, ?_⟩, ⟨?_, ?_⟩⟩
  · rw [← Int.mul_assoc, Int.mul_right_comm]
    exact Int.mul_le_mul_of_nonneg_right (Int.le_max_left _ _) (by omega)
  · rw [← Int.mul_assoc, Int.mul_right_comm]
    exact Int.mul_le_mul_of_nonneg_right (by omega) (by omega)
  · rw [← Int.mul_assoc]
    exact Int.mul_le_mul_of_nonneg_right (Int.le_max_right _ _) (by omega)
  · rw [← Int.mul_assoc]
    exact Int.mul_le_mul_of_nonneg_right (by omega) (by omega)
theorem near_point {c d u v : Int} (hv : 0 < v) (k : c ≠ d) : holdsP c d (c + wy c d * ((u * sizeI c d + v) / (2 * v))) (c + wy c d * ((u * sizeI c d + v) / (2 * v))) u v := by
  obtain ⟨e1, e2⟩ := al_wy (n := (u * sizeI c d + v) / (2 * v)) k
  unfold holdsP
  rw [e1, e2]
  have h1 := Int.mul_ediv_self_le (x := u * sizeI c d + v) (k := 2 * v) (by omega)
  have h2 := Int.lt_mul_ediv_self_add (x := u * sizeI c d + v) (k := 2 * v) (by omega)
  have e : 2 * v * ((u * sizeI c d + v) / (2 * v)) = 2 * ((u * sizeI c d + v) / (2 * v)) * v := by rw [Int.mul_assoc, Int.mul_assoc, Int.mul_comm v]
  rw [e] at h1 h2
  rw [Int.sub_mul, Int.add_mul]
  omega
theorem holds_wide {a b lo hi lo' hi' u v : Int} (hv : 0 < v) (p : holdsP a b lo hi u v) (h1 : lo' ≤ lo) (h2 : hi ≤ hi') : holdsP a b lo' hi' u v := by
  obtain ⟨p1, p2⟩ := p
  have a1 : alLo a b lo' hi' ≤ alLo a b lo hi := by unfold alLo; split <;> omega
  have a2 : alHi a b lo hi ≤ alHi a b lo' hi' := by unfold alHi; split <;> omega
  exact ⟨Int.le_trans (Int.mul_le_mul_of_nonneg_right a1 (by omega)) p1, Int.le_trans p2 (Int.mul_le_mul_of_nonneg_right a2 (by omega))⟩
/-- A point of the readings stays within what can stand. -/
theorem st_point {a b c d lo hi u v : Int} (h : -1000 ≤ a ∧ a ≤ 1000 ∧ -1000 ≤ b ∧ b ≤ 1000 ∧ a ≠ b) (k : -1000 ≤ c ∧ c ≤ 1000 ∧ -1000 ≤ d ∧ d ≤ 1000 ∧ c ≠ d) (r : -1000000 ≤ lo ∧ lo ≤ hi ∧ hi ≤ 1000000) (hv : 0 < v) (p : holdsP a b lo hi u v) :
    (∀ x, holdsP c d x x u v → stLo a b c d lo hi ≤ x ∧ x ≤ stHi a b c d lo hi) ∧ holdsP c d (stLo a b c d lo hi) (stHi a b c d lo hi) u v := by
  have h1 : ∀ x, holdsP c d x x u v → stLo a b c d lo hi ≤ x ∧ x ≤ stHi a b c d lo hi := fun x q => (meet_iff h k r).1 (holds_meet hv h.2.2.2.2 k.2.2.2.2 p q)
  refine ⟨h1, ?_⟩
  have q := near_point (u := u) hv k.2.2.2.2
  have := h1 _ q
  exact holds_wide hv q this.1 this.2


/-- Through scales a point stays. -/
theorem thr_point {a b : Nat → Int} {u v : Int} (hv : 0 < v) : ∀ (m k : Nat) (lo hi L H : Int), (∀ j, j ≤ k + m + 1 → scB (a j) (b j) = true) → holdsP (a k) (b k) lo hi u v → thr a b (m + 1) k lo hi = some (L, H) →
    ∀ x, holdsP (a (k + m + 1)) (b (k + m + 1)) x x u v → L ≤ x ∧ x ≤ H := by
  intro m
  induction m with
  | zero =>
    intro k lo hi L H hA p ht x q
    have b1 := scB_bd (hA k (by omega))
    have b2 := scB_bd (hA (k + 1) (by omega))
    unfold thr at ht
    split at ht
    · rename_i hi1
      have r := (insB_iff _ _ _ _).1 hi1
      unfold thr at ht
      split at ht
      · cases ht
        exact (st_point b1 b2 r hv p).1 x q
      · cases ht
    · cases ht
  | succ m ih =>
    intro k lo hi L H hA p ht x q
    have b1 := scB_bd (hA k (by omega))
    have b2 := scB_bd (hA (k + 1) (by omega))
    rw [thr] at ht
    split at ht
    · rename_i hi1
      have r := (insB_iff _ _ _ _).1 hi1
      refine ih (k + 1) _ _ L H (fun j hj => hA j (by omega)) (st_point b1 b2 r hv p).2 ht x ?_
      rw [show k + 1 + m + 1 = k + (m + 1) + 1 by omega]
      exact q
    · cases ht
/-- Through scales no less can stand on the last one than directly. -/
theorem thr_wide {a b : Nat → Int} {m : Nat} {lo hi L H : Int} (hA : ∀ j, j ≤ m + 1 → scB (a j) (b j) = true) (r : -1000000 ≤ lo ∧ lo ≤ hi ∧ hi ≤ 1000000) (ht : thr a b (m + 1) 0 lo hi = some (L, H)) :
    L ≤ stLo (a 0) (b 0) (a (m + 1)) (b (m + 1)) lo hi ∧ stHi (a 0) (b 0) (a (m + 1)) (b (m + 1)) lo hi ≤ H := by
  have b1 := scB_bd (hA 0 (by omega))
  have b2 := scB_bd (hA (m + 1) (by omega))
  have hle := st_le b1 b2 r
  have one : ∀ x, stLo (a 0) (b 0) (a (m + 1)) (b (m + 1)) lo hi ≤ x → x ≤ stHi (a 0) (b 0) (a (m + 1)) (b (m + 1)) lo hi → L ≤ x ∧ x ≤ H := by
    intro x h1 h2
    obtain ⟨u, v, hv, p, q⟩ := meet_point b1.2.2.2.2 b2.2.2.2.2 r.2.1 ((meet_iff b1 b2 r).2 ⟨h1, h2⟩)
    refine thr_point hv m 0 lo hi L H (fun j hj => hA j (by omega)) p ht x ?_
    rw [show 0 + m + 1 = m + 1 by omega]
    exact q
  exact ⟨(one _ (Int.le_refl _) hle).1, (one _ hle (Int.le_refl _)).2⟩
/-- A height of a point within readings is within the thousandths. -/
theorem hg_point {a b lo hi u v : Int} (hv : 0 < v) (h : a ≠ b) (p : holdsP a b lo hi u v) : hgLo a b lo hi * v ≤ 1000 * u ∧ 1000 * u ≤ hgHi a b lo hi * v := by
  have s1 := sizeI_pos h
  obtain ⟨p1, p2⟩ := p
  unfold hgLo hgHi ceI
  have h1 := Int.mul_ediv_self_le (x := 1000 * alLo a b lo hi) (k := sizeI a b) (by omega)
  have h2 := Int.mul_ediv_self_le (x := -(1000 * alHi a b lo hi)) (k := sizeI a b) (by omega)
  have e1 := Int.mul_le_mul_of_nonneg_right h1 (show 0 ≤ v by omega)
  have e2 := Int.mul_le_mul_of_nonneg_right h2 (show 0 ≤ v by omega)
  constructor
  · refine Int.le_of_mul_le_mul_right (a := sizeI a b) ?_ (by omega)
    have c1 : sizeI a b * (1000 * alLo a b lo hi / sizeI a b) * v = 1000 * alLo a b lo hi / sizeI a b * v * sizeI a b := by rw [Int.mul_comm (sizeI a b), Int.mul_right_comm]
    rw [c1] at e1
    rw [Int.mul_assoc 1000] at e1
    rw [Int.mul_assoc 1000]
    omega
  · refine Int.le_of_mul_le_mul_right (a := sizeI a b) ?_ (by omega)
    have c1 : sizeI a b * (-(1000 * alHi a b lo hi) / sizeI a b) * v = -(1000 * alHi a b lo hi) / sizeI a b * v * sizeI a b := by rw [Int.mul_comm (sizeI a b), Int.mul_right_comm]
    rw [c1, Int.neg_mul (1000 * alHi a b lo hi) v, Int.mul_assoc 1000] at e2
    rw [Int.mul_assoc 1000, Int.neg_mul, Int.neg_mul]
    omega


theorem al_neg {a b lo hi : Int} (h : a ≠ b) : alLo (-a) (-b) (-hi) (-lo) = alLo a b lo hi ∧ alHi (-a) (-b) (-hi) (-lo) = alHi a b lo hi ∧ sizeI (-a) (-b) = sizeI a b := by
  unfold alLo alHi sizeI
  by_cases hb : b > a
  · rw [if_pos hb, if_pos hb, if_pos hb, if_neg (by omega), if_neg (by omega), if_neg (by omega)]
    omega
  · rw [if_neg hb, if_neg hb, if_neg hb, if_pos (by omega), if_pos (by omega), if_pos (by omega)]
    omega
theorem st_neg {a b c d lo hi : Int} (h : -1000 ≤ a ∧ a ≤ 1000 ∧ -1000 ≤ b ∧ b ≤ 1000 ∧ a ≠ b) (k : -1000 ≤ c ∧ c ≤ 1000 ∧ -1000 ≤ d ∧ d ≤ 1000 ∧ c ≠ d) (r : -1000000 ≤ lo ∧ lo ≤ hi ∧ hi ≤ 1000000) :
    stLo (-a) (-b) (-c) (-d) (-hi) (-lo) = -stHi a b c d lo hi ∧ stHi (-a) (-b) (-c) (-d) (-hi) (-lo) = -stLo a b c d lo hi := by
  have h' : -1000 ≤ -a ∧ -a ≤ 1000 ∧ -1000 ≤ -b ∧ -b ≤ 1000 ∧ -a ≠ -b := by omega
  have k' : -1000 ≤ -c ∧ -c ≤ 1000 ∧ -1000 ≤ -d ∧ -d ≤ 1000 ∧ -c ≠ -d := by omega
  have r' : -1000000 ≤ -hi ∧ -hi ≤ -lo ∧ -lo ≤ 1000000 := by omega
  have key : ∀ x, (stLo a b c d lo hi ≤ x ∧ x ≤ stHi a b c d lo hi) ↔ (stLo (-a) (-b) (-c) (-d) (-hi) (-lo) ≤ -x ∧ -x ≤ stHi (-a) (-b) (-c) (-d) (-hi) (-lo)) := by
    intro x
    rw [← meet_iff h k r, ← meet_iff h' k' r']
    unfold meetB
    obtain ⟨e1, e2, e3⟩ := al_neg (lo := lo) (hi := hi) h.2.2.2.2
    obtain ⟨e4, e5, e6⟩ := al_neg (lo := x) (hi := x) k.2.2.2.2
    rw [e1, e2, e3, e4, e5, e6]
  have l1 := st_le h k r
  have l2 := st_le h' k' r'
  have k1 := (key (stLo a b c d lo hi)).1 ⟨Int.le_refl _, l1⟩
  have k2 := (key (stHi a b c d lo hi)).1 ⟨l1, Int.le_refl _⟩
  have k3 := (key (-stLo (-a) (-b) (-c) (-d) (-hi) (-lo))).2 (by rw [Int.neg_neg]; exact ⟨Int.le_refl _, l2⟩)
  have k4 := (key (-stHi (-a) (-b) (-c) (-d) (-hi) (-lo))).2 (by rw [Int.neg_neg]; exact ⟨l2, Int.le_refl _⟩)
  omega
theorem hg_shift {a b lo hi t : Int} : hgLo (a + t) (b + t) (lo + t) (hi + t) = hgLo a b lo hi ∧ hgHi (a + t) (b + t) (lo + t) (hi + t) = hgHi a b lo hi := by
  have e1 : alLo (a + t) (b + t) (lo + t) (hi + t) = alLo a b lo hi := by
    unfold alLo
    by_cases hb : b > a
    · rw [if_pos hb, if_pos (by omega)]; omega
    · rw [if_neg hb, if_neg (by omega)]; omega
  have e2 : alHi (a + t) (b + t) (lo + t) (hi + t) = alHi a b lo hi := by
    unfold alHi
    by_cases hb : b > a
    · rw [if_pos hb, if_pos (by omega)]; omega
    · rw [if_neg hb, if_neg (by omega)]; omega
  have e3 : sizeI (a + t) (b + t) = sizeI a b := by
    unfold sizeI
    by_cases hb : b > a
    · rw [if_pos hb, if_pos (by omega)]; omega
    · rw [if_neg hb, if_neg (by omega)]; omega
  unfold hgLo hgHi
  rw [e1, e2, e3]
  exact ⟨rfl, rfl⟩

end Go.Proofs.Ytchcegfhamngkaa
/- Contracts of functions of the program, by the engine Sx: what each call comes to. Printed by a program of this repo (sxgen.py). -/
set_option linter.unusedSimpArgs false
set_option linter.unusedVariables false
namespace Go.Proofs.Ytchcegfhamngkaa
open Go Go.Sx Go.RowKit

/-- The reference's way through scales. -/
def rth (a b : Nat → Int) : Nat → Nat → Int → Int → Bool × Int × Int
  | 0, _, lo, hi => (true, lo, hi)
  | m + 1, k, lo, hi => if insB (-1000000) (stLo (a k) (b k) (a (k + 1)) (b (k + 1)) lo hi) (stHi (a k) (b k) (a (k + 1)) (b (k + 1)) lo hi) 1000000 then
      rth a b m (k + 1) (stLo (a k) (b k) (a (k + 1)) (b (k + 1)) lo hi) (stHi (a k) (b k) (a (k + 1)) (b (k + 1)) lo hi)
    else (false, stLo (a k) (b k) (a (k + 1)) (b (k + 1)) lo hi, stHi (a k) (b k) (a (k + 1)) (b (k + 1)) lo hi)
theorem thr_rth (a b : Nat → Int) : ∀ (m k : Nat) (lo hi : Int), insB (-1000000) lo hi 1000000 = true → thr a b m k lo hi = if (rth a b m k lo hi).1 then some (rth a b m k lo hi).2 else none := by
  intro m
  induction m with
  | zero => intro k lo hi h; simp [thr, rth, h]
  | succ m ih =>
    intro k lo hi h
    unfold thr rth
    rw [if_pos h]
    by_cases h2 : insB (-1000000) (stLo (a k) (b k) (a (k + 1)) (b (k + 1)) lo hi) (stHi (a k) (b k) (a (k + 1)) (b (k + 1)) lo hi) 1000000 = true
    · rw [if_pos h2]; exact ih _ _ _ h2
    · rw [if_neg h2]
      simp only [Bool.not_eq_true] at h2
      cases m <;> simp [thr, h2]

noncomputable def E_rt (n : Nat) (a b : Nat → Int) (lo hi : Int) : St := (some
  {
    σ :=
      [AV.lst (2 : Nat) n fun k => [AV.x (Value.int IntKind.i64 (a k)), AV.x (Value.int IntKind.i64 (b k))],
        AV.agg [AV.x (Value.int IntKind.i64 lo), AV.x (Value.int IntKind.i64 hi)], AV.top, AV.ptr (0 : Nat) (0 : Nat),
        AV.ptr (1 : Nat) (0 : Nat), AV.top, AV.top, AV.top, AV.top, AV.top, AV.top, AV.top, AV.top, AV.top, AV.top,
        AV.top, AV.top, AV.top, AV.top, AV.top, AV.top, AV.top, AV.top, AV.top, AV.top, AV.top, AV.top, AV.top, AV.top],
    m :=
      [((1 : Nat),
          Res.cells (24 : Nat) [AV.x (Value.int IntKind.i64 (0 : Int)), AV.x (Value.int IntKind.i64 (0 : Int))]),
        ((0 : Nat), Res.cells (24 : Nat) [AV.x (Value.int IntKind.i64 lo), AV.x (Value.int IntKind.i64 hi)])],
    nx := (4 : Nat) } : Option St).getD { σ := [], m := [], nx := 0 }
noncomputable def B_rt : Code := loopBody (loopAt (bodyOf Try.f21) 0)
noncomputable def inv_rt (n : Nat) (a b : Nat → Int) (lo hi : Int) (k : Nat) (l h : Int) : St := { σ := ovrS [(6, i k)] (E_rt n a b lo hi).σ, m := [(1, .cells 24 [i 0, i 0]), (0, .cells 24 [i l, i h])], nx := (E_rt n a b lo hi).nx }
noncomputable def out_rt (n : Nat) (a b : Nat → Int) (lo hi : Int) (k : Nat) (l h : Int) : AEx → Option St := fun ex => match ex with
  | .exit 0 => some { σ := ovrS [] (E_rt n a b lo hi).σ, m := [(1, .cells 24 [i 0, i 0]), (0, .cells 24 [i (rth a b (n - 1) 0 lo hi).2.1, i (rth a b (n - 1) 0 lo hi).2.2])], nx := (E_rt n a b lo hi).nx }
  | .ret => some { σ := ovrS [(5, .lit false)] (E_rt n a b lo hi).σ, m := [(1, .cells 24 [i (rth a b (n - 1) 0 lo hi).2.1, i (rth a b (n - 1) 0 lo hi).2.2])], nx := (E_rt n a b lo hi).nx }
  | _ => none
noncomputable def T_rt (n : Nat) (a b : Nat → Int) (lo hi : Int) : CT := .branch (rth a b (n - 1) 0 lo hi).1 (.leaf (.exit 0, ( out_rt n a b lo hi 0 0 0 (.exit 0)).getD (E_rt n a b lo hi))) (.leaf (.ret, ( out_rt n a b lo hi 0 0 0 .ret).getD (E_rt n a b lo hi)))
noncomputable def LS_rt (n : Nat) (a b : Nat → Int) (lo hi : Int) : LSpec := (sumL (inv_rt n a b lo hi (1) (lo) (hi)) (T_rt n a b lo hi))
set_option maxRecDepth 100000 in
theorem rt_ls (n : Nat) (a b : Nat → Int) (lo hi : Int) (pre0 : n ≤ 100000) (pre1 : allS n a b = true) (pre2 : insB (-1000000) lo hi 1000000 = true) : LSound Try.prog (.loop B_rt) (LS_rt n a b lo hi) := by
  refine loop_rounds (G := [(24, S_rStands), (25, S_rAreReadings)]) (L := []) (SoundG.cons rStands_ok (SoundG.cons rAreReadings_ok (SoundG.nil _))) mixed noLoops (X := Nat × Int × Int) (fun x => inv_rt n a b lo hi x.1 x.2.1 x.2.2) (fun x => (fun (k : Nat) (l h : Int) => 1 ≤ k ∧ (k ≤ n ∨ k = 1) ∧ insB (-1000000) l h 1000000 = true ∧ rth a b (n - k) (k - 1) l h = rth a b (n - 1) 0 lo hi) x.1 x.2.1 x.2.2) (fun x => (fun (k : Nat) (l h : Int) => n - k) x.1 x.2.1 x.2.2) (fun x => out_rt n a b lo hi x.1 x.2.1 x.2.2) (x0 := (1, lo, hi)) (by dsimp only; exact ⟨by omega, .inr rfl, pre2, rfl⟩) ?_ ?_ ?_
  · rintro ⟨k, l, h⟩
    kernel_rfl
  · rintro ⟨k, l, h⟩ y E h
    dsimp only at h
    unfold out_rt at h
    split at h
    · cases h; kernel_rfl
    · cases h; kernel_rfl
    · cases h
  · rintro Q hQ ⟨k, l, h⟩ hx
    refine ⟨(k + 1, stLo (a (k - 1)) (b (k - 1)) (a k) (b k) l h, stHi (a (k - 1)) (b (k - 1)) (a k) (b k) l h), ?_⟩
    dsimp only at hx ⊢
    have e : roundT Try.prog [(24, S_rStands), (25, S_rAreReadings)] [] B_rt (inv_rt n a b lo hi k l h) (inv_rt n a b lo hi (k + 1) (stLo (a (k - 1)) (b (k - 1)) (a k) (b k) l h) (stHi (a (k - 1)) (b (k - 1)) (a k) (b k) l h)) (out_rt n a b lo hi k l h) = (Tree.branch (decide ((↑k : Int) < (↑n : Int))) (Tree.need [inI64 ((↑k : Int) - (1 : Int))] (Tree.need [(0 : Int) ≤ (↑k : Int) - (1 : Int) ∧ (↑k : Int) - (1 : Int) < (↑n : Int)] (Tree.need [(0 : Int) ≤ (↑k : Int) ∧ (↑k : Int) < (↑n : Int)] (Tree.need [(-1000 : Int) ≤ a (Int.toNat ((↑k : Int) - (1 : Int))) ∧ a (Int.toNat ((↑k : Int) - (1 : Int))) ≤ (1000 : Int) ∧ (-1000 : Int) ≤ b (Int.toNat ((↑k : Int) - (1 : Int))) ∧ b (Int.toNat ((↑k : Int) - (1 : Int))) ≤ (1000 : Int) ∧ a (Int.toNat ((↑k : Int) - (1 : Int))) ≠ b (Int.toNat ((↑k : Int) - (1 : Int))), (-1000 : Int) ≤ a (Int.toNat (↑k : Int)) ∧ a (Int.toNat (↑k : Int)) ≤ (1000 : Int) ∧ (-1000 : Int) ≤ b (Int.toNat (↑k : Int)) ∧ b (Int.toNat (↑k : Int)) ≤ (1000 : Int) ∧ a (Int.toNat (↑k : Int)) ≠ b (Int.toNat (↑k : Int)), (-1000000 : Int) ≤ l ∧ l ≤ h ∧ h ≤ (1000000 : Int)] (Tree.branch (!insB (-1000000 : Int) (stLo (a (Int.toNat ((↑k : Int) - (1 : Int)))) (b (Int.toNat ((↑k : Int) - (1 : Int)))) (a (Int.toNat (↑k : Int))) (b (Int.toNat (↑k : Int))) l h) (stHi (a (Int.toNat ((↑k : Int) - (1 : Int)))) (b (Int.toNat ((↑k : Int) - (1 : Int)))) (a (Int.toNat (↑k : Int))) (b (Int.toNat (↑k : Int))) l h) (1000000 : Int)) (Tree.need [(AV.lst 2 n fun k => [iI (a k), iI (b k)]) = AV.lst 2 n fun k => [iI (a k), iI (b k)], AV.agg [iI lo, iI hi] = AV.agg [iI lo, iI hi], AV.ptr 0 0 = AV.ptr 0 0, AV.ptr 1 0 = AV.ptr 1 0, AV.lit false = AV.lit false, stLo (a (Int.toNat ((↑k : Int) - (1 : Int)))) (b (Int.toNat ((↑k : Int) - (1 : Int)))) (a (Int.toNat (↑k : Int))) (b (Int.toNat (↑k : Int))) l h = Prod.fst (Prod.snd (rth a b (n - 1) 0 lo hi)), stHi (a (Int.toNat ((↑k : Int) - (1 : Int)))) (b (Int.toNat ((↑k : Int) - (1 : Int)))) (a (Int.toNat (↑k : Int))) (b (Int.toNat (↑k : Int))) l h = Prod.snd (Prod.snd (rth a b (n - 1) 0 lo hi))] (Tree.leaf AEx.ret)) (Tree.need [inI64 ((↑k : Int) + (1 : Int))] (Tree.need [(AV.lst 2 n fun k => [iI (a k), iI (b k)]) = AV.lst 2 n fun k => [iI (a k), iI (b k)], AV.agg [iI lo, iI hi] = AV.agg [iI lo, iI hi], AV.ptr 0 0 = AV.ptr 0 0, AV.ptr 1 0 = AV.ptr 1 0, (↑k : Int) + (1 : Int) = (↑(k + 1) : Int), (0 : Int) = (0 : Int), (0 : Int) = (0 : Int), stLo (a (Int.toNat ((↑k : Int) - (1 : Int)))) (b (Int.toNat ((↑k : Int) - (1 : Int)))) (a (Int.toNat (↑k : Int))) (b (Int.toNat (↑k : Int))) l h = stLo (a (k - 1)) (b (k - 1)) (a k) (b k) l h, stHi (a (Int.toNat ((↑k : Int) - (1 : Int)))) (b (Int.toNat ((↑k : Int) - (1 : Int)))) (a (Int.toNat (↑k : Int))) (b (Int.toNat (↑k : Int))) l h = stHi (a (k - 1)) (b (k - 1)) (a k) (b k) l h] (Tree.leaf AEx.normal)))))))) (Tree.need [(AV.lst 2 n fun k => [iI (a k), iI (b k)]) = AV.lst 2 n fun k => [iI (a k), iI (b k)], AV.agg [iI lo, iI hi] = AV.agg [iI lo, iI hi], AV.ptr 0 0 = AV.ptr 0 0, AV.ptr 1 0 = AV.ptr 1 0, (0 : Int) = (0 : Int), (0 : Int) = (0 : Int), l = Prod.fst (Prod.snd (rth a b (n - 1) 0 lo hi)), h = Prod.snd (Prod.snd (rth a b (n - 1) 0 lo hi))] (Tree.leaf (AEx.exit 0)))) := by kernel_rfl
    rw [e]
    obtain ⟨x1, x2, x3, x4⟩ := hx
    have hA : ∀ j, j < n → scB (a j) (b j) = true := allI_iff.1 pre1
    have t1 : ((k : Int) - 1).toNat = k - 1 := by omega
    simp only [T_rt, out_rt, Tree.sat, Option.getD_some] at hQ
    simp only [Tree.sat, allP, true_and, and_true, decide_eq_true_eq, decide_eq_false_iff_not, inI64, out_rt, Int.toNat_natCast, t1]
    refine ⟨fun h1 => ?_, fun h1 => ?_⟩
    · have hk : k < n := by omega
      obtain ⟨m, hm⟩ : ∃ m, n - k = m + 1 := ⟨n - k - 1, by omega⟩
      have hm' : n - (k + 1) = m := by omega
      have b1 := scB_bd (hA (k - 1) (by omega))
      have b2 := scB_bd (hA k hk)
      have b3 := (insB_iff _ _ _ _).1 x3
      rw [hm] at x4
      simp only [rth, show k - 1 + 1 = k by omega] at x4
      refine ⟨by omega, by omega, by omega, ⟨b1, b2, b3⟩, fun h2 => ?_, fun h2 => ?_⟩
      · have h2' : insB (-1000000) (stLo (a (k - 1)) (b (k - 1)) (a k) (b k) l h) (stHi (a (k - 1)) (b (k - 1)) (a k) (b k) l h) 1000000 = false := by simpa using h2
        rw [if_neg (by simp [h2'])] at x4
        rw [← x4]
        refine ⟨⟨rfl, rfl⟩, fun E hE => ?_⟩
        rw [← x4] at hQ
        cases hE
        exact hQ.2 rfl
      · have h2' : insB (-1000000) (stLo (a (k - 1)) (b (k - 1)) (a k) (b k) l h) (stHi (a (k - 1)) (b (k - 1)) (a k) (b k) l h) 1000000 = true := by simpa using h2
        rw [if_pos h2'] at x4
        refine ⟨by omega, by omega, ⟨by omega, by omega, h2', ?_⟩, by omega⟩
        rw [hm']
        exact x4
    · have hk : n - k = 0 := by omega
      rw [hk] at x4
      simp only [rth] at x4
      rw [← x4]
      refine ⟨⟨rfl, rfl⟩, fun E hE => ?_⟩
      rw [← x4] at hQ
      cases hE
      exact hQ.1 rfl

set_option maxRecDepth 100000 in
theorem rThrough_at (n : Nat) (a b : Nat → Int) (lo hi : Int) (pre0 : n ≤ 100000) (pre1 : allS n a b = true) (pre2 : insB (-1000000) lo hi 1000000 = true) : SoundAt Try.prog 21 [scs n a b, .agg [i lo, i hi]] (.tup [.agg [i (rth a b (n - 1) 0 lo hi).2.1, i (rth a b (n - 1) 0 lo hi).2.2], bl (rth a b (n - 1) 0 lo hi).1]) := by
  refine soundAt_fin (G := [(24, S_rStands), (25, S_rAreReadings)]) (L := [LS_rt n a b lo hi]) (SoundG.cons rStands_ok (SoundG.cons rAreReadings_ok (SoundG.nil _))) mixed Try.func21 (show Try.f21.body = some (bodyOf Try.f21) by kernel_rfl) (one_loop (fun cj hcj => by
    have e : loopAt (bodyOf Try.f21) 0 = some (.loop B_rt) := by kernel_rfl
    rw [e] at hcj; cases hcj
    exact rt_ls n a b lo hi pre0 pre1 pre2)) (t := (Tree.need [(AV.lst 2 n fun k => [iI (a k), iI (b k)]) = AV.lst 2 n fun k => [iI (a k), iI (b k)], AV.agg [iI lo, iI hi] = AV.agg [iI lo, iI hi], AV.ptr 0 0 = AV.ptr 0 0, AV.ptr 1 0 = AV.ptr 1 0, (1 : Int) = (↑(1 : Nat) : Int), (0 : Int) = (0 : Int), (0 : Int) = (0 : Int), lo = lo, hi = hi] (Tree.branch (Prod.fst (rth a b (n - 1) 0 lo hi)) (Tree.leaf (RV.tup [RV.agg [RV.x (Value.int IntKind.i64 (Prod.fst (Prod.snd (rth a b (n - 1) 0 lo hi)))), RV.x (Value.int IntKind.i64 (Prod.snd (Prod.snd (rth a b (n - 1) 0 lo hi))))], RV.x (Value.bool true)])) (Tree.leaf (RV.tup [RV.agg [RV.x (Value.int IntKind.i64 (Prod.fst (Prod.snd (rth a b (n - 1) 0 lo hi)))), RV.x (Value.int IntKind.i64 (Prod.snd (Prod.snd (rth a b (n - 1) 0 lo hi))))], RV.x (Value.bool false)]))))) (by kernel_rfl) ?_
  simp only [Tree.sat, allP, fitP, fitL, valEq, true_and, and_true]
  simp +contextual


def S_rThrough : Sx.Spec := fun l => match l with
  | [.lst 2 n f, .agg [.x (.int .i64 lo), .x (.int .i64 hi)]] => some ([isRec 2 n f, n ≤ 100000, allS n (col 0 f) (col 1 f) = true, insB (-1000000) lo hi 1000000 = true], .tup [.agg [i (rth (col 0 f) (col 1 f) (n - 1) 0 lo hi).2.1, i (rth (col 0 f) (col 1 f) (n - 1) 0 lo hi).2.2], bl (rth (col 0 f) (col 1 f) (n - 1) 0 lo hi).1])
  | _ => none


theorem rThrough_ok : SoundSpec Try.prog 21 S_rThrough := by
  refine ⟨⟨_, Try.func21, by kernel_rfl, by kernel_rfl⟩, ?_⟩
  intro avs ns res h hn
  unfold S_rThrough at h
  split at h
  · rename_i n f lo hi
    cases h
    have hr : isRec 2 n f := hn _ (by simp)
    exact (rThrough_at n (col 0 f) (col 1 f) lo hi (hn _ (by simp)) (hn _ (by simp)) (hn _ (by simp))).same (.cons (.lst 2 n _ _ hr) (.cons (.refl _) .nil))
  · cases h

end Go.Proofs.Ytchcegfhamngkaa
/- Contracts of functions of the program, by the engine Sx: what each call comes to. Printed by a program of this repo (sxgen.py). -/
set_option linter.unusedSimpArgs false
set_option linter.unusedVariables false
namespace Go.Proofs.Ytchcegfhamngkaa
open Go Go.Sx Go.RowKit

/-- Is the step k of a table right? -/
def stepB (p q : Nat → Int) (k : Nat) : Bool := bt 1 (p k) 2000 && (bt 1 (q k) 2000 && (decide (k = 0) || (decide (p (k - 1) < p k) && decide (q (k - 1) < q k))))
def tabB (n : Nat) (p q : Nat → Int) : Bool := allI (stepB p q) n

noncomputable def E_tb (n : Nat) (p q : Nat → Int) : St := (some
  {
    σ :=
      [AV.lst (2 : Nat) n fun k => [AV.x (Value.int IntKind.i64 (p k)), AV.x (Value.int IntKind.i64 (q k))], AV.top,
        AV.top, AV.top, AV.top,
        AV.lst (2 : Nat) n fun k => [AV.x (Value.int IntKind.i64 (p k)), AV.x (Value.int IntKind.i64 (q k))],
        AV.x (Value.int IntKind.i64 (↑n : Int)), AV.lit false,
        AV.lst (2 : Nat) n fun k => [AV.x (Value.int IntKind.i64 (p k)), AV.x (Value.int IntKind.i64 (q k))],
        AV.x (Value.int IntKind.i64 (↑n : Int)), AV.lit false,
        AV.lst (2 : Nat) n fun k => [AV.x (Value.int IntKind.i64 (p k)), AV.x (Value.int IntKind.i64 (q k))],
        AV.x (Value.int IntKind.i64 (↑n : Int)), AV.top, AV.top, AV.top, AV.top, AV.top, AV.top, AV.top, AV.top, AV.top,
        AV.top, AV.top, AV.top, AV.top, AV.top, AV.top, AV.top, AV.top, AV.top, AV.top, AV.top, AV.top, AV.top, AV.top,
        AV.top, AV.top, AV.top, AV.top, AV.top, AV.top, AV.top, AV.top, AV.top, AV.top, AV.top, AV.top, AV.top, AV.top,
        AV.top, AV.top, AV.top, AV.top, AV.top],
    m := [], nx := (10 : Nat) } : Option St).getD { σ := [], m := [], nx := 0 }
noncomputable def B_tb : Code := loopBody (loopAt (bodyOf Try.f60) 0)
noncomputable def inv_tb (n : Nat) (p q : Nat → Int) (k : Nat) : St := { σ := ovrS [(13, i k)] (E_tb n p q).σ, m := (E_tb n p q).m, nx := (E_tb n p q).nx }
noncomputable def out_tb (n : Nat) (p q : Nat → Int) (k : Nat) : AEx → Option St := fun ex => match ex with
  | .exit 0 => some { σ := ovrS [] (E_tb n p q).σ, m := (E_tb n p q).m, nx := (E_tb n p q).nx }
  | .ret => some { σ := ovrS [(2, i 1)] (E_tb n p q).σ, m := (E_tb n p q).m, nx := (E_tb n p q).nx }
  | _ => none
noncomputable def T_tb (n : Nat) (p q : Nat → Int) : CT := .branch (tabB n p q) (.leaf (.exit 0, ( out_tb n p q 0 (.exit 0)).getD (E_tb n p q))) (.leaf (.ret, ( out_tb n p q 0 .ret).getD (E_tb n p q)))
noncomputable def LS_tb (n : Nat) (p q : Nat → Int) : LSpec := (sumL (inv_tb n p q (0)) (T_tb n p q))
set_option maxRecDepth 100000 in
theorem tb_ls (n : Nat) (p q : Nat → Int) (pre0 : n ≤ 100000) : LSound Try.prog (.loop B_tb) (LS_tb n p q) := by
  refine loop_rounds (G := [(79, S_within)]) (L := []) (SoundG.cons within_ok (SoundG.nil _)) mixed noLoops (X := Nat) (inv_tb n p q) (fun k => k ≤ n ∧ ∀ j, j < k → stepB p q j = true) (fun k => n - k) (out_tb n p q) (x0 := 0) ⟨by omega, fun j hj => by omega⟩ ?_ ?_ ?_
  · rintro k
    kernel_rfl
  · rintro k y E h
    unfold out_tb at h
    split at h
    · cases h; kernel_rfl
    · cases h; kernel_rfl
    · cases h
  · rintro Q hQ k hx
    refine ⟨(k + 1), ?_⟩
    have e : roundT Try.prog [(79, S_within)] [] B_tb (inv_tb n p q k) (inv_tb n p q ((k + 1))) (out_tb n p q k) = (Tree.branch (decide ((↑k : Int) < (↑n : Int))) (Tree.need [(0 : Int) ≤ (↑k : Int) ∧ (↑k : Int) < (↑n : Int)] (Tree.branch (!bt (1 : Int) (p (Int.toNat (↑k : Int))) (2000 : Int)) (Tree.need [(AV.lst 2 n fun k => [iI (p k), iI (q k)]) = AV.lst 2 n fun k => [iI (p k), iI (q k)], (1 : Int) = (1 : Int), (AV.lst 2 n fun k => [iI (p k), iI (q k)]) = AV.lst 2 n fun k => [iI (p k), iI (q k)], (↑n : Int) = (↑n : Int), AV.lit false = AV.lit false, (AV.lst 2 n fun k => [iI (p k), iI (q k)]) = AV.lst 2 n fun k => [iI (p k), iI (q k)], (↑n : Int) = (↑n : Int), AV.lit false = AV.lit false, (AV.lst 2 n fun k => [iI (p k), iI (q k)]) = AV.lst 2 n fun k => [iI (p k), iI (q k)], (↑n : Int) = (↑n : Int)] (Tree.leaf AEx.ret)) (Tree.branch (!bt (1 : Int) (q (Int.toNat (↑k : Int))) (2000 : Int)) (Tree.need [(AV.lst 2 n fun k => [iI (p k), iI (q k)]) = AV.lst 2 n fun k => [iI (p k), iI (q k)], (1 : Int) = (1 : Int), (AV.lst 2 n fun k => [iI (p k), iI (q k)]) = AV.lst 2 n fun k => [iI (p k), iI (q k)], (↑n : Int) = (↑n : Int), AV.lit false = AV.lit false, (AV.lst 2 n fun k => [iI (p k), iI (q k)]) = AV.lst 2 n fun k => [iI (p k), iI (q k)], (↑n : Int) = (↑n : Int), AV.lit false = AV.lit false, (AV.lst 2 n fun k => [iI (p k), iI (q k)]) = AV.lst 2 n fun k => [iI (p k), iI (q k)], (↑n : Int) = (↑n : Int)] (Tree.leaf AEx.ret)) (Tree.branch (decide ((↑k : Int) > (0 : Int))) (Tree.need [inI64 ((↑k : Int) - (1 : Int))] (Tree.need [(0 : Int) ≤ (↑k : Int) - (1 : Int) ∧ (↑k : Int) - (1 : Int) < (↑n : Int)] (Tree.branch (decide (p (Int.toNat (↑k : Int)) ≤ p (Int.toNat ((↑k : Int) - (1 : Int))))) (Tree.need [(AV.lst 2 n fun k => [iI (p k), iI (q k)]) = AV.lst 2 n fun k => [iI (p k), iI (q k)], (1 : Int) = (1 : Int), (AV.lst 2 n fun k => [iI (p k), iI (q k)]) = AV.lst 2 n fun k => [iI (p k), iI (q k)], (↑n : Int) = (↑n : Int), AV.lit false = AV.lit false, (AV.lst 2 n fun k => [iI (p k), iI (q k)]) = AV.lst 2 n fun k => [iI (p k), iI (q k)], (↑n : Int) = (↑n : Int), AV.lit false = AV.lit false, (AV.lst 2 n fun k => [iI (p k), iI (q k)]) = AV.lst 2 n fun k => [iI (p k), iI (q k)], (↑n : Int) = (↑n : Int)] (Tree.leaf AEx.ret)) (Tree.need [inI64 ((↑k : Int) - (1 : Int))] (Tree.need [(0 : Int) ≤ (↑k : Int) - (1 : Int) ∧ (↑k : Int) - (1 : Int) < (↑n : Int)] (Tree.branch (decide (q (Int.toNat (↑k : Int)) ≤ q (Int.toNat ((↑k : Int) - (1 : Int))))) (Tree.need [(AV.lst 2 n fun k => [iI (p k), iI (q k)]) = AV.lst 2 n fun k => [iI (p k), iI (q k)], (1 : Int) = (1 : Int), (AV.lst 2 n fun k => [iI (p k), iI (q k)]) = AV.lst 2 n fun k => [iI (p k), iI (q k)], (↑n : Int) = (↑n : Int), AV.lit false = AV.lit false, (AV.lst 2 n fun k => [iI (p k), iI (q k)]) = AV.lst 2 n fun k => [iI (p k), iI (q k)], (↑n : Int) = (↑n : Int), AV.lit false = AV.lit false, (AV.lst 2 n fun k => [iI (p k), iI (q k)]) = AV.lst 2 n fun k => [iI (p k), iI (q k)], (↑n : Int) = (↑n : Int)] (Tree.leaf AEx.ret)) (Tree.need [inI64 ((↑k : Int) + (1 : Int))] (Tree.need [(AV.lst 2 n fun k => [iI (p k), iI (q k)]) = AV.lst 2 n fun k => [iI (p k), iI (q k)], (AV.lst 2 n fun k => [iI (p k), iI (q k)]) = AV.lst 2 n fun k => [iI (p k), iI (q k)], (↑n : Int) = (↑n : Int), AV.lit false = AV.lit false, (AV.lst 2 n fun k => [iI (p k), iI (q k)]) = AV.lst 2 n fun k => [iI (p k), iI (q k)], (↑n : Int) = (↑n : Int), AV.lit false = AV.lit false, (AV.lst 2 n fun k => [iI (p k), iI (q k)]) = AV.lst 2 n fun k => [iI (p k), iI (q k)], (↑n : Int) = (↑n : Int), (↑k : Int) + (1 : Int) = (↑(k + 1) : Int)] (Tree.leaf AEx.normal))))))))) (Tree.need [inI64 ((↑k : Int) + (1 : Int))] (Tree.need [(AV.lst 2 n fun k => [iI (p k), iI (q k)]) = AV.lst 2 n fun k => [iI (p k), iI (q k)], (AV.lst 2 n fun k => [iI (p k), iI (q k)]) = AV.lst 2 n fun k => [iI (p k), iI (q k)], (↑n : Int) = (↑n : Int), AV.lit false = AV.lit false, (AV.lst 2 n fun k => [iI (p k), iI (q k)]) = AV.lst 2 n fun k => [iI (p k), iI (q k)], (↑n : Int) = (↑n : Int), AV.lit false = AV.lit false, (AV.lst 2 n fun k => [iI (p k), iI (q k)]) = AV.lst 2 n fun k => [iI (p k), iI (q k)], (↑n : Int) = (↑n : Int), (↑k : Int) + (1 : Int) = (↑(k + 1) : Int)] (Tree.leaf AEx.normal))))))) (Tree.need [(AV.lst 2 n fun k => [iI (p k), iI (q k)]) = AV.lst 2 n fun k => [iI (p k), iI (q k)], (AV.lst 2 n fun k => [iI (p k), iI (q k)]) = AV.lst 2 n fun k => [iI (p k), iI (q k)], (↑n : Int) = (↑n : Int), AV.lit false = AV.lit false, (AV.lst 2 n fun k => [iI (p k), iI (q k)]) = AV.lst 2 n fun k => [iI (p k), iI (q k)], (↑n : Int) = (↑n : Int), AV.lit false = AV.lit false, (AV.lst 2 n fun k => [iI (p k), iI (q k)]) = AV.lst 2 n fun k => [iI (p k), iI (q k)], (↑n : Int) = (↑n : Int)] (Tree.leaf (AEx.exit 0)))) := by kernel_rfl
    rw [e]
    simp only [T_tb, out_tb, Tree.sat, Option.getD_some] at hQ
    have hbad : k < n → stepB p q k = false → tabB n p q = false := by
      intro h1 h2
      rw [← Bool.not_eq_true]
      intro h3
      have := allI_iff.1 h3 k h1
      rw [h2] at this
      cases this
    have hgood : stepB p q k = true → ∀ j, j < k + 1 → stepB p q j = true := by
      intro h1 j hj
      rcases (show j < k ∨ j = k by omega) with h | rfl
      · exact hx.2 j h
      · exact h1
    have hend : ¬ k < n → tabB n p q = true := fun h => allI_iff.2 (fun j hj => hx.2 j (by omega))
    have hQ1 : ∀ E, out_tb n p q k .ret = some E → tabB n p q = false → Q (.ret, E) := by
      intro E hE hf
      cases hE
      exact hQ.2 hf
    have hQ2 : ∀ E, out_tb n p q k (.exit 0) = some E → tabB n p q = true → Q (.exit 0, E) := by
      intro E hE hf
      cases hE
      exact hQ.1 hf
    have t1 : ((k : Int) - 1).toNat = k - 1 := by omega
    have hsb : stepB p q k = (bt 1 (p k) 2000 && (bt 1 (q k) 2000 && (decide (k = 0) || (decide (p (k - 1) < p k) && decide (q (k - 1) < q k))))) := rfl
    simp only [Tree.sat, allP, true_and, and_true, decide_eq_true_eq, decide_eq_false_iff_not, inI64, Int.toNat_natCast, t1]
    clear e
    repeat' first | with_reducible apply And.intro | with_reducible intro _
    all_goals first | exact True.intro | omega | exact hQ1 _ (by assumption) (hbad (by omega) (by rw [hsb]; grind)) | exact hQ2 _ (by assumption) (hend (by omega)) | exact hgood (by rw [hsb]; grind) _ (by assumption)

noncomputable def E_it (n : Nat) (p q : Nat → Int) : St := (some
  {
    σ :=
      [AV.lst (2 : Nat) n fun k => [AV.x (Value.int IntKind.i64 (p k)), AV.x (Value.int IntKind.i64 (q k))], AV.top,
        AV.top, AV.top, AV.top, AV.top, AV.top, AV.top, AV.top, AV.top, AV.top, AV.top, AV.top, AV.top, AV.top, AV.top,
        AV.top, AV.top, AV.top, AV.top, AV.top, AV.top, AV.top, AV.top, AV.top, AV.top, AV.top, AV.top, AV.top, AV.top,
        AV.top, AV.top, AV.top, AV.top, AV.top, AV.top, AV.top, AV.top, AV.top, AV.top, AV.top, AV.top, AV.top, AV.top,
        AV.top, AV.top, AV.top, AV.top, AV.top, AV.top, AV.top, AV.top, AV.top, AV.top, AV.top, AV.top, AV.top, AV.top,
        AV.top, AV.top, AV.top],
    m := [], nx := (2 : Nat) } : Option St).getD { σ := [], m := [], nx := 0 }
noncomputable def B_it : Code := loopBody (loopAt (bodyOf Try.f29) 0)
noncomputable def inv_it (n : Nat) (p q : Nat → Int) (k : Nat) : St := { σ := ovrS [(3, i k)] (E_it n p q).σ, m := (E_it n p q).m, nx := (E_it n p q).nx }
noncomputable def out_it (n : Nat) (p q : Nat → Int) (k : Nat) : AEx → Option St := fun ex => match ex with
  | .exit 0 => some { σ := ovrS [] (E_it n p q).σ, m := (E_it n p q).m, nx := (E_it n p q).nx }
  | .ret => some { σ := ovrS [(2, .lit false)] (E_it n p q).σ, m := (E_it n p q).m, nx := (E_it n p q).nx }
  | _ => none
noncomputable def T_it (n : Nat) (p q : Nat → Int) : CT := .branch (tabB n p q) (.leaf (.exit 0, ( out_it n p q 0 (.exit 0)).getD (E_it n p q))) (.leaf (.ret, ( out_it n p q 0 .ret).getD (E_it n p q)))
noncomputable def LS_it (n : Nat) (p q : Nat → Int) : LSpec := (sumL (inv_it n p q (0)) (T_it n p q))
set_option maxRecDepth 100000 in
theorem it_ls (n : Nat) (p q : Nat → Int) (pre0 : n ≤ 100000) : LSound Try.prog (.loop B_it) (LS_it n p q) := by
  refine loop_rounds (G := [(69, S_rIn)]) (L := []) (SoundG.cons rIn_ok (SoundG.nil _)) mixed noLoops (X := Nat) (inv_it n p q) (fun k => k ≤ n ∧ ∀ j, j < k → stepB p q j = true) (fun k => n - k) (out_it n p q) (x0 := 0) ⟨by omega, fun j hj => by omega⟩ ?_ ?_ ?_
  · rintro k
    kernel_rfl
  · rintro k y E h
    unfold out_it at h
    split at h
    · cases h; kernel_rfl
    · cases h; kernel_rfl
    · cases h
  · rintro Q hQ k hx
    refine ⟨(k + 1), ?_⟩
    have e : roundT Try.prog [(69, S_rIn)] [] B_it (inv_it n p q k) (inv_it n p q ((k + 1))) (out_it n p q k) = (Tree.branch (decide ((↑k : Int) < (↑n : Int))) (Tree.need [(0 : Int) ≤ (↑k : Int) ∧ (↑k : Int) < (↑n : Int)] (Tree.branch (!bt (1 : Int) (p (Int.toNat (↑k : Int))) (2000 : Int)) (Tree.need [(AV.lst 2 n fun k => [iI (p k), iI (q k)]) = AV.lst 2 n fun k => [iI (p k), iI (q k)], AV.lit false = AV.lit false] (Tree.leaf AEx.ret)) (Tree.need [(0 : Int) ≤ (↑k : Int) ∧ (↑k : Int) < (↑n : Int)] (Tree.branch (!bt (1 : Int) (q (Int.toNat (↑k : Int))) (2000 : Int)) (Tree.need [(AV.lst 2 n fun k => [iI (p k), iI (q k)]) = AV.lst 2 n fun k => [iI (p k), iI (q k)], AV.lit false = AV.lit false] (Tree.leaf AEx.ret)) (Tree.branch (decide ((↑k : Int) > (0 : Int))) (Tree.need [(0 : Int) ≤ (↑k : Int) ∧ (↑k : Int) < (↑n : Int)] (Tree.need [inI64 ((↑k : Int) - (1 : Int))] (Tree.need [(0 : Int) ≤ (↑k : Int) - (1 : Int) ∧ (↑k : Int) - (1 : Int) < (↑n : Int)] (Tree.branch (decide (p (Int.toNat (↑k : Int)) ≤ p (Int.toNat ((↑k : Int) - (1 : Int))))) (Tree.need [(AV.lst 2 n fun k => [iI (p k), iI (q k)]) = AV.lst 2 n fun k => [iI (p k), iI (q k)], AV.lit false = AV.lit false] (Tree.leaf AEx.ret)) (Tree.need [(0 : Int) ≤ (↑k : Int) ∧ (↑k : Int) < (↑n : Int)] (Tree.need [inI64 ((↑k : Int) - (1 : Int))] (Tree.need [(0 : Int) ≤ (↑k : Int) - (1 : Int) ∧ (↑k : Int) - (1 : Int) < (↑n : Int)] (Tree.branch (decide (q (Int.toNat (↑k : Int)) ≤ q (Int.toNat ((↑k : Int) - (1 : Int))))) (Tree.need [(AV.lst 2 n fun k => [iI (p k), iI (q k)]) = AV.lst 2 n fun k => [iI (p k), iI (q k)], AV.lit false = AV.lit false] (Tree.leaf AEx.ret)) (Tree.need [inI64 ((↑k : Int) + (1 : Int))] (Tree.need [(AV.lst 2 n fun k => [iI (p k), iI (q k)]) = AV.lst 2 n fun k => [iI (p k), iI (q k)], (↑k : Int) + (1 : Int) = (↑(k + 1) : Int)] (Tree.leaf AEx.normal))))))))))) (Tree.need [inI64 ((↑k : Int) + (1 : Int))] (Tree.need [(AV.lst 2 n fun k => [iI (p k), iI (q k)]) = AV.lst 2 n fun k => [iI (p k), iI (q k)], (↑k : Int) + (1 : Int) = (↑(k + 1) : Int)] (Tree.leaf AEx.normal)))))))) (Tree.need [(AV.lst 2 n fun k => [iI (p k), iI (q k)]) = AV.lst 2 n fun k => [iI (p k), iI (q k)]] (Tree.leaf (AEx.exit 0)))) := by kernel_rfl
    rw [e]
    simp only [T_it, out_it, Tree.sat, Option.getD_some] at hQ
    have hbad : k < n → stepB p q k = false → tabB n p q = false := by
      intro h1 h2
      rw [← Bool.not_eq_true]
      intro h3
      have := allI_iff.1 h3 k h1
      rw [h2] at this
      cases this
    have hgood : stepB p q k = true → ∀ j, j < k + 1 → stepB p q j = true := by
      intro h1 j hj
      rcases (show j < k ∨ j = k by omega) with h | rfl
      · exact hx.2 j h
      · exact h1
    have hend : ¬ k < n → tabB n p q = true := fun h => allI_iff.2 (fun j hj => hx.2 j (by omega))
    have hQ1 : ∀ E, out_it n p q k .ret = some E → tabB n p q = false → Q (.ret, E) := by
      intro E hE hf
      cases hE
      exact hQ.2 hf
    have hQ2 : ∀ E, out_it n p q k (.exit 0) = some E → tabB n p q = true → Q (.exit 0, E) := by
      intro E hE hf
      cases hE
      exact hQ.1 hf
    have t1 : ((k : Int) - 1).toNat = k - 1 := by omega
    have hsb : stepB p q k = (bt 1 (p k) 2000 && (bt 1 (q k) 2000 && (decide (k = 0) || (decide (p (k - 1) < p k) && decide (q (k - 1) < q k))))) := rfl
    simp only [Tree.sat, allP, true_and, and_true, decide_eq_true_eq, decide_eq_false_iff_not, inI64, Int.toNat_natCast, t1]
    clear e
    repeat' first | with_reducible apply And.intro | with_reducible intro _
    all_goals first | exact True.intro | omega | exact hQ1 _ (by assumption) (hbad (by omega) (by rw [hsb]; grind)) | exact hQ2 _ (by assumption) (hend (by omega)) | exact hgood (by rw [hsb]; grind) _ (by assumption)


def tbE (n : Nat) (p q : Nat → Int) : Int := if 8 < n then 3 else if n < 2 then 1 else if tabB n p q then 0 else 1
def itB (n : Nat) (p q : Nat → Int) : Bool := tabB n p q && decide (2 ≤ n)
def S_table : Sx.Spec := fun l => match l with
  | [.lst 2 n f] => some ([isRec 2 n f, n ≤ 100000], i (tbE n (col 0 f) (col 1 f)))
  | _ => none
def S_rIsTable : Sx.Spec := fun l => match l with
  | [.lst 2 n f] => some ([isRec 2 n f, n ≤ 100000], bl (itB n (col 0 f) (col 1 f)))
  | _ => none

set_option maxRecDepth 100000 in
theorem table_at (n : Nat) (p q : Nat → Int) (pre0 : n ≤ 100000) : SoundAt Try.prog 60 [scs n p q] (i (tbE n p q)) := by
  refine soundAt_fin (G := [(79, S_within)]) (L := [LS_tb n p q]) (SoundG.cons within_ok (SoundG.nil _)) mixed Try.func60 (show Try.f60.body = some (bodyOf Try.f60) by kernel_rfl) (one_loop (fun cj hcj => by
    have e : loopAt (bodyOf Try.f60) 0 = some (.loop B_tb) := by kernel_rfl
    rw [e] at hcj; cases hcj
    exact tb_ls n p q pre0)) (t := (Tree.branch (decide ((↑n : Int) > (8 : Int))) (Tree.leaf (RV.x (Value.int IntKind.i64 (3 : Int)))) (Tree.branch (decide ((↑n : Int) < (2 : Int))) (Tree.leaf (RV.x (Value.int IntKind.i64 (1 : Int)))) (Tree.need [(AV.lst 2 n fun k => [iI (p k), iI (q k)]) = AV.lst 2 n fun k => [iI (p k), iI (q k)], (AV.lst 2 n fun k => [iI (p k), iI (q k)]) = AV.lst 2 n fun k => [iI (p k), iI (q k)], (↑n : Int) = (↑n : Int), AV.lit false = AV.lit false, (AV.lst 2 n fun k => [iI (p k), iI (q k)]) = AV.lst 2 n fun k => [iI (p k), iI (q k)], (↑n : Int) = (↑n : Int), AV.lit false = AV.lit false, (AV.lst 2 n fun k => [iI (p k), iI (q k)]) = AV.lst 2 n fun k => [iI (p k), iI (q k)], (↑n : Int) = (↑n : Int), (0 : Int) = (↑(0 : Nat) : Int)] (Tree.branch (tabB n p q) (Tree.leaf (RV.x (Value.int IntKind.i64 (0 : Int)))) (Tree.leaf (RV.x (Value.int IntKind.i64 (1 : Int))))))))) (by kernel_rfl) ?_
  simp only [Tree.sat, allP, fitP, valEq, true_and, and_true, decide_eq_true_eq, decide_eq_false_iff_not, tbE, Int.natCast_zero]
  refine ⟨fun h => ?_, fun h => ⟨fun h2 => ?_, fun h2 => ⟨fun h3 => ?_, fun h3 => ?_⟩⟩⟩
  · simp [show 8 < n by omega]
  · simp [show ¬ 8 < n by omega, show n < 2 by omega]
  · simp [show ¬ 8 < n by omega, show ¬ n < 2 by omega, h3]
  · simp [show ¬ 8 < n by omega, show ¬ n < 2 by omega, h3]

set_option maxRecDepth 100000 in
theorem rIsTable_at (n : Nat) (p q : Nat → Int) (pre0 : n ≤ 100000) : SoundAt Try.prog 29 [scs n p q] (bl (itB n p q)) := by
  refine soundAt_fin (G := [(69, S_rIn)]) (L := [LS_it n p q]) (SoundG.cons rIn_ok (SoundG.nil _)) mixed Try.func29 (show Try.f29.body = some (bodyOf Try.f29) by kernel_rfl) (one_loop (fun cj hcj => by
    have e : loopAt (bodyOf Try.f29) 0 = some (.loop B_it) := by kernel_rfl
    rw [e] at hcj; cases hcj
    exact it_ls n p q pre0)) (t := (Tree.need [(AV.lst 2 n fun k => [iI (p k), iI (q k)]) = AV.lst 2 n fun k => [iI (p k), iI (q k)], (0 : Int) = (↑(0 : Nat) : Int)] (Tree.branch (tabB n p q) (Tree.leaf (RV.x (Value.bool (decide ((↑n : Int) ≥ (2 : Int)))))) (Tree.leaf (RV.x (Value.bool false)))))) (by kernel_rfl) ?_
  simp only [Tree.sat, allP, fitP, valEq, true_and, and_true, itB, Int.natCast_zero]
  refine ⟨fun h => ?_, fun h => ?_⟩
  · rw [h]
    simp only [Bool.true_and, decide_eq_decide]
    omega
  · simp [h]


theorem table_ok : SoundSpec Try.prog 60 S_table := by
  refine ⟨⟨_, Try.func60, by kernel_rfl, by kernel_rfl⟩, ?_⟩
  intro avs ns res h hn
  unfold S_table at h
  split at h
  · rename_i n f
    cases h
    have hr : isRec 2 n f := hn _ (by simp)
    exact (table_at n (col 0 f) (col 1 f) (hn _ (by simp))).same (.cons (.lst 2 n _ _ hr) .nil)
  · cases h


theorem rIsTable_ok : SoundSpec Try.prog 29 S_rIsTable := by
  refine ⟨⟨_, Try.func29, by kernel_rfl, by kernel_rfl⟩, ?_⟩
  intro avs ns res h hn
  unfold S_rIsTable at h
  split at h
  · rename_i n f
    cases h
    have hr : isRec 2 n f := hn _ (by simp)
    exact (rIsTable_at n (col 0 f) (col 1 f) (hn _ (by simp))).same (.cons (.lst 2 n _ _ hr) .nil)
  · cases h


/-- Between which steps a pressure is; where steam is there. -/
def segI (n : Nat) (p : Nat → Int) (x : Int) : Nat := fstI (fun k => decide (x ≤ p (k + 1))) (n - 1)
def boilAt (p q : Nat → Int) (x : Int) (k : Nat) : Int := q k + ((q (k + 1) - q k) * (x - p k)).tdiv (p (k + 1) - p k)
def boilI (n : Nat) (p q : Nat → Int) (x : Int) : Int := boilAt p q x (segI n p x)
theorem tab_step {n : Nat} {p q : Nat → Int} (h : tabB n p q = true) {k : Nat} (hk : k < n) : 1 ≤ p k ∧ p k ≤ 2000 ∧ 1 ≤ q k ∧ q k ≤ 2000 ∧ (k = 0 ∨ p (k - 1) < p k ∧ q (k - 1) < q k) := by
  have := allI_iff.1 h k hk
  simp only [stepB, bt, Bool.and_eq_true, Bool.or_eq_true, decide_eq_true_eq] at this
  omega
theorem tab_mono {n : Nat} {p q : Nat → Int} (h : tabB n p q = true) {j k : Nat} (hjk : j ≤ k) (hk : k < n) : p j ≤ p k ∧ q j ≤ q k := by
  induction k with
  | zero => have : j = 0 := by omega
            subst this; exact ⟨Int.le_refl _, Int.le_refl _⟩
  | succ k ih =>
    rcases (show j ≤ k ∨ j = k + 1 by omega) with h1 | rfl
    · have := ih h1 (by omega)
      have h2 := tab_step h hk
      simp only [Nat.add_sub_cancel] at h2
      omega
    · exact ⟨Int.le_refl _, Int.le_refl _⟩
theorem seg_lt {n : Nat} {p : Nat → Int} {x : Int} (hn : 2 ≤ n) (hx : x ≤ p (n - 1)) : segI n p x < n - 1 := by
  obtain ⟨h1, h2, h3⟩ := fstI_spec (fun k => decide (x ≤ p (k + 1))) (n - 1)
  unfold segI
  rcases Nat.lt_or_ge (fstI (fun k => decide (x ≤ p (k + 1))) (n - 1)) (n - 1) with h | h
  · exact h
  · have := h2 (n - 2) (by omega)
    rw [show n - 2 + 1 = n - 1 by omega] at this
    simp at this
    omega

noncomputable def E_rb (n : Nat) (p q : Nat → Int) (y : Int) : St := (some
  {
    σ :=
      [AV.lst (2 : Nat) n fun k => [AV.x (Value.int IntKind.i64 (p k)), AV.x (Value.int IntKind.i64 (q k))],
        AV.x (Value.int IntKind.i64 y), AV.top, AV.top, AV.x (Value.int IntKind.i64 (0 : Int)), AV.top, AV.top, AV.top,
        AV.top, AV.top, AV.top, AV.top, AV.top, AV.top, AV.top, AV.top, AV.top, AV.top, AV.top, AV.top, AV.top, AV.top,
        AV.top, AV.top, AV.top, AV.top, AV.top, AV.top, AV.top, AV.top, AV.top, AV.top, AV.top, AV.top, AV.top, AV.top,
        AV.top, AV.top, AV.top, AV.top, AV.top, AV.top, AV.top, AV.top, AV.top, AV.top],
    m := [], nx := (2 : Nat) } : Option St).getD { σ := [], m := [], nx := 0 }
noncomputable def B_rb : Code := loopBody (loopAt (bodyOf Try.f32) 0)
noncomputable def inv_rb (n : Nat) (p q : Nat → Int) (y : Int) (k : Nat) : St := { σ := ovrS [(5, i k)] (E_rb n p q y).σ, m := (E_rb n p q y).m, nx := (E_rb n p q y).nx }
noncomputable def out_rb (n : Nat) (p q : Nat → Int) (y : Int) (k : Nat) : AEx → Option St := fun ex => match ex with
  | .exit 0 => some { σ := ovrS [(5, i (segI n p y))] (E_rb n p q y).σ, m := (E_rb n p q y).m, nx := (E_rb n p q y).nx }
  | _ => none
noncomputable def T_rb (n : Nat) (p q : Nat → Int) (y : Int) : CT := .leaf (.exit 0, ( out_rb n p q y 0 (.exit 0)).getD (E_rb n p q y))
noncomputable def LS_rb (n : Nat) (p q : Nat → Int) (y : Int) : LSpec := (sumL (inv_rb n p q y (0)) (T_rb n p q y))
set_option maxRecDepth 100000 in
theorem rb_ls (n : Nat) (p q : Nat → Int) (y : Int) (pre0 : 2 ≤ n ∧ n ≤ 100000) (pre1 : tabB n p q = true) (pre2 : -100000 ≤ y ∧ y ≤ p (n - 1)) : LSound Try.prog (.loop B_rb) (LS_rb n p q y) := by
  refine loop_rounds (G := []) (L := []) (SoundG.nil _) mixed noLoops (X := Nat) (inv_rb n p q y) (fun k => k < n - 1 ∧ ∀ j, j < k → decide (y ≤ p (j + 1)) = false) (fun k => n - k) (out_rb n p q y) (x0 := 0) ⟨by omega, fun j hj => by omega⟩ ?_ ?_ ?_
  · rintro k
    kernel_rfl
  · rintro k y E h
    unfold out_rb at h
    split at h
    · cases h; kernel_rfl
    · cases h
  · rintro Q hQ k hx
    refine ⟨(k + 1), ?_⟩
    have e : roundT Try.prog [] [] B_rb (inv_rb n p q y k) (inv_rb n p q y ((k + 1))) (out_rb n p q y k) = (Tree.need [inI64 ((↑k : Int) + (1 : Int))] (Tree.need [(0 : Int) ≤ (↑k : Int) + (1 : Int) ∧ (↑k : Int) + (1 : Int) < (↑n : Int)] (Tree.branch (decide (p (Int.toNat ((↑k : Int) + (1 : Int))) < y)) (Tree.need [inI64 ((↑k : Int) + (1 : Int))] (Tree.need [(AV.lst 2 n fun k => [iI (p k), iI (q k)]) = AV.lst 2 n fun k => [iI (p k), iI (q k)], y = y, (0 : Int) = (0 : Int), (↑k : Int) + (1 : Int) = (↑(k + 1) : Int)] (Tree.leaf AEx.normal))) (Tree.need [(AV.lst 2 n fun k => [iI (p k), iI (q k)]) = AV.lst 2 n fun k => [iI (p k), iI (q k)], y = y, (0 : Int) = (0 : Int), (↑k : Int) = (↑(segI n p y) : Int)] (Tree.leaf (AEx.exit 0)))))) := by kernel_rfl
    rw [e]
    simp only [T_rb, out_rb, Tree.sat, Option.getD_some] at hQ
    have t1 : ((k : Int) + 1).toNat = k + 1 := by omega
    simp only [Tree.sat, allP, true_and, and_true, decide_eq_true_eq, decide_eq_false_iff_not, inI64, Int.toNat_natCast, t1, out_rb]
    refine ⟨by omega, by omega, fun h => ?_, fun h => ?_⟩
    · have hk : k + 1 ≠ n - 1 := by
        intro hk
        rw [hk] at h
        omega
      refine ⟨by omega, by omega, ⟨by omega, fun j hj => ?_⟩, by omega⟩
      rcases (show j < k ∨ j = k by omega) with h1 | rfl
      · have := hx.2 j h1
        simpa using this
      · omega
    · have hf : segI n p y = k := fstI_eq hx.1 (by simp; omega) hx.2
      refine ⟨by omega, fun E hE => ?_⟩
      cases hE
      exact hQ

set_option maxRecDepth 100000 in
theorem rBoil_at (n : Nat) (p q : Nat → Int) (y : Int) (pre0 : 2 ≤ n ∧ n ≤ 100000) (pre1 : tabB n p q = true) (pre2 : -100000 ≤ y ∧ y ≤ p (n - 1)) : SoundAt Try.prog 32 [scs n p q, i y] (i (boilI n p q y)) := by
  refine soundAt_fin (G := []) (L := [LS_rb n p q y]) (SoundG.nil _) mixed Try.func32 (show Try.f32.body = some (bodyOf Try.f32) by kernel_rfl) (one_loop (fun cj hcj => by
    have e : loopAt (bodyOf Try.f32) 0 = some (.loop B_rb) := by kernel_rfl
    rw [e] at hcj; cases hcj
    exact rb_ls n p q y pre0 pre1 pre2)) (t := (Tree.need [(AV.lst 2 n fun k => [iI (p k), iI (q k)]) = AV.lst 2 n fun k => [iI (p k), iI (q k)], y = y, (0 : Int) = (0 : Int), (0 : Int) = (↑(0 : Nat) : Int)] (Tree.need [(0 : Int) ≤ (↑(segI n p y) : Int) ∧ (↑(segI n p y) : Int) < (↑n : Int)] (Tree.need [inI64 ((↑(segI n p y) : Int) + (1 : Int))] (Tree.need [(0 : Int) ≤ (↑(segI n p y) : Int) + (1 : Int) ∧ (↑(segI n p y) : Int) + (1 : Int) < (↑n : Int)] (Tree.need [inI64 (q (Int.toNat ((↑(segI n p y) : Int) + (1 : Int))) - q (Int.toNat (↑(segI n p y) : Int)))] (Tree.need [inI64 (y - p (Int.toNat (↑(segI n p y) : Int)))] (Tree.need [inI64 ((q (Int.toNat ((↑(segI n p y) : Int) + (1 : Int))) - q (Int.toNat (↑(segI n p y) : Int))) * (y - p (Int.toNat (↑(segI n p y) : Int))))] (Tree.need [inI64 (p (Int.toNat ((↑(segI n p y) : Int) + (1 : Int))) - p (Int.toNat (↑(segI n p y) : Int)))] (Tree.need [p (Int.toNat ((↑(segI n p y) : Int) + (1 : Int))) - p (Int.toNat (↑(segI n p y) : Int)) ≠ (0 : Int), inI64 (Int.tdiv ((q (Int.toNat ((↑(segI n p y) : Int) + (1 : Int))) - q (Int.toNat (↑(segI n p y) : Int))) * (y - p (Int.toNat (↑(segI n p y) : Int)))) (p (Int.toNat ((↑(segI n p y) : Int) + (1 : Int))) - p (Int.toNat (↑(segI n p y) : Int))))] (Tree.need [inI64 (q (Int.toNat (↑(segI n p y) : Int)) + Int.tdiv ((q (Int.toNat ((↑(segI n p y) : Int) + (1 : Int))) - q (Int.toNat (↑(segI n p y) : Int))) * (y - p (Int.toNat (↑(segI n p y) : Int)))) (p (Int.toNat ((↑(segI n p y) : Int) + (1 : Int))) - p (Int.toNat (↑(segI n p y) : Int))))] (Tree.leaf (RV.x (Value.int IntKind.i64 (q (Int.toNat (↑(segI n p y) : Int)) + Int.tdiv ((q (Int.toNat ((↑(segI n p y) : Int) + (1 : Int))) - q (Int.toNat (↑(segI n p y) : Int))) * (y - p (Int.toNat (↑(segI n p y) : Int)))) (p (Int.toNat ((↑(segI n p y) : Int) + (1 : Int))) - p (Int.toNat (↑(segI n p y) : Int)))))))))))))))))) (by kernel_rfl) ?_
  have hs := seg_lt pre0.1 pre2.2
  have sl := tab_step pre1 (show n - 1 < n by omega)
  have s0 := tab_step pre1 (show segI n p y < n by omega)
  have s1 := tab_step pre1 (show segI n p y + 1 < n by omega)
  simp only [Nat.add_sub_cancel] at s1
  have t1 : ((segI n p y : Int) + 1).toNat = segI n p y + 1 := by omega
  have m := mul_bd (x := q (segI n p y + 1) - q (segI n p y)) (y := y - p (segI n p y)) (X := 2000) (Y := 200000) (by omega) (by omega)
  have dv : (((q (segI n p y + 1) - q (segI n p y)) * (y - p (segI n p y))).tdiv (p (segI n p y + 1) - p (segI n p y))).natAbs ≤ ((q (segI n p y + 1) - q (segI n p y)) * (y - p (segI n p y))).natAbs := by
    rw [Int.natAbs_tdiv]
    exact Nat.div_le_self _ _
  simp only [Tree.sat, allP, fitP, valEq, true_and, and_true, inI64, Int.toNat_natCast, t1, Int.natCast_zero]
  refine ⟨by omega, by omega, by omega, by omega, by omega, by omega, by omega, by omega, by omega, rfl⟩


def S_rBoil : Sx.Spec := fun l => match l with
  | [.lst 2 n f, .x (.int .i64 y)] => some ([isRec 2 n f, 2 ≤ n ∧ n ≤ 100000, tabB n (col 0 f) (col 1 f) = true, -100000 ≤ y ∧ y ≤ col 0 f (n - 1)], i (boilI n (col 0 f) (col 1 f) y))
  | _ => none


theorem rBoil_ok : SoundSpec Try.prog 32 S_rBoil := by
  refine ⟨⟨_, Try.func32, by kernel_rfl, by kernel_rfl⟩, ?_⟩
  intro avs ns res h hn
  unfold S_rBoil at h
  split at h
  · rename_i n f y
    cases h
    have hr : isRec 2 n f := hn _ (by simp)
    exact (rBoil_at n (col 0 f) (col 1 f) y (hn _ (by simp)) (hn _ (by simp)) (hn _ (by simp))).same (.cons (.lst 2 n _ _ hr) (.cons (.refl _) .nil))
  · cases h


def crLo (a b u v lo hi : Int) : Int := min (alLo a b lo hi * u) (alLo a b lo hi * v) / sizeI a b
def crHi (a b u v lo hi : Int) : Int := ceI (max (alHi a b lo hi * u) (alHi a b lo hi * v)) (sizeI a b)
theorem min_div {x y d : Int} (hd : 0 < d) : min (x / d) (y / d) = min x y / d := by
  rcases Int.le_total x y with h | h
  · have := Int.ediv_le_ediv hd h
    rw [Int.min_eq_left h, Int.min_eq_left this]
  · have := Int.ediv_le_ediv hd h
    rw [Int.min_eq_right h, Int.min_eq_right this]
theorem max_ce {x y d : Int} (hd : 0 < d) : max (ceI x d) (ceI y d) = ceI (max x y) d := by
  unfold ceI
  rcases Int.le_total x y with h | h
  · have := Int.ediv_le_ediv hd (show -y ≤ -x by omega)
    rw [Int.max_eq_right h]
    omega
  · have := Int.ediv_le_ediv hd (show -x ≤ -y by omega)
    rw [Int.max_eq_left h]
    omega
theorem cr_bd {a b u v lo hi : Int} (h : -1000 ≤ a ∧ a ≤ 1000 ∧ -1000 ≤ b ∧ b ≤ 1000 ∧ a ≠ b) (k : -2000 ≤ u ∧ u ≤ 2000 ∧ -2000 ≤ v ∧ v ≤ 2000) (r : -1000000 ≤ lo ∧ lo ≤ hi ∧ hi ≤ 1000000) :
    (-5000000000 ≤ alLo a b lo hi * u ∧ alLo a b lo hi * u ≤ 5000000000) ∧ (-5000000000 ≤ alLo a b lo hi * v ∧ alLo a b lo hi * v ≤ 5000000000) ∧ (-5000000000 ≤ alHi a b lo hi * u ∧ alHi a b lo hi * u ≤ 5000000000) ∧ (-5000000000 ≤ alHi a b lo hi * v ∧ alHi a b lo hi * v ≤ 5000000000) ∧ (2 ≤ sizeI a b ∧ sizeI a b ≤ 4000) := by
  have e := al_bdx (a := a) (b := b) (lo := lo) (hi := hi) (R := 1000000) (by omega) (by omega)
  have m1 := mul_bd (x := alLo a b lo hi) (y := u) (X := 2002001) (Y := 2000) (by omega) (by omega)
  have m2 := mul_bd (x := alLo a b lo hi) (y := v) (X := 2002001) (Y := 2000) (by omega) (by omega)
  have m3 := mul_bd (x := alHi a b lo hi) (y := u) (X := 2002001) (Y := 2000) (by omega) (by omega)
  have m4 := mul_bd (x := alHi a b lo hi) (y := v) (X := 2002001) (Y := 2000) (by omega) (by omega)
  have s1 := sizeI_pos h.2.2.2.2
  have s2 := sizeI_le (a := a) (b := b) (by omega)
  omega

def S_rCorrected : Sx.Spec := fun l => match l with
  | [.agg [.x (.int .i64 a), .x (.int .i64 b)], .agg [.x (.int .i64 u), .x (.int .i64 v)], .agg [.x (.int .i64 lo), .x (.int .i64 hi)]] => some ([-1000 ≤ a ∧ a ≤ 1000 ∧ -1000 ≤ b ∧ b ≤ 1000 ∧ a ≠ b, -2000 ≤ u ∧ u ≤ 2000 ∧ -2000 ≤ v ∧ v ≤ 2000, -1000000 ≤ lo ∧ lo ≤ hi ∧ hi ≤ 1000000], .agg [i (crLo a b u v lo hi), i (crHi a b u v lo hi)])
  | _ => none

set_option maxRecDepth 100000 in
theorem rCorrected_at (a b u v lo hi : Int) (pre0 : -1000 ≤ a ∧ a ≤ 1000 ∧ -1000 ≤ b ∧ b ≤ 1000 ∧ a ≠ b) (pre1 : -2000 ≤ u ∧ u ≤ 2000 ∧ -2000 ≤ v ∧ v ≤ 2000) (pre2 : -1000000 ≤ lo ∧ lo ≤ hi ∧ hi ≤ 1000000) : SoundAt Try.prog 33 [.agg [i a, i b], .agg [i u, i v], .agg [i lo, i hi]] (.agg [i (crLo a b u v lo hi), i (crHi a b u v lo hi)]) := by
  refine soundAt_fin (G := [(70, S_rAllowed), (71, S_rSize), (57, S_rFloor), (72, S_rCeil)]) (L := []) (SoundG.cons rAllowed_ok (SoundG.cons rSize_ok (SoundG.cons rFloor_ok (SoundG.cons rCeil_ok (SoundG.nil _))))) mixed Try.func33 (show Try.f33.body = some (bodyOf Try.f33) by kernel_rfl) noLoops (t := (Tree.need [(-1000000 : Int) ≤ a ∧ a ≤ (1000000 : Int), (-1000000000000 : Int) ≤ lo ∧ lo ≤ hi ∧ hi ≤ (1000000000000 : Int)] (Tree.need [inI64 (alLo a b lo hi * u)] (Tree.need [(-1000000 : Int) ≤ a ∧ a ≤ (1000000 : Int) ∧ (-1000000 : Int) ≤ b ∧ b ≤ (1000000 : Int)] (Tree.need [(-4611686018427387904 : Int) ≤ alLo a b lo hi * u ∧ alLo a b lo hi * u ≤ (4611686018427387904 : Int), (1 : Int) ≤ sizeI a b ∧ sizeI a b ≤ (4000000000000 : Int)] (Tree.need [inI64 (alLo a b lo hi * v)] (Tree.need [(-1000000 : Int) ≤ a ∧ a ≤ (1000000 : Int) ∧ (-1000000 : Int) ≤ b ∧ b ≤ (1000000 : Int)] (Tree.need [(-4611686018427387904 : Int) ≤ alLo a b lo hi * v ∧ alLo a b lo hi * v ≤ (4611686018427387904 : Int), (1 : Int) ≤ sizeI a b ∧ sizeI a b ≤ (4000000000000 : Int)] (Tree.need [inI64 (alHi a b lo hi * u)] (Tree.need [(-1000000 : Int) ≤ a ∧ a ≤ (1000000 : Int) ∧ (-1000000 : Int) ≤ b ∧ b ≤ (1000000 : Int)] (Tree.need [(-4611686018427387904 : Int) ≤ alHi a b lo hi * u ∧ alHi a b lo hi * u ≤ (4611686018427387904 : Int), (1 : Int) ≤ sizeI a b ∧ sizeI a b ≤ (4000000000000 : Int)] (Tree.need [inI64 (alHi a b lo hi * v)] (Tree.need [(-1000000 : Int) ≤ a ∧ a ≤ (1000000 : Int) ∧ (-1000000 : Int) ≤ b ∧ b ≤ (1000000 : Int)] (Tree.need [(-4611686018427387904 : Int) ≤ alHi a b lo hi * v ∧ alHi a b lo hi * v ≤ (4611686018427387904 : Int), (1 : Int) ≤ sizeI a b ∧ sizeI a b ≤ (4000000000000 : Int)] (Tree.leaf (RV.agg [RV.x (Value.int IntKind.i64 (min (alLo a b lo hi * u / sizeI a b) (alLo a b lo hi * v / sizeI a b))), RV.x (Value.int IntKind.i64 (max (ceI (alHi a b lo hi * u) (sizeI a b)) (ceI (alHi a b lo hi * v) (sizeI a b))))])))))))))))))))) (by kernel_rfl) ?_
  obtain ⟨c1, c2, c3, c4, c5⟩ := cr_bd pre0 pre1 pre2
  have e1 : min (alLo a b lo hi * u / sizeI a b) (alLo a b lo hi * v / sizeI a b) = crLo a b u v lo hi := min_div (by omega)
  have e2 : max (ceI (alHi a b lo hi * u) (sizeI a b)) (ceI (alHi a b lo hi * v) (sizeI a b)) = crHi a b u v lo hi := max_ce (by omega)
  simp only [Tree.sat, allP, fitP, fitL, valEq, inI64, true_and, and_true, decide_eq_true_eq, decide_eq_false_iff_not, Int.natCast_zero, Int.toNat_natCast]
  repeat' first | with_reducible apply And.intro | with_reducible intro _
  all_goals first | exact True.intro | omega | with_reducible rfl | assumption
theorem rCorrected_ok : SoundSpec Try.prog 33 S_rCorrected := by
  refine ⟨⟨_, Try.func33, by kernel_rfl, by kernel_rfl⟩, ?_⟩
  intro avs ns res h hn
  unfold S_rCorrected at h
  split at h
  · cases h
    exact rCorrected_at _ _ _ _ _ _ (hn _ (by simp)) (hn _ (by simp)) (hn _ (by simp))
  · cases h

end Go.Proofs.Ytchcegfhamngkaa
/- Contracts of functions of the program, by the engine Sx: what each call comes to. Printed by a program of this repo (sxgen.py). -/
set_option linter.unusedSimpArgs false
set_option linter.unusedVariables false
namespace Go.Proofs.Ytchcegfhamngkaa
open Go Go.Sx Go.RowKit

def enB (r lo hi : Int) : Bool := bt (-1000000) r 1000000 && insB (-100000) lo hi 100000
def exB (a b r lo hi : Int) : Bool := decide (1000 * alLo a b r r ≤ hi * sizeI a b) && decide (1000 * alHi a b r r ≥ lo * sizeI a b)
theorem enB_bd {r lo hi : Int} (h : enB r lo hi = true) : -1000000 ≤ r ∧ r ≤ 1000000 ∧ -100000 ≤ lo ∧ lo ≤ hi ∧ hi ≤ 100000 := by
  simp only [enB, Bool.and_eq_true, bt_iff, insB_iff] at h
  omega

def S_rIsEntry : Sx.Spec := fun l => match l with
  | [.agg [.x (.int .i64 r), .x (.int .i64 lo), .x (.int .i64 hi)]] => some ([], bl (enB r lo hi))
  | _ => none

set_option maxRecDepth 100000 in
theorem rIsEntry_at (r lo hi : Int) : SoundAt Try.prog 75 [.agg [i r, i lo, i hi]] (bl (enB r lo hi)) := by
  refine soundAt_fin (G := [(69, S_rIn), (30, S_rSpan)]) (L := []) (SoundG.cons rIn_ok (SoundG.cons rSpan_ok (SoundG.nil _))) mixed Try.func75 (show Try.f75.body = some (bodyOf Try.f75) by kernel_rfl) noLoops (t := (Tree.branch (bt (-1000000 : Int) r (1000000 : Int)) (Tree.leaf (RV.x (Value.bool (insB (-100000 : Int) lo hi (100000 : Int))))) (Tree.leaf (RV.x (Value.bool false))))) (by kernel_rfl) ?_
  simp only [Tree.sat, allP, fitP, fitL, valEq, true_and, and_true]
  all_goals (simp +contextual [enB, bt, insB, scB, Bool.and_assoc])
  all_goals omega
theorem rIsEntry_ok : SoundSpec Try.prog 75 S_rIsEntry := by
  refine ⟨⟨_, Try.func75, by kernel_rfl, by kernel_rfl⟩, ?_⟩
  intro avs ns res h hn
  unfold S_rIsEntry at h
  split at h
  · cases h
    exact rIsEntry_at _ _ _
  · cases h

def S_entry : Sx.Spec := fun l => match l with
  | [.agg [.x (.int .i64 r), .x (.int .i64 lo), .x (.int .i64 hi)]] => some ([], bl (enB r lo hi))
  | _ => none

set_option maxRecDepth 100000 in
theorem entry_at (r lo hi : Int) : SoundAt Try.prog 86 [.agg [i r, i lo, i hi]] (bl (enB r lo hi)) := by
  refine soundAt_fin (G := [(79, S_within), (61, S_inside)]) (L := []) (SoundG.cons within_ok (SoundG.cons inside_ok (SoundG.nil _))) mixed Try.func86 (show Try.f86.body = some (bodyOf Try.f86) by kernel_rfl) noLoops (t := (Tree.branch (bt (-1000000 : Int) r (1000000 : Int)) (Tree.leaf (RV.x (Value.bool (insB (-100000 : Int) lo hi (100000 : Int))))) (Tree.leaf (RV.x (Value.bool false))))) (by kernel_rfl) ?_
  simp only [Tree.sat, allP, fitP, fitL, valEq, true_and, and_true]
  all_goals (simp +contextual [enB, bt, insB, scB, Bool.and_assoc])
  all_goals omega
theorem entry_ok : SoundSpec Try.prog 86 S_entry := by
  refine ⟨⟨_, Try.func86, by kernel_rfl, by kernel_rfl⟩, ?_⟩
  intro avs ns res h hn
  unfold S_entry at h
  split at h
  · cases h
    exact entry_at _ _ _
  · cases h

def S_rExplains : Sx.Spec := fun l => match l with
  | [.agg [.x (.int .i64 a), .x (.int .i64 b)], .agg [.x (.int .i64 r), .x (.int .i64 lo), .x (.int .i64 hi)]] => some ([-1000 ≤ a ∧ a ≤ 1000 ∧ -1000 ≤ b ∧ b ≤ 1000 ∧ a ≠ b, -1000000 ≤ r ∧ r ≤ 1000000 ∧ -100000 ≤ lo ∧ lo ≤ hi ∧ hi ≤ 100000], bl (exB a b r lo hi))
  | _ => none

set_option maxRecDepth 100000 in
theorem rExplains_at (a b r lo hi : Int) (pre0 : -1000 ≤ a ∧ a ≤ 1000 ∧ -1000 ≤ b ∧ b ≤ 1000 ∧ a ≠ b) (pre1 : -1000000 ≤ r ∧ r ≤ 1000000 ∧ -100000 ≤ lo ∧ lo ≤ hi ∧ hi ≤ 100000) : SoundAt Try.prog 76 [.agg [i a, i b], .agg [i r, i lo, i hi]] (bl (exB a b r lo hi)) := by
  refine soundAt_fin (G := [(70, S_rAllowed), (71, S_rSize)]) (L := []) (SoundG.cons rAllowed_ok (SoundG.cons rSize_ok (SoundG.nil _))) mixed Try.func76 (show Try.f76.body = some (bodyOf Try.f76) by kernel_rfl) noLoops (t := (Tree.need [(-1000000 : Int) ≤ a ∧ a ≤ (1000000 : Int), (-1000000000000 : Int) ≤ r ∧ r ≤ r ∧ r ≤ (1000000000000 : Int)] (Tree.need [inI64 ((1000 : Int) * alLo a b r r)] (Tree.need [(-1000000 : Int) ≤ a ∧ a ≤ (1000000 : Int) ∧ (-1000000 : Int) ≤ b ∧ b ≤ (1000000 : Int)] (Tree.need [inI64 (hi * sizeI a b)] (Tree.branch (decide ((1000 : Int) * alLo a b r r ≤ hi * sizeI a b)) (Tree.need [inI64 ((1000 : Int) * alHi a b r r)] (Tree.need [(-1000000 : Int) ≤ a ∧ a ≤ (1000000 : Int) ∧ (-1000000 : Int) ≤ b ∧ b ≤ (1000000 : Int)] (Tree.need [inI64 (lo * sizeI a b)] (Tree.leaf (RV.x (Value.bool (decide ((1000 : Int) * alHi a b r r ≥ lo * sizeI a b)))))))) (Tree.leaf (RV.x (Value.bool false))))))))) (by kernel_rfl) ?_
  have e := al_bdx (a := a) (b := b) (lo := r) (hi := r) (R := 1000000) (by omega) (by omega)
  have s1 := sizeI_pos pre0.2.2.2.2
  have s2 := sizeI_le (a := a) (b := b) (by omega)
  have m1 := mul_bd (x := hi) (y := sizeI a b) (X := 100000) (Y := 4000) (by omega) (by omega)
  have m2 := mul_bd (x := lo) (y := sizeI a b) (X := 100000) (Y := 4000) (by omega) (by omega)
  simp only [Tree.sat, allP, fitP, fitL, valEq, inI64, true_and, and_true, decide_eq_true_eq, decide_eq_false_iff_not, Int.natCast_zero, Int.toNat_natCast, exB]
  repeat' first | with_reducible apply And.intro | with_reducible intro _
  all_goals first | exact True.intro | omega | (simp; omega) | (simp_all; done)
theorem rExplains_ok : SoundSpec Try.prog 76 S_rExplains := by
  refine ⟨⟨_, Try.func76, by kernel_rfl, by kernel_rfl⟩, ?_⟩
  intro avs ns res h hn
  unfold S_rExplains at h
  split at h
  · cases h
    exact rExplains_at _ _ _ _ _ (hn _ (by simp)) (hn _ (by simp))
  · cases h

def S_explains : Sx.Spec := fun l => match l with
  | [.agg [.x (.int .i64 a), .x (.int .i64 b), .x (.int .i64 r), .x (.int .i64 lo), .x (.int .i64 hi)]] => some ([-1000 ≤ a ∧ a ≤ 1000 ∧ -1000 ≤ b ∧ b ≤ 1000 ∧ a ≠ b, -1000000 ≤ r ∧ r ≤ 1000000 ∧ -100000 ≤ lo ∧ lo ≤ hi ∧ hi ≤ 100000], bl (exB a b r lo hi))
  | _ => none

set_option maxRecDepth 100000 in
theorem explains_at (a b r lo hi : Int) (pre0 : -1000 ≤ a ∧ a ≤ 1000 ∧ -1000 ≤ b ∧ b ≤ 1000 ∧ a ≠ b) (pre1 : -1000000 ≤ r ∧ r ≤ 1000000 ∧ -100000 ≤ lo ∧ lo ≤ hi ∧ hi ≤ 100000) : SoundAt Try.prog 87 [.agg [i a, i b, i r, i lo, i hi]] (bl (exB a b r lo hi)) := by
  refine soundAt_fin (G := [(63, S_rod), (64, S_heights), (66, S_greatest)]) (L := []) (SoundG.cons rod_ok (SoundG.cons heights_ok (SoundG.cons greatest_ok (SoundG.nil _)))) mixed Try.func87 (show Try.f87.body = some (bodyOf Try.f87) by kernel_rfl) noLoops (t := (Tree.need [(-1000 : Int) ≤ a ∧ a ≤ (1000 : Int) ∧ (-1000 : Int) ≤ b ∧ b ≤ (1000 : Int)] (Tree.need [(-1000 : Int) ≤ a ∧ a ≤ (1000 : Int) ∧ (-1000 : Int) ≤ b ∧ b ≤ (1000 : Int) ∧ a ≠ b, (-100000000 : Int) ≤ r ∧ r ≤ r ∧ r ≤ (100000000 : Int)] (Tree.need [inI64 ((1000 : Int) * alLo a b r r)] (Tree.need [inI64 (hi * sizeI a b)] (Tree.branch (decide ((1000 : Int) * alLo a b r r ≤ hi * sizeI a b)) (Tree.need [inI64 ((1000 : Int) * alHi a b r r)] (Tree.need [inI64 (lo * sizeI a b)] (Tree.leaf (RV.x (Value.bool (decide ((1000 : Int) * alHi a b r r ≥ lo * sizeI a b))))))) (Tree.leaf (RV.x (Value.bool false))))))))) (by kernel_rfl) ?_
  have e := al_bdx (a := a) (b := b) (lo := r) (hi := r) (R := 1000000) (by omega) (by omega)
  have s1 := sizeI_pos pre0.2.2.2.2
  have s2 := sizeI_le (a := a) (b := b) (by omega)
  have m1 := mul_bd (x := hi) (y := sizeI a b) (X := 100000) (Y := 4000) (by omega) (by omega)
  have m2 := mul_bd (x := lo) (y := sizeI a b) (X := 100000) (Y := 4000) (by omega) (by omega)
  simp only [Tree.sat, allP, fitP, fitL, valEq, inI64, true_and, and_true, decide_eq_true_eq, decide_eq_false_iff_not, Int.natCast_zero, Int.toNat_natCast, exB]
  repeat' first | with_reducible apply And.intro | with_reducible intro _
  all_goals first | exact True.intro | omega | (simp; omega) | (simp_all; done)
theorem explains_ok : SoundSpec Try.prog 87 S_explains := by
  refine ⟨⟨_, Try.func87, by kernel_rfl, by kernel_rfl⟩, ?_⟩
  intro avs ns res h hn
  unfold S_explains at h
  split at h
  · cases h
    exact explains_at _ _ _ _ _ (hn _ (by simp)) (hn _ (by simp))
  · cases h


theorem chunk_mem {sz k : Nat} {l : List AV} {x : AV} (h : x ∈ chunk sz l k) : x ∈ l := List.mem_of_mem_drop (List.mem_of_mem_take h)
theorem chunk_isX {n sz : Nat} {l : List AV} (h : ∀ x ∈ l, isX x) : ∀ k, k < n → ∀ x ∈ chunk sz l k, isX x := fun _ _ x hx => h x (chunk_mem hx)
theorem chunk_one {n sz : Nat} {l : List AV} (h : ∀ x ∈ l, AV.one x = true) : ∀ k, k < n → ∀ x ∈ chunk sz l k, AV.one x = true := fun _ _ x hx => h x (chunk_mem hx)
theorem one_of {sz k : Nat} {l : List AV} {x : AV} (hm : x ∈ chunk sz l k) (h : ∀ y ∈ l, AV.one y = true) : AV.one x = true := h x (chunk_mem hm)
theorem catF1 {k j : Nat} {a : Nat → Int} {x : Int} (h : j < k + 1) (hx : x = a k) : catF k (fun k => [i (a k)]) (chunk 1 [i x]) j = [i (a j)] := by
  have e : j - k = 0 := by omega
  show mergeL (decide (j < k)) [i (a j)] (chunk 1 [i x] (j - k)) = _
  rw [e]
  by_cases hj : j < k
  · rw [show decide (j < k) = true by simp [hj]]
    rfl
  · have hk : j = k := by omega
    rw [show decide (j < k) = false by simp [hj], hk, hx]
    rfl
theorem catF2 {k j : Nat} {a b : Nat → Int} {x y : Int} (h : j < k + 1) (hx : x = a k) (hy : y = b k) : catF k (fun k => [i (a k), i (b k)]) (chunk 2 [i x, i y]) j = [i (a j), i (b j)] := by
  have e : j - k = 0 := by omega
  show mergeL (decide (j < k)) [i (a j), i (b j)] (chunk 2 [i x, i y] (j - k)) = _
  rw [e]
  by_cases hj : j < k
  · rw [show decide (j < k) = true by simp [hj]]
    rfl
  · have hk : j = k := by omega
    rw [show decide (j < k) = false by simp [hj], hk, hx, hy]
    rfl
theorem catF3 {k j : Nat} {a b c : Nat → Int} {x y z : Int} (h : j < k + 1) (hx : x = a k) (hy : y = b k) (hz : z = c k) : catF k (fun k => [i (a k), i (b k), i (c k)]) (chunk 3 [i x, i y, i z]) j = [i (a j), i (b j), i (c j)] := by
  have e : j - k = 0 := by omega
  show mergeL (decide (j < k)) [i (a j), i (b j), i (c j)] (chunk 3 [i x, i y, i z] (j - k)) = _
  rw [e]
  by_cases hj : j < k
  · rw [show decide (j < k) = true by simp [hj]]
    rfl
  · have hk : j = k := by omega
    rw [show decide (j < k) = false by simp [hj], hk, hx, hy, hz]
    rfl

def S_kinds : Sx.Spec := fun l => match l with
  | [] => some ([], .lst 2 4 (chunk 2 [i 0, i 100, i 32, i 212, i 0, i 80, i 150, i 0]))
  | _ => none

set_option maxRecDepth 100000 in
theorem kinds_at  : SoundAt Try.prog 49 [] (.lst 2 4 (chunk 2 [i 0, i 100, i 32, i 212, i 0, i 80, i 150, i 0])) := by
  refine soundAt_fin (G := []) (L := []) (SoundG.nil _) mixed Try.func49 (show Try.f49.body = some (bodyOf Try.f49) by kernel_rfl) noLoops (t := (Tree.leaf (RV.lst 2 4 (chunk 2 [iI (0 : Int), iI (100 : Int), iI (32 : Int), iI (212 : Int), iI (0 : Int), iI (80 : Int), iI (150 : Int), iI (0 : Int)])))) (by kernel_rfl) ?_
  simp only [Tree.sat, fitP, true_and]
  exact chunk_isX (by simp [isX])
theorem kinds_ok : SoundSpec Try.prog 49 S_kinds := by
  refine ⟨⟨_, Try.func49, by kernel_rfl, by kernel_rfl⟩, ?_⟩
  intro avs ns res h hn
  unfold S_kinds at h
  split at h
  · cases h
    exact kinds_at 
  · cases h

noncomputable def E_ls (n : Nat) (a b : Nat → Int) : St := (some
  {
    σ :=
      [AV.lst (2 : Nat) n fun k => [AV.x (Value.int IntKind.i64 (a k)), AV.x (Value.int IntKind.i64 (b k))], AV.top,
        AV.x (Value.slice none (0 : Nat) (0 : Nat)), AV.top, AV.top, AV.top, AV.top, AV.top, AV.top, AV.top, AV.top,
        AV.top, AV.top, AV.top, AV.top, AV.top, AV.top, AV.top, AV.top, AV.top],
    m := [((900 : Nat), Res.row (38 : Nat) (2 : Nat) (0 : Nat) fun x => [])], nx := (901 : Nat) } : Option St).getD { σ := [], m := [], nx := 0 }
noncomputable def B_ls : Code := loopBody (loopAt (bodyOf Try.f18) 0)
noncomputable def inv_ls (n : Nat) (a b : Nat → Int) (k : Nat) : St := { σ := ovrS [(3, .row 900), (4, i k)] (E_ls n a b).σ, m := [(900, .row 38 2 (k) (fun k => [i (a k), i (b k)]))], nx := (E_ls n a b).nx }
noncomputable def out_ls (n : Nat) (a b : Nat → Int) (k : Nat) : AEx → Option St := fun ex => match ex with
  | .exit 0 => some { σ := ovrS [(3, .row 900)] (E_ls n a b).σ, m := [(900, .row 38 2 (n) (fun k => [i (a k), i (b k)]))], nx := (E_ls n a b).nx }
  | _ => none
noncomputable def T_ls (n : Nat) (a b : Nat → Int) : CT := .leaf (.exit 0, ( out_ls n a b 0 (.exit 0)).getD (E_ls n a b))
noncomputable def LS_ls (n : Nat) (a b : Nat → Int) : LSpec := normSp [(.slot 3, 900, 38, 2)] (sumL (inv_ls n a b (0)) (T_ls n a b))
set_option maxRecDepth 100000 in
theorem ls_ls (n : Nat) (a b : Nat → Int) (pre0 : n ≤ 100000) : LSound Try.prog (.loop B_ls) (LS_ls n a b) := by
  refine loop_roundsN [(.slot 3, 900, 38, 2)] (G := [(23, S_lScale)]) (L := []) (SoundG.cons lScale_ok (SoundG.nil _)) mixed noLoops (X := Nat) (inv_ls n a b) (fun k => k ≤ n) (fun k => n - k) (out_ls n a b) (x0 := 0) (by simp) ?_ ?_ ?_
  · rintro k
    kernel_rfl
  · rintro k y E h
    unfold out_ls at h
    split at h
    · cases h; kernel_rfl
    · cases h
  · rintro Q hQ k hx
    refine ⟨(k + 1), ?_⟩
    have e : roundN Try.prog [(23, S_lScale)] [] [(.slot 3, 900, 38, 2)] B_ls (inv_ls n a b k) (inv_ls n a b ((k + 1))) (out_ls n a b k) = (Tree.branch (decide ((↑k : Int) < (↑n : Int))) (Tree.need [(0 : Int) ≤ (↑k : Int) ∧ (↑k : Int) < (↑n : Int)] (Tree.need [(k + 1) * 16 ≤ 140737488355328, ∀ (i : Nat), i < 1 → ∀ (a_2 : AV), a_2 ∈ chunk 2 [iI (a (Int.toNat (↑k : Int))), iI (b (Int.toNat (↑k : Int)))] i → AV.one a_2 = true] (Tree.need [inI64 ((↑k : Int) + (1 : Int))] (Tree.need [(AV.lst 2 n fun k => [iI (a k), iI (b k)]) = AV.lst 2 n fun k => [iI (a k), iI (b k)], AV.x (Value.slice none 0 0) = AV.x (Value.slice none 0 0), AV.row 900 = AV.row 900, (↑k : Int) + (1 : Int) = (↑(k + 1) : Int), k + 1 = k + 1, ∀ (i : Nat), i < k + 1 → catF k (fun k => [Ytchcegfhamngkaa.i (a k), Ytchcegfhamngkaa.i (b k)]) (chunk 2 [iI (a (Int.toNat (↑k : Int))), iI (b (Int.toNat (↑k : Int)))]) i = [Ytchcegfhamngkaa.i (a i), Ytchcegfhamngkaa.i (b i)]] (Tree.leaf AEx.normal))))) (Tree.need [(AV.lst 2 n fun k => [iI (a k), iI (b k)]) = AV.lst 2 n fun k => [iI (a k), iI (b k)], AV.x (Value.slice none 0 0) = AV.x (Value.slice none 0 0), AV.row 900 = AV.row 900, k = n, ∀ (i : Nat), i < n → [Ytchcegfhamngkaa.i (a i), Ytchcegfhamngkaa.i (b i)] = [Ytchcegfhamngkaa.i (a i), Ytchcegfhamngkaa.i (b i)]] (Tree.leaf (AEx.exit 0)))) := by kernel_rfl
    rw [e]
    simp only [T_ls, out_ls, Tree.sat, Option.getD_some] at hQ
    simp only [Tree.sat, allP, fitP, fitL, valEq, inI64, true_and, and_true, decide_eq_true_eq, decide_eq_false_iff_not, Int.natCast_zero, Int.toNat_natCast, out_ls]
    clear e
    repeat' first | with_reducible apply And.intro | with_reducible intro _
    all_goals first | exact True.intro | omega | exact catF2 (by assumption) rfl rfl | (rename_i hm; exact one_of hm (by simp [AV.one, Value.oneCell'])) | (rename_i hE; cases hE; exact hQ)

set_option maxRecDepth 100000 in
theorem lScales_at (n : Nat) (a b : Nat → Int) (pre0 : n ≤ 100000) : SoundAt Try.prog 18 [scs n a b] (scs n a b) := by
  refine soundAt_fin (G := [(23, S_lScale)]) (L := [LS_ls n a b]) (SoundG.cons lScale_ok (SoundG.nil _)) mixed Try.func18 (show Try.f18.body = some (bodyOf Try.f18) by kernel_rfl) (one_loop (fun cj hcj => by
    have e : loopAt (bodyOf Try.f18) 0 = some (.loop B_ls) := by kernel_rfl
    rw [e] at hcj; cases hcj
    exact ls_ls n a b pre0)) (t := (Tree.need [(AV.lst 2 n fun k => [iI (a k), iI (b k)]) = AV.lst 2 n fun k => [iI (a k), iI (b k)], AV.x (Value.slice none 0 0) = AV.x (Value.slice none 0 0), AV.row 900 = AV.row 900, (0 : Int) = (↑(0 : Nat) : Int), 0 = 0, ∀ (i : Nat), i < 0 → [] = [Ytchcegfhamngkaa.i (a i), Ytchcegfhamngkaa.i (b i)]] (Tree.leaf (RV.lst 2 n fun k => [iI (a k), iI (b k)])))) (by kernel_rfl) ?_
  simp only [Tree.sat, allP, fitP, fitL, valEq, inI64, true_and, and_true, decide_eq_true_eq, decide_eq_false_iff_not, Int.natCast_zero, Int.toNat_natCast, List.mem_cons, List.not_mem_nil, or_false, isX]
  repeat' first | with_reducible apply And.intro | with_reducible intro _
  all_goals first | exact True.intro | omega | with_reducible rfl | (rename_i hm; rcases hm with rfl | rfl <;> exact True.intro) | (rename_i hm; rcases hm with rfl | rfl | rfl <;> exact True.intro) | (rename_i hm; subst hm; exact True.intro)

end Go.Proofs.Ytchcegfhamngkaa
/- Contracts of functions of the program, by the engine Sx: what each call comes to. Printed by a program of this repo (sxgen.py). -/
set_option linter.unusedSimpArgs false
set_option linter.unusedVariables false
namespace Go.Proofs.Ytchcegfhamngkaa
open Go Go.Sx Go.RowKit
noncomputable def E_sd (n : Nat) (a b : Nat → Int) (lo hi : Int) : St := (some
  {
    σ :=
      [AV.lst (2 : Nat) n fun k => [AV.x (Value.int IntKind.i64 (a k)), AV.x (Value.int IntKind.i64 (b k))],
        AV.agg [AV.x (Value.int IntKind.i64 lo), AV.x (Value.int IntKind.i64 hi)], AV.top, AV.ptr (0 : Nat) (0 : Nat),
        AV.top, AV.top,
        AV.lst (2 : Nat) n fun k => [AV.x (Value.int IntKind.i64 (a k)), AV.x (Value.int IntKind.i64 (b k))],
        AV.x (Value.int IntKind.i64 (↑n : Int)), AV.lit false, AV.top, AV.top, AV.top, AV.top, AV.top, AV.top, AV.top,
        AV.top, AV.top, AV.top, AV.top, AV.top, AV.top, AV.top, AV.top],
    m := [((0 : Nat), Res.cells (24 : Nat) [AV.x (Value.int IntKind.i64 lo), AV.x (Value.int IntKind.i64 hi)])],
    nx := (6 : Nat) } : Option St).getD { σ := [], m := [], nx := 0 }
noncomputable def B_sd : Code := loopBody (loopAt (bodyOf Try.f20) 0)
noncomputable def inv_sd (n : Nat) (a b : Nat → Int) (lo hi : Int) (k : Nat) : St := { σ := ovrS [(5, i k)] (E_sd n a b lo hi).σ, m := (E_sd n a b lo hi).m, nx := (E_sd n a b lo hi).nx }
noncomputable def out_sd (n : Nat) (a b : Nat → Int) (lo hi : Int) (k : Nat) : AEx → Option St := fun ex => match ex with
  | .exit 0 => some { σ := ovrS [] (E_sd n a b lo hi).σ, m := (E_sd n a b lo hi).m, nx := (E_sd n a b lo hi).nx }
  | .ret => some { σ := ovrS [(4, i 1)] (E_sd n a b lo hi).σ, m := (E_sd n a b lo hi).m, nx := (E_sd n a b lo hi).nx }
  | _ => none
noncomputable def T_sd (n : Nat) (a b : Nat → Int) (lo hi : Int) : CT := .branch (allI ((fun k => scB (a k) (b k))) n) (.leaf (.exit 0, ( out_sd n a b lo hi 0 (.exit 0)).getD (E_sd n a b lo hi))) (.leaf (.ret, ( out_sd n a b lo hi 0 .ret).getD (E_sd n a b lo hi)))
noncomputable def LS_sd (n : Nat) (a b : Nat → Int) (lo hi : Int) : LSpec := (sumL (inv_sd n a b lo hi (0)) (T_sd n a b lo hi))
set_option maxRecDepth 100000 in
theorem sd_ls (n : Nat) (a b : Nat → Int) (lo hi : Int) (pre0 : n ≤ 100000) : LSound Try.prog (.loop B_sd) (LS_sd n a b lo hi) := by
  refine loop_rounds (G := [(31, S_rIsScale), (25, S_rAreReadings)]) (L := []) (SoundG.cons rIsScale_ok (SoundG.cons rAreReadings_ok (SoundG.nil _))) mixed noLoops (X := Nat) (inv_sd n a b lo hi) (fun k => k ≤ n ∧ ∀ j, j < k → ((fun k => scB (a k) (b k))) j = true) (fun k => n - k) (out_sd n a b lo hi) (x0 := 0) ⟨by omega, fun j hj => by omega⟩ ?_ ?_ ?_
  · rintro k
    kernel_rfl
  · rintro k y E h
    unfold out_sd at h
    split at h
    · cases h; kernel_rfl
    · cases h; kernel_rfl
    · cases h
  · rintro Q hQ k hx
    refine ⟨(k + 1), ?_⟩
    have e : roundT Try.prog [(31, S_rIsScale), (25, S_rAreReadings)] [] B_sd (inv_sd n a b lo hi k) (inv_sd n a b lo hi ((k + 1))) (out_sd n a b lo hi k) = (Tree.branch (decide ((↑k : Int) < (↑n : Int))) (Tree.need [(0 : Int) ≤ (↑k : Int) ∧ (↑k : Int) < (↑n : Int)] (Tree.branch (!scB (a (Int.toNat (↑k : Int))) (b (Int.toNat (↑k : Int)))) (Tree.need [(AV.lst 2 n fun k => [iI (a k), iI (b k)]) = AV.lst 2 n fun k => [iI (a k), iI (b k)], AV.agg [iI lo, iI hi] = AV.agg [iI lo, iI hi], AV.ptr 0 0 = AV.ptr 0 0, (1 : Int) = (1 : Int), (AV.lst 2 n fun k => [iI (a k), iI (b k)]) = AV.lst 2 n fun k => [iI (a k), iI (b k)], (↑n : Int) = (↑n : Int), AV.lit false = AV.lit false, lo = lo, hi = hi] (Tree.leaf AEx.ret)) (Tree.need [inI64 ((↑k : Int) + (1 : Int))] (Tree.need [(AV.lst 2 n fun k => [iI (a k), iI (b k)]) = AV.lst 2 n fun k => [iI (a k), iI (b k)], AV.agg [iI lo, iI hi] = AV.agg [iI lo, iI hi], AV.ptr 0 0 = AV.ptr 0 0, (↑k : Int) + (1 : Int) = (↑(k + 1) : Int), (AV.lst 2 n fun k => [iI (a k), iI (b k)]) = AV.lst 2 n fun k => [iI (a k), iI (b k)], (↑n : Int) = (↑n : Int), AV.lit false = AV.lit false, lo = lo, hi = hi] (Tree.leaf AEx.normal))))) (Tree.need [(AV.lst 2 n fun k => [iI (a k), iI (b k)]) = AV.lst 2 n fun k => [iI (a k), iI (b k)], AV.agg [iI lo, iI hi] = AV.agg [iI lo, iI hi], AV.ptr 0 0 = AV.ptr 0 0, (AV.lst 2 n fun k => [iI (a k), iI (b k)]) = AV.lst 2 n fun k => [iI (a k), iI (b k)], (↑n : Int) = (↑n : Int), AV.lit false = AV.lit false, lo = lo, hi = hi] (Tree.leaf (AEx.exit 0)))) := by kernel_rfl
    rw [e]
    simp only [T_sd, out_sd, Tree.sat, Option.getD_some] at hQ
    have hbad : k < n → ((fun k => scB (a k) (b k))) k = false → allI ((fun k => scB (a k) (b k))) n = false := by
      intro h1 h2
      rw [← Bool.not_eq_true]
      intro h3
      have := allI_iff.1 h3 k h1
      exact Bool.noConfusion (h2.symm.trans this)
    have hgood : ((fun k => scB (a k) (b k))) k = true → ∀ j, j < k + 1 → ((fun k => scB (a k) (b k))) j = true := by
      intro h1 j hj
      rcases (show j < k ∨ j = k by omega) with h | rfl
      · exact hx.2 j h
      · exact h1
    have hend : ¬ k < n → allI ((fun k => scB (a k) (b k))) n = true := fun h => allI_iff.2 (fun j hj => hx.2 j (by omega))
    have hQ1 : ∀ E, out_sd n a b lo hi k .ret = some E → allI ((fun k => scB (a k) (b k))) n = false → Q (.ret, E) := by
      intro E hE hf
      cases hE
      exact hQ.2 hf
    have hQ2 : ∀ E, out_sd n a b lo hi k (.exit 0) = some E → allI ((fun k => scB (a k) (b k))) n = true → Q (.exit 0, E) := by
      intro E hE hf
      cases hE
      exact hQ.1 hf
    simp only [Tree.sat, allP, true_and, and_true, decide_eq_true_eq, decide_eq_false_iff_not, inI64, Int.toNat_natCast]
    clear e
    repeat' first | with_reducible apply And.intro | with_reducible intro _
    all_goals first | exact True.intro | omega | exact hQ1 _ (by assumption) (hbad (by omega) (by simp_all)) | exact hQ2 _ (by assumption) (hend (by omega)) | exact hgood (by simp_all) _ (by assumption)


def sdE (n : Nat) (a b : Nat → Int) (lo hi : Int) : Int := if 8 < n then 3 else if allS n a b then (if insB (-1000000) lo hi 1000000 then 0 else 2) else 1
def S_scaled : Sx.Spec := fun l => match l with
  | [.lst 2 n f, .agg [.x (.int .i64 lo), .x (.int .i64 hi)]] => some ([isRec 2 n f, n ≤ 100000], i (sdE n (col 0 f) (col 1 f) lo hi))
  | _ => none
def S_lScales : Sx.Spec := fun l => match l with
  | [.lst 2 n f] => some ([isRec 2 n f, n ≤ 100000], scs n (col 0 f) (col 1 f))
  | _ => none
def S_lTable : Sx.Spec := S_lScales

set_option maxRecDepth 100000 in
theorem scaled_at (n : Nat) (a b : Nat → Int) (lo hi : Int) (pre0 : n ≤ 100000) : SoundAt Try.prog 20 [scs n a b, .agg [i lo, i hi]] (i (sdE n a b lo hi)) := by
  refine soundAt_fin (G := [(31, S_rIsScale), (25, S_rAreReadings)]) (L := [LS_sd n a b lo hi]) (SoundG.cons rIsScale_ok (SoundG.cons rAreReadings_ok (SoundG.nil _))) mixed Try.func20 (show Try.f20.body = some (bodyOf Try.f20) by kernel_rfl) (one_loop (fun cj hcj => by
    have e : loopAt (bodyOf Try.f20) 0 = some (.loop B_sd) := by kernel_rfl
    rw [e] at hcj; cases hcj
    exact sd_ls n a b lo hi pre0)) (t := (Tree.branch (decide ((↑n : Int) > (8 : Int))) (Tree.leaf (RV.x (Value.int IntKind.i64 (3 : Int)))) (Tree.need [(AV.lst 2 n fun k => [iI (a k), iI (b k)]) = AV.lst 2 n fun k => [iI (a k), iI (b k)], AV.agg [iI lo, iI hi] = AV.agg [iI lo, iI hi], AV.ptr 0 0 = AV.ptr 0 0, (0 : Int) = (↑(0 : Nat) : Int), (AV.lst 2 n fun k => [iI (a k), iI (b k)]) = AV.lst 2 n fun k => [iI (a k), iI (b k)], (↑n : Int) = (↑n : Int), AV.lit false = AV.lit false, lo = lo, hi = hi] (Tree.branch (allI (fun k => scB (a k) (b k)) n) (Tree.branch (!insB (-1000000 : Int) lo hi (1000000 : Int)) (Tree.leaf (RV.x (Value.int IntKind.i64 (2 : Int)))) (Tree.leaf (RV.x (Value.int IntKind.i64 (0 : Int))))) (Tree.leaf (RV.x (Value.int IntKind.i64 (1 : Int)))))))) (by kernel_rfl) ?_
  simp only [Tree.sat, allP, fitP, fitL, valEq, inI64, true_and, and_true, decide_eq_true_eq, decide_eq_false_iff_not, Int.natCast_zero, Int.toNat_natCast, sdE, allS]
  refine ⟨fun h => ?_, fun h => ⟨fun h2 => ⟨fun h3 => ?_, fun h3 => ?_⟩, fun h2 => ?_⟩⟩
  · simp [show 8 < n by omega]
  · simp [show ¬ 8 < n by omega, h2]
    simpa using h3
  · simp [show ¬ 8 < n by omega, h2]
    simpa using h3
  · simp [show ¬ 8 < n by omega, h2]


theorem scaled_ok : SoundSpec Try.prog 20 S_scaled := by
  refine ⟨⟨_, Try.func20, by kernel_rfl, by kernel_rfl⟩, ?_⟩
  intro avs ns res h hn
  unfold S_scaled at h
  split at h
  · rename_i n f lo hi
    cases h
    have hr : isRec 2 n f := hn _ (by simp)
    exact (scaled_at n (col 0 f) (col 1 f) lo hi (hn _ (by simp))).same (.cons (.lst 2 n _ _ hr) (.cons (.refl _) .nil))
  · cases h


theorem lScales_ok : SoundSpec Try.prog 18 S_lScales := by
  refine ⟨⟨_, Try.func18, by kernel_rfl, by kernel_rfl⟩, ?_⟩
  intro avs ns res h hn
  unfold S_lScales at h
  split at h
  · rename_i n f
    cases h
    have hr : isRec 2 n f := hn _ (by simp)
    exact (lScales_at n (col 0 f) (col 1 f) (hn _ (by simp))).same (.cons (.lst 2 n _ _ hr) .nil)
  · cases h

noncomputable def E_lt (n : Nat) (a b : Nat → Int) : St := (some
  {
    σ :=
      [AV.lst (2 : Nat) n fun k => [AV.x (Value.int IntKind.i64 (a k)), AV.x (Value.int IntKind.i64 (b k))], AV.top,
        AV.x (Value.slice none (0 : Nat) (0 : Nat)), AV.top, AV.top, AV.top, AV.top, AV.top, AV.top, AV.top, AV.top,
        AV.top, AV.top, AV.top, AV.top, AV.top, AV.top, AV.top, AV.top, AV.top, AV.top, AV.top, AV.top, AV.top, AV.top,
        AV.top],
    m := [((900 : Nat), Res.row (68 : Nat) (2 : Nat) (0 : Nat) fun x => [])], nx := (901 : Nat) } : Option St).getD { σ := [], m := [], nx := 0 }
noncomputable def B_lt : Code := loopBody (loopAt (bodyOf Try.f27) 0)
noncomputable def inv_lt (n : Nat) (a b : Nat → Int) (k : Nat) : St := { σ := ovrS [(3, .row 900), (4, i k)] (E_lt n a b).σ, m := [(900, .row 68 2 (k) (fun k => [i (a k), i (b k)]))], nx := (E_lt n a b).nx }
noncomputable def out_lt (n : Nat) (a b : Nat → Int) (k : Nat) : AEx → Option St := fun ex => match ex with
  | .exit 0 => some { σ := ovrS [(3, .row 900)] (E_lt n a b).σ, m := [(900, .row 68 2 (n) (fun k => [i (a k), i (b k)]))], nx := (E_lt n a b).nx }
  | _ => none
noncomputable def T_lt (n : Nat) (a b : Nat → Int) : CT := .leaf (.exit 0, ( out_lt n a b 0 (.exit 0)).getD (E_lt n a b))
noncomputable def LS_lt (n : Nat) (a b : Nat → Int) : LSpec := normSp [(.slot 3, 900, 68, 2)] (sumL (inv_lt n a b (0)) (T_lt n a b))
set_option maxRecDepth 100000 in
theorem lt_ls (n : Nat) (a b : Nat → Int) (pre0 : n ≤ 100000) : LSound Try.prog (.loop B_lt) (LS_lt n a b) := by
  refine loop_roundsN [(.slot 3, 900, 68, 2)] (G := []) (L := []) (SoundG.nil _) mixed noLoops (X := Nat) (inv_lt n a b) (fun k => k ≤ n) (fun k => n - k) (out_lt n a b) (x0 := 0) (by simp) ?_ ?_ ?_
  · rintro k
    kernel_rfl
  · rintro k y E h
    unfold out_lt at h
    split at h
    · cases h; kernel_rfl
    · cases h
  · rintro Q hQ k hx
    refine ⟨(k + 1), ?_⟩
    have e : roundN Try.prog [] [] [(.slot 3, 900, 68, 2)] B_lt (inv_lt n a b k) (inv_lt n a b ((k + 1))) (out_lt n a b k) = (Tree.branch (decide ((↑k : Int) < (↑n : Int))) (Tree.need [(0 : Int) ≤ (↑k : Int) ∧ (↑k : Int) < (↑n : Int)] (Tree.need [(0 : Int) ≤ (↑k : Int) ∧ (↑k : Int) < (↑n : Int)] (Tree.need [(k + 1) * 16 ≤ 140737488355328, ∀ (i : Nat), i < 1 → ∀ (a_2 : AV), a_2 ∈ chunk 2 [iI (a (Int.toNat (↑k : Int))), iI (b (Int.toNat (↑k : Int)))] i → AV.one a_2 = true] (Tree.need [inI64 ((↑k : Int) + (1 : Int))] (Tree.need [(AV.lst 2 n fun k => [iI (a k), iI (b k)]) = AV.lst 2 n fun k => [iI (a k), iI (b k)], AV.x (Value.slice none 0 0) = AV.x (Value.slice none 0 0), AV.row 900 = AV.row 900, (↑k : Int) + (1 : Int) = (↑(k + 1) : Int), k + 1 = k + 1, ∀ (i : Nat), i < k + 1 → catF k (fun k => [Ytchcegfhamngkaa.i (a k), Ytchcegfhamngkaa.i (b k)]) (chunk 2 [iI (a (Int.toNat (↑k : Int))), iI (b (Int.toNat (↑k : Int)))]) i = [Ytchcegfhamngkaa.i (a i), Ytchcegfhamngkaa.i (b i)]] (Tree.leaf AEx.normal)))))) (Tree.need [(AV.lst 2 n fun k => [iI (a k), iI (b k)]) = AV.lst 2 n fun k => [iI (a k), iI (b k)], AV.x (Value.slice none 0 0) = AV.x (Value.slice none 0 0), AV.row 900 = AV.row 900, k = n, ∀ (i : Nat), i < n → [Ytchcegfhamngkaa.i (a i), Ytchcegfhamngkaa.i (b i)] = [Ytchcegfhamngkaa.i (a i), Ytchcegfhamngkaa.i (b i)]] (Tree.leaf (AEx.exit 0)))) := by kernel_rfl
    rw [e]
    simp only [T_lt, out_lt, Tree.sat, Option.getD_some] at hQ
    simp only [Tree.sat, allP, fitP, fitL, valEq, inI64, true_and, and_true, decide_eq_true_eq, decide_eq_false_iff_not, Int.natCast_zero, Int.toNat_natCast, out_lt]
    clear e
    repeat' first | with_reducible apply And.intro | with_reducible intro _
    all_goals first | exact True.intro | omega | exact catF2 (by assumption) rfl rfl | (rename_i hm; exact one_of hm (by simp [AV.one, Value.oneCell'])) | (rename_i hE; cases hE; exact hQ)

set_option maxRecDepth 100000 in
theorem lTable_at (n : Nat) (a b : Nat → Int) (pre0 : n ≤ 100000) : SoundAt Try.prog 27 [scs n a b] (scs n a b) := by
  refine soundAt_fin (G := []) (L := [LS_lt n a b]) (SoundG.nil _) mixed Try.func27 (show Try.f27.body = some (bodyOf Try.f27) by kernel_rfl) (one_loop (fun cj hcj => by
    have e : loopAt (bodyOf Try.f27) 0 = some (.loop B_lt) := by kernel_rfl
    rw [e] at hcj; cases hcj
    exact lt_ls n a b pre0)) (t := (Tree.need [(AV.lst 2 n fun k => [iI (a k), iI (b k)]) = AV.lst 2 n fun k => [iI (a k), iI (b k)], AV.x (Value.slice none 0 0) = AV.x (Value.slice none 0 0), AV.row 900 = AV.row 900, (0 : Int) = (↑(0 : Nat) : Int), 0 = 0, ∀ (i : Nat), i < 0 → [] = [Ytchcegfhamngkaa.i (a i), Ytchcegfhamngkaa.i (b i)]] (Tree.leaf (RV.lst 2 n fun k => [iI (a k), iI (b k)])))) (by kernel_rfl) ?_
  simp only [Tree.sat, allP, fitP, fitL, valEq, inI64, true_and, and_true, decide_eq_true_eq, decide_eq_false_iff_not, Int.natCast_zero, Int.toNat_natCast, List.mem_cons, List.not_mem_nil, or_false, isX]
  repeat' first | with_reducible apply And.intro | with_reducible intro _
  all_goals first | exact True.intro | omega | with_reducible rfl | (rename_i hm; rcases hm with rfl | rfl <;> exact True.intro) | (rename_i hm; rcases hm with rfl | rfl | rfl <;> exact True.intro) | (rename_i hm; subst hm; exact True.intro)


theorem lTable_ok : SoundSpec Try.prog 27 S_lTable := by
  refine ⟨⟨_, Try.func27, by kernel_rfl, by kernel_rfl⟩, ?_⟩
  intro avs ns res h hn
  unfold S_lTable S_lScales at h
  split at h
  · rename_i n f
    cases h
    have hr : isRec 2 n f := hn _ (by simp)
    exact (lTable_at n (col 0 f) (col 1 f) (hn _ (by simp))).same (.cons (.lst 2 n _ _ hr) .nil)
  · cases h


abbrev ens (n : Nat) (r u v : Nat → Int) : AV := .lst 3 n (fun k => [i (r k), i (u k), i (v k)])
def S_lDiary : Sx.Spec := fun l => match l with
  | [.lst 3 n f] => some ([isRec 3 n f, n ≤ 100000], ens n (col 0 f) (col 1 f) (col 2 f))
  | _ => none

noncomputable def E_ld (n : Nat) (r u v : Nat → Int) : St := (some
  {
    σ :=
      [AV.lst (3 : Nat) n fun k =>
          [AV.x (Value.int IntKind.i64 (r k)), AV.x (Value.int IntKind.i64 (u k)), AV.x (Value.int IntKind.i64 (v k))],
        AV.top, AV.x (Value.slice none (0 : Nat) (0 : Nat)), AV.top, AV.top, AV.top, AV.top, AV.top, AV.top, AV.top,
        AV.top, AV.top, AV.top, AV.top, AV.top, AV.top, AV.top, AV.top, AV.top, AV.top, AV.top, AV.top, AV.top, AV.top,
        AV.top, AV.top, AV.top],
    m := [((900 : Nat), Res.row (94 : Nat) (3 : Nat) (0 : Nat) fun x => [])], nx := (901 : Nat) } : Option St).getD { σ := [], m := [], nx := 0 }
noncomputable def B_ld : Code := loopBody (loopAt (bodyOf Try.f44) 0)
noncomputable def inv_ld (n : Nat) (r u v : Nat → Int) (k : Nat) : St := { σ := ovrS [(3, .row 900), (4, i k)] (E_ld n r u v).σ, m := [(900, .row 94 3 (k) (fun k => [i (r k), i (u k), i (v k)]))], nx := (E_ld n r u v).nx }
noncomputable def out_ld (n : Nat) (r u v : Nat → Int) (k : Nat) : AEx → Option St := fun ex => match ex with
  | .exit 0 => some { σ := ovrS [(3, .row 900)] (E_ld n r u v).σ, m := [(900, .row 94 3 (n) (fun k => [i (r k), i (u k), i (v k)]))], nx := (E_ld n r u v).nx }
  | _ => none
noncomputable def T_ld (n : Nat) (r u v : Nat → Int) : CT := .leaf (.exit 0, ( out_ld n r u v 0 (.exit 0)).getD (E_ld n r u v))
noncomputable def LS_ld (n : Nat) (r u v : Nat → Int) : LSpec := normSp [(.slot 3, 900, 94, 3)] (sumL (inv_ld n r u v (0)) (T_ld n r u v))
set_option maxRecDepth 100000 in
theorem ld_ls (n : Nat) (r u v : Nat → Int) (pre0 : n ≤ 100000) : LSound Try.prog (.loop B_ld) (LS_ld n r u v) := by
  refine loop_roundsN [(.slot 3, 900, 94, 3)] (G := [(19, S_lto)]) (L := []) (SoundG.cons lto_ok (SoundG.nil _)) mixed noLoops (X := Nat) (inv_ld n r u v) (fun k => k ≤ n) (fun k => n - k) (out_ld n r u v) (x0 := 0) (by simp) ?_ ?_ ?_
  · rintro k
    kernel_rfl
  · rintro k y E h
    unfold out_ld at h
    split at h
    · cases h; kernel_rfl
    · cases h
  · rintro Q hQ k hx
    refine ⟨(k + 1), ?_⟩
    have e : roundN Try.prog [(19, S_lto)] [] [(.slot 3, 900, 94, 3)] B_ld (inv_ld n r u v k) (inv_ld n r u v ((k + 1))) (out_ld n r u v k) = (Tree.branch (decide ((↑k : Int) < (↑n : Int))) (Tree.need [(0 : Int) ≤ (↑k : Int) ∧ (↑k : Int) < (↑n : Int)] (Tree.need [(0 : Int) ≤ (↑k : Int) ∧ (↑k : Int) < (↑n : Int)] (Tree.need [(k + 1) * 24 ≤ 140737488355328, ∀ (i : Nat), i < 1 → ∀ (a : AV), a ∈ chunk 3 [iI (r (Int.toNat (↑k : Int))), iI (u (Int.toNat (↑k : Int))), iI (v (Int.toNat (↑k : Int)))] i → AV.one a = true] (Tree.need [inI64 ((↑k : Int) + (1 : Int))] (Tree.need [(AV.lst 3 n fun k => [iI (r k), iI (u k), iI (v k)]) = AV.lst 3 n fun k => [iI (r k), iI (u k), iI (v k)], AV.x (Value.slice none 0 0) = AV.x (Value.slice none 0 0), AV.row 900 = AV.row 900, (↑k : Int) + (1 : Int) = (↑(k + 1) : Int), k + 1 = k + 1, ∀ (i : Nat), i < k + 1 → catF k (fun k => [Ytchcegfhamngkaa.i (r k), Ytchcegfhamngkaa.i (u k), Ytchcegfhamngkaa.i (v k)]) (chunk 3 [iI (r (Int.toNat (↑k : Int))), iI (u (Int.toNat (↑k : Int))), iI (v (Int.toNat (↑k : Int)))]) i = [Ytchcegfhamngkaa.i (r i), Ytchcegfhamngkaa.i (u i), Ytchcegfhamngkaa.i (v i)]] (Tree.leaf AEx.normal)))))) (Tree.need [(AV.lst 3 n fun k => [iI (r k), iI (u k), iI (v k)]) = AV.lst 3 n fun k => [iI (r k), iI (u k), iI (v k)], AV.x (Value.slice none 0 0) = AV.x (Value.slice none 0 0), AV.row 900 = AV.row 900, k = n, ∀ (i : Nat), i < n → [Ytchcegfhamngkaa.i (r i), Ytchcegfhamngkaa.i (u i), Ytchcegfhamngkaa.i (v i)] = [Ytchcegfhamngkaa.i (r i), Ytchcegfhamngkaa.i (u i), Ytchcegfhamngkaa.i (v i)]] (Tree.leaf (AEx.exit 0)))) := by kernel_rfl
    rw [e]
    simp only [T_ld, out_ld, Tree.sat, Option.getD_some] at hQ
    simp only [Tree.sat, allP, fitP, fitL, valEq, inI64, true_and, and_true, decide_eq_true_eq, decide_eq_false_iff_not, Int.natCast_zero, Int.toNat_natCast, out_ld]
    clear e
    repeat' first | with_reducible apply And.intro | with_reducible intro _
    all_goals first | exact True.intro | omega | exact catF3 (by assumption) rfl rfl rfl | (rename_i hm; exact one_of hm (by simp [AV.one, Value.oneCell'])) | (rename_i hE; cases hE; exact hQ)

set_option maxRecDepth 100000 in
theorem lDiary_at (n : Nat) (r u v : Nat → Int) (pre0 : n ≤ 100000) : SoundAt Try.prog 44 [ens n r u v] (ens n r u v) := by
  refine soundAt_fin (G := [(19, S_lto)]) (L := [LS_ld n r u v]) (SoundG.cons lto_ok (SoundG.nil _)) mixed Try.func44 (show Try.f44.body = some (bodyOf Try.f44) by kernel_rfl) (one_loop (fun cj hcj => by
    have e : loopAt (bodyOf Try.f44) 0 = some (.loop B_ld) := by kernel_rfl
    rw [e] at hcj; cases hcj
    exact ld_ls n r u v pre0)) (t := (Tree.need [(AV.lst 3 n fun k => [iI (r k), iI (u k), iI (v k)]) = AV.lst 3 n fun k => [iI (r k), iI (u k), iI (v k)], AV.x (Value.slice none 0 0) = AV.x (Value.slice none 0 0), AV.row 900 = AV.row 900, (0 : Int) = (↑(0 : Nat) : Int), 0 = 0, ∀ (i : Nat), i < 0 → [] = [Ytchcegfhamngkaa.i (r i), Ytchcegfhamngkaa.i (u i), Ytchcegfhamngkaa.i (v i)]] (Tree.leaf (RV.lst 3 n fun k => [iI (r k), iI (u k), iI (v k)])))) (by kernel_rfl) ?_
  simp only [Tree.sat, allP, fitP, fitL, valEq, inI64, true_and, and_true, decide_eq_true_eq, decide_eq_false_iff_not, Int.natCast_zero, Int.toNat_natCast, List.mem_cons, List.not_mem_nil, or_false, isX]
  repeat' first | with_reducible apply And.intro | with_reducible intro _
  all_goals first | exact True.intro | omega | with_reducible rfl | (rename_i hm; rcases hm with rfl | rfl <;> exact True.intro) | (rename_i hm; rcases hm with rfl | rfl | rfl <;> exact True.intro) | (rename_i hm; subst hm; exact True.intro)


theorem lDiary_ok : SoundSpec Try.prog 44 S_lDiary := by
  refine ⟨⟨_, Try.func44, by kernel_rfl, by kernel_rfl⟩, ?_⟩
  intro avs ns res h hn
  unfold S_lDiary at h
  split at h
  · rename_i n f
    cases h
    have hr : isRec 3 n f := hn _ (by simp)
    exact (lDiary_at n (col 0 f) (col 1 f) (col 2 f) (hn _ (by simp))).same (.cons (.lst 3 n _ _ hr) .nil)
  · cases h

end Go.Proofs.Ytchcegfhamngkaa
/- Contracts of functions of the program, by the engine Sx: what each call comes to. Printed by a program of this repo (sxgen.py). -/
set_option linter.unusedSimpArgs false
set_option linter.unusedVariables false
namespace Go.Proofs.Ytchcegfhamngkaa
open Go Go.Sx Go.RowKit
noncomputable def E_nt (n m : Nat) (a b : Nat → Int) : St := (some
  {
    σ :=
      [AV.lst (1 : Nat) n fun k => [AV.x (Value.int IntKind.i64 (a k))],
        AV.lst (1 : Nat) m fun k => [AV.x (Value.int IntKind.i64 (b k))], AV.top, AV.top, AV.top, AV.top, AV.top,
        AV.top, AV.top, AV.top, AV.top, AV.top, AV.top, AV.top, AV.top, AV.top, AV.top, AV.top, AV.top, AV.top, AV.top,
        AV.top, AV.top, AV.top, AV.top, AV.top],
    m := [], nx := (7 : Nat) } : Option St).getD { σ := [], m := [], nx := 0 }
noncomputable def B_nt : Code := loopBody (loopAt (bodyOf Try.f48) 0)
noncomputable def inv_nt (n m : Nat) (a b : Nat → Int) (k : Nat) : St := { σ := ovrS [(5, i k)] (E_nt n m a b).σ, m := (E_nt n m a b).m, nx := (E_nt n m a b).nx }
noncomputable def out_nt (n m : Nat) (a b : Nat → Int) (k : Nat) : AEx → Option St := fun ex => match ex with
  | .exit 0 => some { σ := ovrS [] (E_nt n m a b).σ, m := (E_nt n m a b).m, nx := (E_nt n m a b).nx }
  | .ret => some { σ := ovrS [(4, .lit false)] (E_nt n m a b).σ, m := (E_nt n m a b).m, nx := (E_nt n m a b).nx }
  | _ => none
noncomputable def T_nt (n m : Nat) (a b : Nat → Int) : CT := .branch (allI ((fun k => a k == b k)) n) (.leaf (.exit 0, ( out_nt n m a b 0 (.exit 0)).getD (E_nt n m a b))) (.leaf (.ret, ( out_nt n m a b 0 .ret).getD (E_nt n m a b)))
noncomputable def LS_nt (n m : Nat) (a b : Nat → Int) : LSpec := (sumL (inv_nt n m a b (0)) (T_nt n m a b))
set_option maxRecDepth 100000 in
theorem nt_ls (n m : Nat) (a b : Nat → Int) (pre0 : n ≤ 100000) (pre1 : n = m) : LSound Try.prog (.loop B_nt) (LS_nt n m a b) := by
  refine loop_rounds (G := []) (L := []) (SoundG.nil _) mixed noLoops (X := Nat) (inv_nt n m a b) (fun k => k ≤ n ∧ ∀ j, j < k → ((fun k => a k == b k)) j = true) (fun k => n - k) (out_nt n m a b) (x0 := 0) ⟨by omega, fun j hj => by omega⟩ ?_ ?_ ?_
  · rintro k
    kernel_rfl
  · rintro k y E h
    unfold out_nt at h
    split at h
    · cases h; kernel_rfl
    · cases h; kernel_rfl
    · cases h
  · rintro Q hQ k hx
    refine ⟨(k + 1), ?_⟩
    have e : roundT Try.prog [] [] B_nt (inv_nt n m a b k) (inv_nt n m a b ((k + 1))) (out_nt n m a b k) = (Tree.branch (decide ((↑k : Int) < (↑n : Int))) (Tree.need [(0 : Int) ≤ (↑k : Int) ∧ (↑k : Int) < (↑n : Int)] (Tree.need [(0 : Int) ≤ (↑k : Int) ∧ (↑k : Int) < (↑m : Int)] (Tree.branch (a k != b k) (Tree.need [(AV.lst 1 n fun k => [iI (a k)]) = AV.lst 1 n fun k => [iI (a k)], (AV.lst 1 m fun k => [iI (b k)]) = AV.lst 1 m fun k => [iI (b k)], AV.lit false = AV.lit false] (Tree.leaf AEx.ret)) (Tree.need [inI64 ((↑k : Int) + (1 : Int))] (Tree.need [(AV.lst 1 n fun k => [iI (a k)]) = AV.lst 1 n fun k => [iI (a k)], (AV.lst 1 m fun k => [iI (b k)]) = AV.lst 1 m fun k => [iI (b k)], (↑k : Int) + (1 : Int) = (↑(k + 1) : Int)] (Tree.leaf AEx.normal)))))) (Tree.need [(AV.lst 1 n fun k => [iI (a k)]) = AV.lst 1 n fun k => [iI (a k)], (AV.lst 1 m fun k => [iI (b k)]) = AV.lst 1 m fun k => [iI (b k)]] (Tree.leaf (AEx.exit 0)))) := by kernel_rfl
    rw [e]
    simp only [T_nt, out_nt, Tree.sat, Option.getD_some] at hQ
    have hbad : k < n → ((fun k => a k == b k)) k = false → allI ((fun k => a k == b k)) n = false := by
      intro h1 h2
      rw [← Bool.not_eq_true]
      intro h3
      have := allI_iff.1 h3 k h1
      exact Bool.noConfusion (h2.symm.trans this)
    have hgood : ((fun k => a k == b k)) k = true → ∀ j, j < k + 1 → ((fun k => a k == b k)) j = true := by
      intro h1 j hj
      rcases (show j < k ∨ j = k by omega) with h | rfl
      · exact hx.2 j h
      · exact h1
    have hend : ¬ k < n → allI ((fun k => a k == b k)) n = true := fun h => allI_iff.2 (fun j hj => hx.2 j (by omega))
    have hQ1 : ∀ E, out_nt n m a b k .ret = some E → allI ((fun k => a k == b k)) n = false → Q (.ret, E) := by
      intro E hE hf
      cases hE
      exact hQ.2 hf
    have hQ2 : ∀ E, out_nt n m a b k (.exit 0) = some E → allI ((fun k => a k == b k)) n = true → Q (.exit 0, E) := by
      intro E hE hf
      cases hE
      exact hQ.1 hf
    simp only [Tree.sat, allP, true_and, and_true, decide_eq_true_eq, decide_eq_false_iff_not, inI64, Int.toNat_natCast]
    clear e
    repeat' first | with_reducible apply And.intro | with_reducible intro _
    all_goals first | exact True.intro | omega | exact hQ1 _ (by assumption) (hbad (by omega) (by simp_all)) | exact hQ2 _ (by assumption) (hend (by omega)) | exact hgood (by simp_all) _ (by assumption)

set_option maxRecDepth 100000 in
theorem ints_at (n m : Nat) (a b : Nat → Int) (pre0 : n ≤ 100000) : SoundAt Try.prog 48 [.lst 1 n (fun k => [i (a k)]), .lst 1 m (fun k => [i (b k)])] (bl (decide (n = m) && allI (fun k => a k == b k) n)) := by
  refine soundAt_fin (G := []) (L := [needSp [n ≤ 100000, n = m] (LS_nt n m a b)]) (SoundG.nil _) mixed Try.func48 (show Try.f48.body = some (bodyOf Try.f48) by kernel_rfl) (one_loop (fun cj hcj => by
    have e : loopAt (bodyOf Try.f48) 0 = some (.loop B_nt) := by kernel_rfl
    rw [e] at hcj; cases hcj
    exact needSp_sound (fun h => nt_ls n m a b h.1 h.2))) (t := (Tree.branch ((↑n : Int) != (↑m : Int)) (Tree.leaf (RV.x (Value.bool false))) (Tree.need [n ≤ 100000, n = m] (Tree.need [(AV.lst 1 n fun k => [iI (a k)]) = AV.lst 1 n fun k => [iI (a k)], (AV.lst 1 m fun k => [iI (b k)]) = AV.lst 1 m fun k => [iI (b k)], (0 : Int) = (↑(0 : Nat) : Int)] (Tree.branch (allI (fun k => a k == b k) n) (Tree.leaf (RV.x (Value.bool true))) (Tree.leaf (RV.x (Value.bool false)))))))) (by kernel_rfl) ?_
  simp only [Tree.sat, allP, fitP, fitL, valEq, inI64, true_and, and_true, decide_eq_true_eq, decide_eq_false_iff_not, Int.natCast_zero, Int.toNat_natCast, bne_iff_ne, ne_eq]
  refine ⟨fun h => ?_, fun h => ?_⟩
  · have : n ≠ m := by intro h'; subst h'; simp at h
    simp [this]
  · have e : n = m := by
      rw [bne_eq_false_iff_eq] at h
      omega
    subst e
    refine ⟨⟨by omega, rfl⟩, fun h2 => ?_, fun h2 => ?_⟩
    · simp [h2]
    · simp [h2]


def S_ints : Sx.Spec := fun l => match l with
  | [.lst 1 n f, .lst 1 m g] => some ([isRec 1 n f, isRec 1 m g, n ≤ 100000], bl (decide (n = m) && allI (fun k => col 0 f k == col 0 g k) n))
  | _ => none


theorem ints_ok : SoundSpec Try.prog 48 S_ints := by
  refine ⟨⟨_, Try.func48, by kernel_rfl, by kernel_rfl⟩, ?_⟩
  intro avs ns res h hn
  unfold S_ints at h
  split at h
  · rename_i n f m g
    cases h
    have hr : isRec 1 n f := hn _ (by simp)
    have hr2 : isRec 1 m g := hn _ (by simp)
    exact (ints_at n m (col 0 f) (col 0 g) (hn _ (by simp))).same (.cons (.lst 1 n _ _ hr) (.cons (.lst 1 m _ _ hr2) .nil))
  · cases h

noncomputable def E_dd (n m : Nat) (a b r u v : Nat → Int) : St := (some
  {
    σ :=
      [AV.lst (2 : Nat) n fun k => [AV.x (Value.int IntKind.i64 (a k)), AV.x (Value.int IntKind.i64 (b k))],
        AV.lst (3 : Nat) m fun k =>
          [AV.x (Value.int IntKind.i64 (r k)), AV.x (Value.int IntKind.i64 (u k)), AV.x (Value.int IntKind.i64 (v k))],
        AV.top, AV.top, AV.top, AV.x (Value.int IntKind.i64 (sdE n a b (0 : Int) (0 : Int))), AV.top, AV.top, AV.top,
        AV.top, AV.top, AV.top, AV.top, AV.top, AV.top, AV.top, AV.top, AV.top, AV.top, AV.top, AV.top, AV.top, AV.top,
        AV.top, AV.top, AV.top, AV.top, AV.top, AV.top, AV.top, AV.top, AV.top, AV.top],
    m := [], nx := (16 : Nat) } : Option St).getD { σ := [], m := [], nx := 0 }
noncomputable def B_dd : Code := loopBody (loopAt (bodyOf Try.f46) 0)
noncomputable def inv_dd (n m : Nat) (a b r u v : Nat → Int) (k : Nat) : St := { σ := ovrS [(6, i k)] (E_dd n m a b r u v).σ, m := (E_dd n m a b r u v).m, nx := (E_dd n m a b r u v).nx }
noncomputable def out_dd (n m : Nat) (a b r u v : Nat → Int) (k : Nat) : AEx → Option St := fun ex => match ex with
  | .exit 0 => some { σ := ovrS [] (E_dd n m a b r u v).σ, m := (E_dd n m a b r u v).m, nx := (E_dd n m a b r u v).nx }
  | .ret => some { σ := ovrS [(4, i 2)] (E_dd n m a b r u v).σ, m := (E_dd n m a b r u v).m, nx := (E_dd n m a b r u v).nx }
  | _ => none
noncomputable def T_dd (n m : Nat) (a b r u v : Nat → Int) : CT := .branch (allI ((fun k => enB (r k) (u k) (v k))) m) (.leaf (.exit 0, ( out_dd n m a b r u v 0 (.exit 0)).getD (E_dd n m a b r u v))) (.leaf (.ret, ( out_dd n m a b r u v 0 .ret).getD (E_dd n m a b r u v)))
noncomputable def LS_dd (n m : Nat) (a b r u v : Nat → Int) : LSpec := (sumL (inv_dd n m a b r u v (0)) (T_dd n m a b r u v))
set_option maxRecDepth 100000 in
theorem dd_ls (n m : Nat) (a b r u v : Nat → Int) (pre0 : m ≤ 100000) (pre1 : n ≤ 8) : LSound Try.prog (.loop B_dd) (LS_dd n m a b r u v) := by
  refine loop_rounds (G := [(20, S_scaled), (75, S_rIsEntry)]) (L := []) (SoundG.cons scaled_ok (SoundG.cons rIsEntry_ok (SoundG.nil _))) mixed noLoops (X := Nat) (inv_dd n m a b r u v) (fun k => k ≤ m ∧ ∀ j, j < k → ((fun k => enB (r k) (u k) (v k))) j = true) (fun k => m - k) (out_dd n m a b r u v) (x0 := 0) ⟨by omega, fun j hj => by omega⟩ ?_ ?_ ?_
  · rintro k
    kernel_rfl
  · rintro k y E h
    unfold out_dd at h
    split at h
    · cases h; kernel_rfl
    · cases h; kernel_rfl
    · cases h
  · rintro Q hQ k hx
    refine ⟨(k + 1), ?_⟩
    have e : roundT Try.prog [(20, S_scaled), (75, S_rIsEntry)] [] B_dd (inv_dd n m a b r u v k) (inv_dd n m a b r u v ((k + 1))) (out_dd n m a b r u v k) = (Tree.branch (decide ((↑k : Int) < (↑m : Int))) (Tree.need [(0 : Int) ≤ (↑k : Int) ∧ (↑k : Int) < (↑m : Int)] (Tree.branch (!enB (r k) (u k) (v k)) (Tree.need [(AV.lst 2 n fun k => [iI (a k), iI (b k)]) = AV.lst 2 n fun k => [iI (a k), iI (b k)], (AV.lst 3 m fun k => [iI (r k), iI (u k), iI (v k)]) = AV.lst 3 m fun k => [iI (r k), iI (u k), iI (v k)], (2 : Int) = (2 : Int), sdE n a b (0 : Int) (0 : Int) = sdE n a b (0 : Int) (0 : Int)] (Tree.leaf AEx.ret)) (Tree.need [inI64 ((↑k : Int) + (1 : Int))] (Tree.need [(AV.lst 2 n fun k => [iI (a k), iI (b k)]) = AV.lst 2 n fun k => [iI (a k), iI (b k)], (AV.lst 3 m fun k => [iI (r k), iI (u k), iI (v k)]) = AV.lst 3 m fun k => [iI (r k), iI (u k), iI (v k)], sdE n a b (0 : Int) (0 : Int) = sdE n a b (0 : Int) (0 : Int), (↑k : Int) + (1 : Int) = (↑(k + 1) : Int)] (Tree.leaf AEx.normal))))) (Tree.need [(AV.lst 2 n fun k => [iI (a k), iI (b k)]) = AV.lst 2 n fun k => [iI (a k), iI (b k)], (AV.lst 3 m fun k => [iI (r k), iI (u k), iI (v k)]) = AV.lst 3 m fun k => [iI (r k), iI (u k), iI (v k)], sdE n a b (0 : Int) (0 : Int) = sdE n a b (0 : Int) (0 : Int)] (Tree.leaf (AEx.exit 0)))) := by kernel_rfl
    rw [e]
    simp only [T_dd, out_dd, Tree.sat, Option.getD_some] at hQ
    have hbad : k < m → ((fun k => enB (r k) (u k) (v k))) k = false → allI ((fun k => enB (r k) (u k) (v k))) m = false := by
      intro h1 h2
      rw [← Bool.not_eq_true]
      intro h3
      have := allI_iff.1 h3 k h1
      exact Bool.noConfusion (h2.symm.trans this)
    have hgood : ((fun k => enB (r k) (u k) (v k))) k = true → ∀ j, j < k + 1 → ((fun k => enB (r k) (u k) (v k))) j = true := by
      intro h1 j hj
      rcases (show j < k ∨ j = k by omega) with h | rfl
      · exact hx.2 j h
      · exact h1
    have hend : ¬ k < m → allI ((fun k => enB (r k) (u k) (v k))) m = true := fun h => allI_iff.2 (fun j hj => hx.2 j (by omega))
    have hQ1 : ∀ E, out_dd n m a b r u v k .ret = some E → allI ((fun k => enB (r k) (u k) (v k))) m = false → Q (.ret, E) := by
      intro E hE hf
      cases hE
      exact hQ.2 hf
    have hQ2 : ∀ E, out_dd n m a b r u v k (.exit 0) = some E → allI ((fun k => enB (r k) (u k) (v k))) m = true → Q (.exit 0, E) := by
      intro E hE hf
      cases hE
      exact hQ.1 hf
    simp only [Tree.sat, allP, true_and, and_true, decide_eq_true_eq, decide_eq_false_iff_not, inI64, Int.toNat_natCast]
    clear e
    repeat' first | with_reducible apply And.intro | with_reducible intro _
    all_goals first | exact True.intro | omega | exact hQ1 _ (by assumption) (hbad (by omega) (by simp_all)) | exact hQ2 _ (by assumption) (hend (by omega)) | exact hgood (by simp_all) _ (by assumption)


def ddE (n m : Nat) (a b r u v : Nat → Int) : Int := if 8 < n ∨ 12 < m then 3 else if allS n a b then (if allI (fun k => enB (r k) (u k) (v k)) m then 0 else 2) else 1
def S_diaried : Sx.Spec := fun l => match l with
  | [.lst 2 n f, .lst 3 m g] => some ([isRec 2 n f, isRec 3 m g, n ≤ 100000, m ≤ 100000], i (ddE n m (col 0 f) (col 1 f) (col 0 g) (col 1 g) (col 2 g)))
  | _ => none
theorem col10 (a : Nat → Int) : col 0 (fun k => [i (a k)]) = a := rfl
theorem col20 (a b : Nat → Int) : col 0 (fun k => [i (a k), i (b k)]) = a := rfl
theorem col21 (a b : Nat → Int) : col 1 (fun k => [i (a k), i (b k)]) = b := rfl
theorem col30 (a b c : Nat → Int) : col 0 (fun k => [i (a k), i (b k), i (c k)]) = a := rfl
theorem col31 (a b c : Nat → Int) : col 1 (fun k => [i (a k), i (b k), i (c k)]) = b := rfl
theorem col32 (a b c : Nat → Int) : col 2 (fun k => [i (a k), i (b k), i (c k)]) = c := rfl
theorem isRec3 (n : Nat) (a b c : Nat → Int) : isRec 3 n (fun k => [i (a k), i (b k), i (c k)]) := fun _ _ => rfl
theorem isRec1 (n : Nat) (a : Nat → Int) : isRec 1 n (fun k => [i (a k)]) := fun _ _ => rfl

set_option maxRecDepth 100000 in
theorem diaried_at (n m : Nat) (a b r u v : Nat → Int) (pre0 : n ≤ 100000) (pre1 : m ≤ 100000) : SoundAt Try.prog 46 [scs n a b, ens m r u v] (i (ddE n m a b r u v)) := by
  refine soundAt_fin (G := [(20, S_scaled), (75, S_rIsEntry)]) (L := [needSp [m ≤ 100000, n ≤ 8] (LS_dd n m a b r u v)]) (SoundG.cons scaled_ok (SoundG.cons rIsEntry_ok (SoundG.nil _))) mixed Try.func46 (show Try.f46.body = some (bodyOf Try.f46) by kernel_rfl) (one_loop (fun cj hcj => by
    have e : loopAt (bodyOf Try.f46) 0 = some (.loop B_dd) := by kernel_rfl
    rw [e] at hcj; cases hcj
    exact needSp_sound (fun h => dd_ls n m a b r u v h.1 h.2))) (t := (Tree.branch (decide ((↑n : Int) > (8 : Int))) (Tree.leaf (RV.x (Value.int IntKind.i64 (3 : Int)))) (Tree.branch (decide ((↑m : Int) > (12 : Int))) (Tree.leaf (RV.x (Value.int IntKind.i64 (3 : Int)))) (Tree.need [isRec 2 n fun k => [i (a k), i (b k)], n ≤ 100000] (Tree.branch (sdE n a b (0 : Int) (0 : Int) != (0 : Int)) (Tree.leaf (RV.x (Value.int IntKind.i64 (sdE n a b (0 : Int) (0 : Int))))) (Tree.need [m ≤ 100000, n ≤ 8] (Tree.need [(AV.lst 2 n fun k => [iI (a k), iI (b k)]) = AV.lst 2 n fun k => [iI (a k), iI (b k)], (AV.lst 3 m fun k => [iI (r k), iI (u k), iI (v k)]) = AV.lst 3 m fun k => [iI (r k), iI (u k), iI (v k)], sdE n a b (0 : Int) (0 : Int) = sdE n a b (0 : Int) (0 : Int), (0 : Int) = (↑(0 : Nat) : Int)] (Tree.branch (allI (fun k => enB (r k) (u k) (v k)) m) (Tree.leaf (RV.x (Value.int IntKind.i64 (0 : Int)))) (Tree.leaf (RV.x (Value.int IntKind.i64 (2 : Int)))))))))))) (by kernel_rfl) ?_
  simp only [Tree.sat, allP, fitP, fitL, valEq, inI64, true_and, and_true, decide_eq_true_eq, decide_eq_false_iff_not, Int.natCast_zero, Int.toNat_natCast, col20, col21, col30, col31, col32, ddE]
  refine ⟨fun h => ?_, fun h => ⟨fun h2 => ?_, fun h2 => ⟨⟨isRec2 n a b, pre0⟩, fun h3 => ?_, fun h3 => ?_⟩⟩⟩
  · rw [if_pos (by omega)]
  · rw [if_pos (by omega)]
  · rw [if_neg (by omega)]
    have e : ¬ 8 < n := by omega
    cases hA : allS n a b
    · simp [sdE, e, hA]
    · simp [sdE, e, hA, insB] at h3
  · rw [if_neg (by omega)]
    have e : ¬ 8 < n := by omega
    cases hA : allS n a b
    · simp [sdE, e, hA] at h3
    · refine ⟨by omega, fun h4 => ?_, fun h4 => ?_⟩
      · simp [h4]
      · simp [h4]


theorem diaried_ok : SoundSpec Try.prog 46 S_diaried := by
  refine ⟨⟨_, Try.func46, by kernel_rfl, by kernel_rfl⟩, ?_⟩
  intro avs ns res h hn
  unfold S_diaried at h
  split at h
  · rename_i n f m g
    cases h
    have hr : isRec 2 n f := hn _ (by simp)
    have hr2 : isRec 3 m g := hn _ (by simp)
    exact (diaried_at n m (col 0 f) (col 1 f) (col 0 g) (col 1 g) (col 2 g) (hn _ (by simp)) (hn _ (by simp))).same (.cons (.lst 2 n _ _ hr) (.cons (.lst 3 m _ _ hr2) .nil))
  · cases h

set_option maxRecDepth 100000 in
theorem ready_at (n : Nat) (a b : Nat → Int) (lo hi : Int) (pre0 : n ≤ 100000) : SoundAt Try.prog 37 [scs n a b, .agg [i lo, i hi]] (bl (decide (sdE n a b lo hi = 0) && (decide (-400 ≤ lo) && decide (hi ≤ 400)))) := by
  refine soundAt_fin (G := [(20, S_scaled)]) (L := []) (SoundG.cons scaled_ok (SoundG.nil _)) mixed Try.func37 (show Try.f37.body = some (bodyOf Try.f37) by kernel_rfl) noLoops (t := (Tree.need [isRec 2 n fun k => [i (a k), i (b k)], n ≤ 100000] (Tree.branch (sdE n a b lo hi == (0 : Int)) (Tree.branch (decide (lo ≥ (-400 : Int))) (Tree.leaf (RV.x (Value.bool (decide (hi ≤ (400 : Int)))))) (Tree.leaf (RV.x (Value.bool false)))) (Tree.leaf (RV.x (Value.bool false)))))) (by kernel_rfl) ?_
  simp only [Tree.sat, allP, fitP, fitL, valEq, inI64, true_and, and_true, decide_eq_true_eq, decide_eq_false_iff_not, Int.natCast_zero, Int.toNat_natCast, col20, col21, beq_iff_eq]
  refine ⟨⟨isRec2 n a b, pre0⟩, fun h => ⟨fun h2 => ?_, fun h2 => ?_⟩, fun h => ?_⟩
  · simp [h, show -400 ≤ lo by omega]
  · simp [h, show ¬ -400 ≤ lo by omega]
  · rw [beq_eq_false_iff_ne] at h
    simp [h]

set_option maxRecDepth 100000 in
theorem tabled_at (n : Nat) (p q : Nat → Int) (lo hi : Int) : SoundAt Try.prog 39 [scs n p q, .agg [i lo, i hi]] (bl (decide (n ≤ 8) && (itB n p q && insB (p 0) lo hi (p (n - 1))))) := by
  refine soundAt_fin (G := [(29, S_rIsTable), (30, S_rSpan)]) (L := []) (SoundG.cons rIsTable_ok (SoundG.cons rSpan_ok (SoundG.nil _))) mixed Try.func39 (show Try.f39.body = some (bodyOf Try.f39) by kernel_rfl) noLoops (t := (Tree.branch (decide ((↑n : Int) ≤ (8 : Int))) (Tree.need [isRec 2 n fun k => [i (p k), i (q k)], n ≤ 100000] (Tree.branch (itB n p q) (Tree.need [(0 : Int) ≤ (0 : Int) ∧ (0 : Int) < (↑n : Int)] (Tree.need [inI64 ((↑n : Int) - (1 : Int))] (Tree.need [(0 : Int) ≤ (↑n : Int) - (1 : Int) ∧ (↑n : Int) - (1 : Int) < (↑n : Int)] (Tree.leaf (RV.x (Value.bool (insB (p (Int.toNat (0 : Int))) lo hi (p (Int.toNat ((↑n : Int) - (1 : Int))))))))))) (Tree.leaf (RV.x (Value.bool false))))) (Tree.leaf (RV.x (Value.bool false))))) (by kernel_rfl) ?_
  simp only [Tree.sat, allP, fitP, fitL, valEq, inI64, true_and, and_true, decide_eq_true_eq, decide_eq_false_iff_not, Int.natCast_zero, Int.toNat_natCast, col20, col21]
  refine ⟨fun h => ⟨⟨isRec2 n p q, by omega⟩, fun h2 => ?_, fun h2 => ?_⟩, fun h => ?_⟩
  · have h3 : 2 ≤ n := by
      unfold itB at h2
      simp at h2
      omega
    refine ⟨by omega, by omega, by omega, ?_⟩
    rw [show ((n : Int) - 1).toNat = n - 1 by omega]
    simp [h2, show n ≤ 8 by omega]
  · simp [h2]
  · simp [show ¬ n ≤ 8 by omega]

def S_Nearest : Sx.Spec := fun l => match l with
  | [.agg [.x (.int .i64 a), .x (.int .i64 b)], .x (.int .i64 x), .x (.int .i64 o)] => some ([-1000 ≤ a ∧ a ≤ 1000 ∧ -1000 ≤ b ∧ b ≤ 1000, -500000 ≤ x ∧ x ≤ 500000 ∧ 1 ≤ o ∧ o ≤ 5000], i (a + (2 * x * (b - a) + o) / (2 * o)))
  | _ => none

set_option maxRecDepth 100000 in
theorem Nearest_at (a b x o : Int) (pre0 : -1000 ≤ a ∧ a ≤ 1000 ∧ -1000 ≤ b ∧ b ≤ 1000) (pre1 : -500000 ≤ x ∧ x ≤ 500000 ∧ 1 ≤ o ∧ o ≤ 5000) : SoundAt Try.prog 34 [.agg [i a, i b], i x, i o] (i (a + (2 * x * (b - a) + o) / (2 * o))) := by
  refine soundAt_fin (G := [(57, S_rFloor)]) (L := []) (SoundG.cons rFloor_ok (SoundG.nil _)) mixed Try.func34 (show Try.f34.body = some (bodyOf Try.f34) by kernel_rfl) noLoops (t := (Tree.need [inI64 ((2 : Int) * x)] (Tree.need [inI64 (b - a)] (Tree.need [inI64 ((2 : Int) * x * (b - a))] (Tree.need [inI64 ((2 : Int) * x * (b - a) + o)] (Tree.need [inI64 ((2 : Int) * o)] (Tree.need [(-4611686018427387904 : Int) ≤ (2 : Int) * x * (b - a) + o ∧ (2 : Int) * x * (b - a) + o ≤ (4611686018427387904 : Int), (1 : Int) ≤ (2 : Int) * o ∧ (2 : Int) * o ≤ (4000000000000 : Int)] (Tree.need [inI64 (a + ((2 : Int) * x * (b - a) + o) / ((2 : Int) * o))] (Tree.leaf (RV.x (Value.int IntKind.i64 (a + ((2 : Int) * x * (b - a) + o) / ((2 : Int) * o))))))))))))) (by kernel_rfl) ?_
  have m := mul_bd (x := 2 * x) (y := b - a) (X := 1000000) (Y := 2000) (by omega) (by omega)
  have dv := div_bd (n := 2 * x * (b - a) + o) (d := 2 * o) (N := 3000000000) (by omega) (by omega)
  simp only [Tree.sat, allP, fitP, fitL, valEq, inI64, true_and, and_true, decide_eq_true_eq, decide_eq_false_iff_not, Int.natCast_zero, Int.toNat_natCast]
  repeat' first | with_reducible apply And.intro | with_reducible intro _
  all_goals first | exact True.intro | omega | with_reducible rfl | assumption
theorem Nearest_ok : SoundSpec Try.prog 34 S_Nearest := by
  refine ⟨⟨_, Try.func34, by kernel_rfl, by kernel_rfl⟩, ?_⟩
  intro avs ns res h hn
  unfold S_Nearest at h
  split at h
  · cases h
    exact Nearest_at _ _ _ _ (hn _ (by simp)) (hn _ (by simp))
  · cases h


def S_ready : Sx.Spec := fun l => match l with
  | [.lst 2 n f, .agg [.x (.int .i64 lo), .x (.int .i64 hi)]] => some ([isRec 2 n f, n ≤ 100000], bl (decide (sdE n (col 0 f) (col 1 f) lo hi = 0) && (decide (-400 ≤ lo) && decide (hi ≤ 400))))
  | _ => none
def S_tabled : Sx.Spec := fun l => match l with
  | [.lst 2 n f, .agg [.x (.int .i64 lo), .x (.int .i64 hi)]] => some ([isRec 2 n f], bl (decide (n ≤ 8) && (itB n (col 0 f) (col 1 f) && insB (col 0 f 0) lo hi (col 0 f (n - 1)))))
  | _ => none


theorem ready_ok : SoundSpec Try.prog 37 S_ready := by
  refine ⟨⟨_, Try.func37, by kernel_rfl, by kernel_rfl⟩, ?_⟩
  intro avs ns res h hn
  unfold S_ready at h
  split at h
  · rename_i n f lo hi
    cases h
    have hr : isRec 2 n f := hn _ (by simp)
    exact (ready_at n (col 0 f) (col 1 f) lo hi (hn _ (by simp))).same (.cons (.lst 2 n _ _ hr) (.cons (.refl _) .nil))
  · cases h


theorem tabled_ok : SoundSpec Try.prog 39 S_tabled := by
  refine ⟨⟨_, Try.func39, by kernel_rfl, by kernel_rfl⟩, ?_⟩
  intro avs ns res h hn
  unfold S_tabled at h
  split at h
  · rename_i n f lo hi
    cases h
    have hr : isRec 2 n f := hn _ (by simp)
    exact (tabled_at n (col 0 f) (col 1 f) lo hi).same (.cons (.lst 2 n _ _ hr) (.cons (.refl _) .nil))
  · cases h


/-- The numbers below n at which p is not so. -/
def wrL (p : Nat → Bool) : Nat → List Int
  | 0 => []
  | k + 1 => if p k then wrL p k else wrL p k ++ [(k : Int)]
theorem wrL_len (p : Nat → Bool) : ∀ n, (wrL p n).length ≤ n
  | 0 => by simp [wrL]
  | n + 1 => by
    have := wrL_len p n
    unfold wrL
    split
    · omega
    · simp; omega
def nthI (l : List Int) (j : Nat) : Int := l.getD j 0
abbrev inl (l : List Int) : AV := .lst 1 l.length (fun j => [i (nthI l j)])
theorem catFl {l : List Int} {j : Nat} {x : Int} (h : j < l.length + 1) : catF l.length (fun j => [i (nthI l j)]) (chunk 1 [i x]) j = [i (nthI (l ++ [x]) j)] := by
  have e : j - l.length = 0 := by omega
  show mergeL (decide (j < l.length)) [i (nthI l j)] (chunk 1 [i x] (j - l.length)) = _
  rw [e]
  by_cases hj : j < l.length
  · rw [show decide (j < l.length) = true by simp [hj]]
    have e2 : nthI (l ++ [x]) j = nthI l j := by simp [nthI, List.getD, List.getElem?_append, hj]
    rw [e2]
    rfl
  · have hk : j = l.length := by omega
    rw [show decide (j < l.length) = false by simp [hj]]
    have e2 : nthI (l ++ [x]) j = x := by simp [nthI, List.getD, hk]
    rw [e2]
    rfl

noncomputable def E_rw (a b : Int) (n : Nat) (r u v : Nat → Int) : St := (some
  {
    σ :=
      [AV.agg [AV.x (Value.int IntKind.i64 a), AV.x (Value.int IntKind.i64 b)],
        AV.lst (3 : Nat) n fun k =>
          [AV.x (Value.int IntKind.i64 (r k)), AV.x (Value.int IntKind.i64 (u k)), AV.x (Value.int IntKind.i64 (v k))],
        AV.ptr (0 : Nat) (0 : Nat), AV.top, AV.x (Value.slice none (0 : Nat) (0 : Nat)), AV.top, AV.top, AV.top, AV.top,
        AV.top, AV.top, AV.top, AV.top, AV.top, AV.top, AV.top, AV.top, AV.top, AV.top, AV.top, AV.top, AV.top, AV.top,
        AV.top, AV.top],
    m :=
      [((900 : Nat), Res.row (3 : Nat) (1 : Nat) (0 : Nat) fun x => []),
        ((0 : Nat), Res.cells (40 : Nat) [AV.x (Value.int IntKind.i64 a), AV.x (Value.int IntKind.i64 b)])],
    nx := (901 : Nat) } : Option St).getD { σ := [], m := [], nx := 0 }
noncomputable def B_rw : Code := loopBody (loopAt (bodyOf Try.f47) 0)
noncomputable def inv_rw (a b : Int) (n : Nat) (r u v : Nat → Int) (k : Nat) : St := { σ := ovrS [(5, .row 900), (6, i k)] (E_rw a b n r u v).σ, m := [(900, .row 3 1 (wrL (fun k => exB a b (r k) (u k) (v k)) k).length (fun j => [i (nthI (wrL (fun k => exB a b (r k) (u k) (v k)) k) j)])), (0, .cells 40 [i a, i b])], nx := (E_rw a b n r u v).nx }
noncomputable def out_rw (a b : Int) (n : Nat) (r u v : Nat → Int) (k : Nat) : AEx → Option St := fun ex => match ex with
  | .exit 0 => some { σ := ovrS [(5, .row 900)] (E_rw a b n r u v).σ, m := [(900, .row 3 1 (wrL (fun k => exB a b (r k) (u k) (v k)) n).length (fun j => [i (nthI (wrL (fun k => exB a b (r k) (u k) (v k)) n) j)])), (0, .cells 40 [i a, i b])], nx := (E_rw a b n r u v).nx }
  | _ => none
noncomputable def T_rw (a b : Int) (n : Nat) (r u v : Nat → Int) : CT := .leaf (.exit 0, ( out_rw a b n r u v 0 (.exit 0)).getD (E_rw a b n r u v))
noncomputable def LS_rw (a b : Int) (n : Nat) (r u v : Nat → Int) : LSpec := normSp [(.slot 5, 900, 3, 1)] (sumL (inv_rw a b n r u v (0)) (T_rw a b n r u v))
set_option maxRecDepth 100000 in
theorem rw_ls (a b : Int) (n : Nat) (r u v : Nat → Int) (pre0 : n ≤ 100000) (pre1 : -1000 ≤ a ∧ a ≤ 1000 ∧ -1000 ≤ b ∧ b ≤ 1000 ∧ a ≠ b) (pre2 : allI (fun k => enB (r k) (u k) (v k)) n = true) : LSound Try.prog (.loop B_rw) (LS_rw a b n r u v) := by
  refine loop_roundsN [(.slot 5, 900, 3, 1)] (G := [(76, S_rExplains)]) (L := []) (SoundG.cons rExplains_ok (SoundG.nil _)) mixed noLoops (X := Nat) (inv_rw a b n r u v) (fun k => k ≤ n) (fun k => n - k) (out_rw a b n r u v) (x0 := 0) (by simp) ?_ ?_ ?_
  · rintro k
    kernel_rfl
  · rintro k y E h
    unfold out_rw at h
    split at h
    · cases h; kernel_rfl
    · cases h
  · rintro Q hQ k hx
    refine ⟨(k + 1), ?_⟩
    have e : roundN Try.prog [(76, S_rExplains)] [] [(.slot 5, 900, 3, 1)] B_rw (inv_rw a b n r u v k) (inv_rw a b n r u v ((k + 1))) (out_rw a b n r u v k) = (Tree.branch (decide ((↑k : Int) < (↑n : Int))) (Tree.need [(0 : Int) ≤ (↑k : Int) ∧ (↑k : Int) < (↑n : Int)] (Tree.need [(-1000 : Int) ≤ a ∧ a ≤ (1000 : Int) ∧ (-1000 : Int) ≤ b ∧ b ≤ (1000 : Int) ∧ a ≠ b, (-1000000 : Int) ≤ r k ∧ r k ≤ (1000000 : Int) ∧ (-100000 : Int) ≤ u k ∧ u k ≤ v k ∧ v k ≤ (100000 : Int)] (Tree.branch (!exB a b (r k) (u k) (v k)) (Tree.need [(List.length (wrL (fun k => exB a b (r k) (u k) (v k)) k) + 1) * 8 ≤ 140737488355328, ∀ (i : Nat), i < 1 → ∀ (a : AV), a ∈ chunk 1 [iI (↑k : Int)] i → AV.one a = true] (Tree.need [inI64 ((↑k : Int) + (1 : Int))] (Tree.need [AV.agg [iI a, iI b] = AV.agg [iI a, iI b], (AV.lst 3 n fun k => [iI (r k), iI (u k), iI (v k)]) = AV.lst 3 n fun k => [iI (r k), iI (u k), iI (v k)], AV.ptr 0 0 = AV.ptr 0 0, AV.x (Value.slice none 0 0) = AV.x (Value.slice none 0 0), AV.row 900 = AV.row 900, (↑k : Int) + (1 : Int) = (↑(k + 1) : Int), List.length (wrL (fun k => exB a b (r k) (u k) (v k)) k) + 1 = List.length (wrL (fun k => exB a b (r k) (u k) (v k)) (k + 1)), ∀ (i : Nat), i < List.length (wrL (fun k => exB a b (r k) (u k) (v k)) (k + 1)) → catF (List.length (wrL (fun k => exB a b (r k) (u k) (v k)) k)) (fun j => [Ytchcegfhamngkaa.i (nthI (wrL (fun k => exB a b (r k) (u k) (v k)) k) j)]) (chunk 1 [iI (↑k : Int)]) i = [Ytchcegfhamngkaa.i (nthI (wrL (fun k => exB a b (r k) (u k) (v k)) (k + 1)) i)], a = a, b = b] (Tree.leaf AEx.normal)))) (Tree.need [inI64 ((↑k : Int) + (1 : Int))] (Tree.need [AV.agg [iI a, iI b] = AV.agg [iI a, iI b], (AV.lst 3 n fun k => [iI (r k), iI (u k), iI (v k)]) = AV.lst 3 n fun k => [iI (r k), iI (u k), iI (v k)], AV.ptr 0 0 = AV.ptr 0 0, AV.x (Value.slice none 0 0) = AV.x (Value.slice none 0 0), AV.row 900 = AV.row 900, (↑k : Int) + (1 : Int) = (↑(k + 1) : Int), List.length (wrL (fun k => exB a b (r k) (u k) (v k)) k) = List.length (wrL (fun k => exB a b (r k) (u k) (v k)) (k + 1)), ∀ (i : Nat), i < List.length (wrL (fun k => exB a b (r k) (u k) (v k)) (k + 1)) → [Ytchcegfhamngkaa.i (nthI (wrL (fun k => exB a b (r k) (u k) (v k)) k) i)] = [Ytchcegfhamngkaa.i (nthI (wrL (fun k => exB a b (r k) (u k) (v k)) (k + 1)) i)], a = a, b = b] (Tree.leaf AEx.normal)))))) (Tree.need [AV.agg [iI a, iI b] = AV.agg [iI a, iI b], (AV.lst 3 n fun k => [iI (r k), iI (u k), iI (v k)]) = AV.lst 3 n fun k => [iI (r k), iI (u k), iI (v k)], AV.ptr 0 0 = AV.ptr 0 0, AV.x (Value.slice none 0 0) = AV.x (Value.slice none 0 0), AV.row 900 = AV.row 900, List.length (wrL (fun k => exB a b (r k) (u k) (v k)) k) = List.length (wrL (fun k => exB a b (r k) (u k) (v k)) n), ∀ (i : Nat), i < List.length (wrL (fun k => exB a b (r k) (u k) (v k)) n) → [Ytchcegfhamngkaa.i (nthI (wrL (fun k => exB a b (r k) (u k) (v k)) k) i)] = [Ytchcegfhamngkaa.i (nthI (wrL (fun k => exB a b (r k) (u k) (v k)) n) i)], a = a, b = b] (Tree.leaf (AEx.exit 0)))) := by kernel_rfl
    rw [e]
    simp only [T_rw, out_rw, Tree.sat, Option.getD_some] at hQ
    have hE : ∀ j, j < n → enB (r j) (u j) (v j) = true := allI_iff.1 pre2
    have hl := wrL_len (fun k => exB a b (r k) (u k) (v k)) k
    simp only [Tree.sat, allP, fitP, fitL, valEq, inI64, true_and, and_true, decide_eq_true_eq, decide_eq_false_iff_not, Int.natCast_zero, Int.toNat_natCast, out_rw]
    clear e
    refine ⟨fun h => ?_, fun h => ?_⟩
    · have hen := enB_bd (hE k (by omega))
      refine ⟨by omega, by omega, fun h2 => ?_, fun h2 => ?_⟩
      · have h2' : exB a b (r k) (u k) (v k) = false := by simpa using h2
        have e3 : wrL (fun k => exB a b (r k) (u k) (v k)) (k + 1) = wrL (fun k => exB a b (r k) (u k) (v k)) k ++ [(k : Int)] := by simp [wrL, h2']
        rw [e3]
        simp only [List.length_append, List.length_cons, List.length_nil]
        repeat' first | with_reducible apply And.intro | with_reducible intro _
        all_goals first | exact True.intro | omega | with_reducible rfl | exact catFl (by omega) | (rename_i hm; exact one_of hm (by simp [AV.one, Value.oneCell']))
      · have h2' : exB a b (r k) (u k) (v k) = true := by simpa using h2
        have e3 : wrL (fun k => exB a b (r k) (u k) (v k)) (k + 1) = wrL (fun k => exB a b (r k) (u k) (v k)) k := by simp [wrL, h2']
        rw [e3]
        repeat' first | with_reducible apply And.intro | with_reducible intro _
        all_goals first | exact True.intro | omega | with_reducible rfl
    · have hk : k = n := by omega
      subst hk
      refine ⟨⟨rfl, fun j hj => rfl⟩, fun E hE => ?_⟩
      cases hE
      exact hQ

set_option maxRecDepth 100000 in
theorem rWrong_at (a b : Int) (n : Nat) (r u v : Nat → Int) (pre0 : n ≤ 100000) (pre1 : -1000 ≤ a ∧ a ≤ 1000 ∧ -1000 ≤ b ∧ b ≤ 1000 ∧ a ≠ b) (pre2 : allI (fun k => enB (r k) (u k) (v k)) n = true) : SoundAt Try.prog 47 [.agg [i a, i b], ens n r u v] (inl (wrL (fun k => exB a b (r k) (u k) (v k)) n)) := by
  refine soundAt_fin (G := [(76, S_rExplains)]) (L := [LS_rw a b n r u v]) (SoundG.cons rExplains_ok (SoundG.nil _)) mixed Try.func47 (show Try.f47.body = some (bodyOf Try.f47) by kernel_rfl) (one_loop (fun cj hcj => by
    have e : loopAt (bodyOf Try.f47) 0 = some (.loop B_rw) := by kernel_rfl
    rw [e] at hcj; cases hcj
    exact rw_ls a b n r u v pre0 pre1 pre2)) (t := (Tree.need [AV.agg [iI a, iI b] = AV.agg [iI a, iI b], (AV.lst 3 n fun k => [iI (r k), iI (u k), iI (v k)]) = AV.lst 3 n fun k => [iI (r k), iI (u k), iI (v k)], AV.ptr 0 0 = AV.ptr 0 0, AV.x (Value.slice none 0 0) = AV.x (Value.slice none 0 0), AV.row 900 = AV.row 900, (0 : Int) = (↑(0 : Nat) : Int), 0 = List.length (wrL (fun k => exB a b (r k) (u k) (v k)) 0), ∀ (i : Nat), i < List.length (wrL (fun k => exB a b (r k) (u k) (v k)) 0) → [] = [Ytchcegfhamngkaa.i (nthI (wrL (fun k => exB a b (r k) (u k) (v k)) 0) i)], a = a, b = b] (Tree.leaf (RV.lst 1 (List.length (wrL (fun k => exB a b (r k) (u k) (v k)) n)) fun j => [iI (nthI (wrL (fun k => exB a b (r k) (u k) (v k)) n) j)])))) (by kernel_rfl) ?_
  simp only [Tree.sat, allP, fitP, fitL, valEq, inI64, true_and, and_true, decide_eq_true_eq, decide_eq_false_iff_not, Int.natCast_zero, Int.toNat_natCast, List.mem_cons, List.not_mem_nil, or_false, isX, wrL, List.length_nil, Nat.not_lt_zero]
  repeat' first | with_reducible apply And.intro | with_reducible intro _
  all_goals first | exact True.intro | omega | with_reducible rfl | (rename_i hm; rcases hm with rfl | rfl <;> exact True.intro) | (rename_i hm; rcases hm with rfl | rfl | rfl <;> exact True.intro) | (rename_i hm; subst hm; exact True.intro)

end Go.Proofs.Ytchcegfhamngkaa
/- Contracts of functions of the program, by the engine Sx: what each call comes to. Printed by a program of this repo (sxgen.py). -/
set_option linter.unusedSimpArgs false
set_option linter.unusedVariables false
namespace Go.Proofs.Ytchcegfhamngkaa
open Go Go.Sx Go.RowKit

theorem seg_spec {n : Nat} {p q : Nat → Int} {x : Int} (hn : 2 ≤ n) (ht : tabB n p q = true) (hx : p 0 ≤ x ∧ x ≤ p (n - 1)) : segI n p x < n - 1 ∧ p (segI n p x) ≤ x ∧ x ≤ p (segI n p x + 1) := by
  have h1 := seg_lt hn hx.2
  obtain ⟨f1, f2, f3⟩ := fstI_spec (fun k => decide (x ≤ p (k + 1))) (n - 1)
  have h3 := f3 h1
  refine ⟨h1, ?_, of_decide_eq_true h3⟩
  rcases Nat.eq_zero_or_pos (segI n p x) with h | h
  · rw [h]; exact hx.1
  · have := f2 (segI n p x - 1) (by unfold segI at h ⊢; omega)
    rw [show segI n p x - 1 + 1 = segI n p x by omega] at this
    simp at this
    omega
theorem boilAt_bd {p q : Nat → Int} {x : Int} {k : Nat} (hp : p k < p (k + 1)) (hq : q k < q (k + 1)) (h1 : p k ≤ x) (h2 : x ≤ p (k + 1)) : boilAt p q x k = q k + (q (k + 1) - q k) * (x - p k) / (p (k + 1) - p k) ∧ q k ≤ boilAt p q x k ∧ boilAt p q x k ≤ q (k + 1) := by
  have m0 : 0 ≤ (q (k + 1) - q k) * (x - p k) := Int.mul_nonneg (by omega) (by omega)
  have e : boilAt p q x k = q k + (q (k + 1) - q k) * (x - p k) / (p (k + 1) - p k) := by
    unfold boilAt
    rw [Int.tdiv_eq_ediv_of_nonneg m0]
  have m1 : (q (k + 1) - q k) * (x - p k) ≤ (q (k + 1) - q k) * (p (k + 1) - p k) := Int.mul_le_mul_of_nonneg_left (by omega) (by omega)
  have d0 : 0 ≤ (q (k + 1) - q k) * (x - p k) / (p (k + 1) - p k) := Int.ediv_nonneg m0 (by omega)
  have d1 : (q (k + 1) - q k) * (x - p k) / (p (k + 1) - p k) ≤ q (k + 1) - q k := Int.ediv_le_of_le_mul (by omega) m1
  rw [e]
  omega
theorem seg_mono {n : Nat} {p : Nat → Int} {x y : Int} (h : x ≤ y) : segI n p x ≤ segI n p y := by
  obtain ⟨f1, f2, f3⟩ := fstI_spec (fun k => decide (x ≤ p (k + 1))) (n - 1)
  obtain ⟨g1, g2, g3⟩ := fstI_spec (fun k => decide (y ≤ p (k + 1))) (n - 1)
  unfold segI
  rcases Nat.lt_or_ge (fstI (fun k => decide (y ≤ p (k + 1))) (n - 1)) (fstI (fun k => decide (x ≤ p (k + 1))) (n - 1)) with hl | hl
  · have a1 := f2 _ hl
    have a2 := g3 (by omega)
    simp at a1 a2
    omega
  · exact hl
theorem boil_spec {n : Nat} {p q : Nat → Int} {x : Int} (hn : 2 ≤ n) (ht : tabB n p q = true) (hx : p 0 ≤ x ∧ x ≤ p (n - 1)) : q 0 ≤ boilI n p q x ∧ boilI n p q x ≤ q (n - 1) ∧ 1 ≤ boilI n p q x ∧ boilI n p q x ≤ 2000 := by
  obtain ⟨h1, h2, h3⟩ := seg_spec hn ht hx
  have s := tab_step ht (show segI n p x + 1 < n by omega)
  simp only [Nat.add_sub_cancel] at s
  have b := boilAt_bd (p := p) (q := q) (x := x) (k := segI n p x) (by omega) (by omega) h2 h3
  have m1 := tab_mono ht (show 0 ≤ segI n p x by omega) (show segI n p x < n by omega)
  have m2 := tab_mono ht (show segI n p x + 1 ≤ n - 1 by omega) (show n - 1 < n by omega)
  have z := tab_step ht (show 0 < n by omega)
  have z2 := tab_step ht (show n - 1 < n by omega)
  unfold boilI
  omega
theorem boil_mono {n : Nat} {p q : Nat → Int} {x y : Int} (hn : 2 ≤ n) (ht : tabB n p q = true) (hx : p 0 ≤ x) (hxy : x ≤ y) (hy : y ≤ p (n - 1)) : boilI n p q x ≤ boilI n p q y := by
  obtain ⟨h1, h2, h3⟩ := seg_spec hn ht (x := x) (by omega)
  obtain ⟨g1, g2, g3⟩ := seg_spec hn ht (x := y) (by omega)
  have s := tab_step ht (show segI n p x + 1 < n by omega)
  have s' := tab_step ht (show segI n p y + 1 < n by omega)
  simp only [Nat.add_sub_cancel] at s s'
  have b := boilAt_bd (p := p) (q := q) (x := x) (k := segI n p x) (by omega) (by omega) h2 h3
  have b' := boilAt_bd (p := p) (q := q) (x := y) (k := segI n p y) (by omega) (by omega) g2 g3
  have hm := seg_mono (n := n) (p := p) hxy
  unfold boilI
  rcases Nat.lt_or_ge (segI n p x) (segI n p y) with hl | hl
  · have m := tab_mono ht (show segI n p x + 1 ≤ segI n p y by omega) (show segI n p y < n by omega)
    omega
  · have e : segI n p x = segI n p y := by omega
    rw [b.1, b'.1, e]
    rw [e] at s
    have := Int.ediv_le_ediv (show 0 < p (segI n p y + 1) - p (segI n p y) by omega) (Int.mul_le_mul_of_nonneg_left (show x - p (segI n p y) ≤ y - p (segI n p y) by omega) (show 0 ≤ q (segI n p y + 1) - q (segI n p y) by omega))
    omega


theorem min_mul {A A' u v u' v' : Int} (a1 : A' ≤ A) (hu : 0 ≤ u' ∧ u' ≤ u ∧ u ≤ v ∧ v ≤ v') : min (A' * u') (A' * v') ≤ min (A * u) (A * v) := by
  have b1 : min (A' * u') (A' * v') ≤ A * u := by
    rcases Int.le_total 0 A' with h0 | h0
    · have := Int.mul_le_mul_of_nonneg_left hu.2.1 h0
      have := Int.mul_le_mul_of_nonneg_right a1 (show 0 ≤ u by omega)
      omega
    · have := Int.mul_le_mul_of_nonpos_left h0 (show u ≤ v' by omega)
      have := Int.mul_le_mul_of_nonneg_right a1 (show 0 ≤ u by omega)
      omega
  have b2 : min (A' * u') (A' * v') ≤ A * v := by
    rcases Int.le_total 0 A' with h0 | h0
    · have := Int.mul_le_mul_of_nonneg_left (show u' ≤ v by omega) h0
      have := Int.mul_le_mul_of_nonneg_right a1 (show 0 ≤ v by omega)
      omega
    · have := Int.mul_le_mul_of_nonpos_left h0 hu.2.2.2
      have := Int.mul_le_mul_of_nonneg_right a1 (show 0 ≤ v by omega)
      omega
  omega
theorem cr_mono {a b u v lo hi u' v' lo' hi' : Int} (h : a ≠ b) (hu : 0 ≤ u' ∧ u' ≤ u ∧ u ≤ v ∧ v ≤ v') (hr : lo' ≤ lo ∧ lo ≤ hi ∧ hi ≤ hi') : crLo a b u' v' lo' hi' ≤ crLo a b u v lo hi ∧ crHi a b u v lo hi ≤ crHi a b u' v' lo' hi' := by
  have s1 := sizeI_pos h
  have a1 : alLo a b lo' hi' ≤ alLo a b lo hi := by unfold alLo; split <;> omega
  have a2 : alHi a b lo hi ≤ alHi a b lo' hi' := by unfold alHi; split <;> omega
  have m1 := min_mul a1 hu
  have m2 := min_mul (show -alHi a b lo' hi' ≤ -alHi a b lo hi by omega) hu
  simp only [Int.neg_mul] at m2
  constructor
  · exact Int.ediv_le_ediv (by omega) m1
  · unfold crHi ceI
    have := Int.ediv_le_ediv (show 0 < sizeI a b by omega) (show -(max (alHi a b lo' hi' * u') (alHi a b lo' hi' * v')) ≤ -(max (alHi a b lo hi * u) (alHi a b lo hi * v)) by omega)
    omega
theorem cr_even {a b lo hi : Int} : crLo a b 1000 1000 lo hi = hgLo a b lo hi ∧ crHi a b 1000 1000 lo hi = hgHi a b lo hi := by
  unfold crLo crHi hgLo hgHi
  rw [Int.min_self, Int.max_self, Int.mul_comm _ 1000, Int.mul_comm _ 1000]
  exact ⟨rfl, rfl⟩

end Go.Proofs.Ytchcegfhamngkaa
