/- Contracts of functions of the program, by the engine Sx: what each call comes to. Printed by a program of this repo (sxgen.py). -/
import Derived.Test.YtchcegfhamngkaaPtA
set_option linter.unusedSimpArgs false
set_option linter.unusedVariables false
namespace Go.Proofs.Ytchcegfhamngkaa
open Go Go.Sx Go.RowKit

def ceI (n d : Int) : Int := -((-n) / d)

/-- What Go's quotient has to do with the rounded ones. -/
theorem div_facts (a b : Int) (hb : 0 < b) : ∃ m, a.tmod b = m ∧ a.tdiv b * b = a - m ∧ (0 ≤ a → 0 ≤ m ∧ m < b) ∧ (a ≤ 0 → -b < m ∧ m ≤ 0) ∧
    (0 ≤ m → a / b = a.tdiv b) ∧ (m < 0 → a / b = a.tdiv b - 1) ∧ (m ≤ 0 → ceI a b = a.tdiv b) ∧ (0 < m → ceI a b = a.tdiv b + 1) ∧ (0 ≤ a → 0 ≤ a.tdiv b ∧ a.tdiv b ≤ a) ∧ (a ≤ 0 → a ≤ a.tdiv b ∧ a.tdiv b ≤ 0) := by
  have h1 := Int.mul_tdiv_add_tmod a b
  have key : ∀ t m : Int, b * t + m = a → 0 ≤ m → m < b → a / b = t := by
    intro t m h h0 hlt
    rw [← h, Int.mul_add_ediv_left _ _ (by omega), Int.ediv_eq_zero_of_lt h0 hlt]; omega
  have keyN : ∀ t m : Int, b * t + m = -a → 0 ≤ m → m < b → (-a) / b = t := by
    intro t m h h0 hlt
    rw [← h, Int.mul_add_ediv_left _ _ (by omega), Int.ediv_eq_zero_of_lt h0 hlt]; omega
  have hpos : 0 ≤ a → 0 ≤ a.tmod b ∧ a.tmod b < b := by
    intro ha
    rw [Int.tmod_eq_emod_of_nonneg ha]
    exact ⟨Int.emod_nonneg _ (by omega), Int.emod_lt_of_pos _ hb⟩
  have hneg : a ≤ 0 → -b < a.tmod b ∧ a.tmod b ≤ 0 := by
    intro ha
    have e : a.tmod b = -((-a).tmod b) := by rw [Int.neg_tmod]; omega
    rw [e, Int.tmod_eq_emod_of_nonneg (by omega)]
    have g1 := Int.emod_nonneg (-a) (show b ≠ 0 by omega)
    have g2 := Int.emod_lt_of_pos (-a) hb
    omega
  generalize a.tmod b = m at *
  generalize a.tdiv b = t at *
  have hbt : t * b = b * t := Int.mul_comm _ _
  have hbt1 : b * (t - 1) = b * t - b := by rw [Int.mul_sub, Int.mul_one]
  have hbt2 : b * (t + 1) = b * t + b := by rw [Int.mul_add, Int.mul_one]
  have hnt : b * (-t) = -(b * t) := by rw [Int.mul_neg]
  have hnt1 : b * (-t - 1) = -(b * t) - b := by rw [Int.mul_sub, Int.mul_neg, Int.mul_one]
  refine ⟨m, rfl, by omega, hpos, hneg, ?_, ?_, ?_, ?_, ?_, ?_⟩
  · intro hm
    by_cases ha : 0 ≤ a
    · exact key t m h1 hm (hpos ha).2
    · have := hneg (by omega); exact key t m h1 hm (by omega)
  · intro hm
    have : ¬ 0 ≤ a := fun ha => by have := hpos ha; omega
    have := hneg (by omega)
    exact key (t - 1) (b + m) (by omega) (by omega) (by omega)
  · intro hm
    have : (-a) / b = -t := by
      refine keyN (-t) (-m) (by omega) (by omega) ?_
      by_cases ha : 0 ≤ a
      · have := hpos ha; omega
      · have := hneg (by omega); omega
    unfold ceI; omega
  · intro hm
    have ha : 0 ≤ a := by
      by_cases ha : 0 ≤ a
      · exact ha
      · have := hneg (by omega); omega
    have := hpos ha
    have : (-a) / b = -t - 1 := keyN (-t - 1) (b - m) (by omega) (by omega) (by omega)
    unfold ceI; omega
  · intro ha
    have hm := hpos ha
    have h2 := key t m h1 hm.1 hm.2
    have g1 := Int.ediv_nonneg ha (show 0 ≤ b by omega)
    have g2 := Int.ediv_le_self b ha
    omega
  · intro ha
    have hm := hneg ha
    have h2 : (-a) / b = -t := keyN (-t) (-m) (by omega) (by omega) (by omega)
    have g1 := Int.ediv_nonneg (show 0 ≤ -a by omega) (show 0 ≤ b by omega)
    have g2 := Int.ediv_le_self b (show 0 ≤ -a by omega)
    omega

def S_qdown : Sx.Spec := fun l => match l with
  | [.agg [.x (.int .i64 a), .x (.int .i64 b)]] => some ([-4611686018427387904 ≤ a ∧ a ≤ 4611686018427387904, 1 ≤ b], i (a / b))
  | _ => none

set_option maxRecDepth 100000 in
theorem qdown_at (a b : Int) (pre0 : -4611686018427387904 ≤ a ∧ a ≤ 4611686018427387904) (pre1 : 1 ≤ b) : SoundAt Try.prog 83 [.agg [i a, i b]] (i (a / b)) := by
  refine soundAt_fin (G := []) (L := []) (SoundG.nil _) mixed Try.func83 (show Try.f83.body = some (bodyOf Try.f83) by kernel_rfl) noLoops (t := (Tree.branch (decide (a < (0 : Int))) (Tree.need [b ≠ (0 : Int)] (Tree.branch (Int.tmod a b != (0 : Int)) (Tree.need [b ≠ (0 : Int), inI64 (Int.tdiv a b)] (Tree.need [inI64 (Int.tdiv a b - (1 : Int))] (Tree.leaf (RV.x (Value.int IntKind.i64 (Int.tdiv a b - (1 : Int))))))) (Tree.need [b ≠ (0 : Int), inI64 (Int.tdiv a b)] (Tree.leaf (RV.x (Value.int IntKind.i64 (Int.tdiv a b))))))) (Tree.need [b ≠ (0 : Int), inI64 (Int.tdiv a b)] (Tree.leaf (RV.x (Value.int IntKind.i64 (Int.tdiv a b))))))) (by kernel_rfl) ?_
  obtain ⟨m, hm, h1, h2, h3, h4, h5, h6, h7, h8, h9⟩ := div_facts a b (by omega)
  simp only [Tree.sat, allP, fitP, fitL, valEq, inI64, true_and, and_true, decide_eq_true_eq, decide_eq_false_iff_not, hm, bne_iff_ne, ne_eq, bne_eq_false_iff_eq]
  omega
theorem qdown_ok : SoundSpec Try.prog 83 S_qdown := by
  refine ⟨⟨_, Try.func83, by kernel_rfl, by kernel_rfl⟩, ?_⟩
  intro avs ns res h hn
  unfold S_qdown at h
  split at h
  · cases h
    exact qdown_at _ _ (hn _ (by simp)) (hn _ (by simp))
  · cases h

def S_qup : Sx.Spec := fun l => match l with
  | [.agg [.x (.int .i64 a), .x (.int .i64 b)]] => some ([-4611686018427387904 ≤ a ∧ a ≤ 4611686018427387904, 1 ≤ b], i (ceI a b))
  | _ => none

set_option maxRecDepth 100000 in
theorem qup_at (a b : Int) (pre0 : -4611686018427387904 ≤ a ∧ a ≤ 4611686018427387904) (pre1 : 1 ≤ b) : SoundAt Try.prog 84 [.agg [i a, i b]] (i (ceI a b)) := by
  refine soundAt_fin (G := [(83, S_qdown)]) (L := []) (SoundG.cons qdown_ok (SoundG.nil _)) mixed Try.func84 (show Try.f84.body = some (bodyOf Try.f84) by kernel_rfl) noLoops (t := (Tree.need [inI64 (-a)] (Tree.need [(-4611686018427387904 : Int) ≤ -a ∧ -a ≤ (4611686018427387904 : Int), (1 : Int) ≤ b] (Tree.need [inI64 (-(-a / b))] (Tree.leaf (RV.x (Value.int IntKind.i64 (-(-a / b))))))))) (by kernel_rfl) ?_
  have hb : ceI a b = -((-a) / b) := rfl
  obtain ⟨m, hm, h1, h2, h3, h4, h5, h6, h7, h8, h9⟩ := div_facts (-a) b (by omega)
  simp only [Tree.sat, allP, fitP, fitL, valEq, inI64, true_and, and_true]
  omega
theorem qup_ok : SoundSpec Try.prog 84 S_qup := by
  refine ⟨⟨_, Try.func84, by kernel_rfl, by kernel_rfl⟩, ?_⟩
  intro avs ns res h hn
  unfold S_qup at h
  split at h
  · cases h
    exact qup_at _ _ (hn _ (by simp)) (hn _ (by simp))
  · cases h

def S_rFloor : Sx.Spec := fun l => match l with
  | [.x (.int .i64 a), .x (.int .i64 b)] => some ([-4611686018427387904 ≤ a ∧ a ≤ 4611686018427387904, 1 ≤ b ∧ b ≤ 4000000000000], i (a / b))
  | _ => none

set_option maxRecDepth 100000 in
theorem rFloor_at (a b : Int) (pre0 : -4611686018427387904 ≤ a ∧ a ≤ 4611686018427387904) (pre1 : 1 ≤ b ∧ b ≤ 4000000000000) : SoundAt Try.prog 57 [i a, i b] (i (a / b)) := by
  refine soundAt_fin (G := []) (L := [fun s => some (unrollT Try.prog [] [] (loopBody (loopAt (bodyOf Try.f57) 0)) 2 s)]) (SoundG.nil _) mixed Try.func57 (show Try.f57.body = some (bodyOf Try.f57) by kernel_rfl) (one_loop (fun cj hcj => by
    have e : loopAt (bodyOf Try.f57) 0 = some (.loop (loopBody (loopAt (bodyOf Try.f57) 0))) := by kernel_rfl
    rw [e] at hcj; cases hcj
    exact unroll_sound (SoundG.nil _) mixed noLoops _)) (t := (Tree.need [b ≠ (0 : Int), inI64 (Int.tdiv a b)] (Tree.need [inI64 (Int.tdiv a b * b)] (Tree.branch (decide (Int.tdiv a b * b > a)) (Tree.need [inI64 (Int.tdiv a b - (1 : Int))] (Tree.need [inI64 ((Int.tdiv a b - (1 : Int)) * b)] (Tree.branch (decide ((Int.tdiv a b - (1 : Int)) * b > a)) (Tree.need [inI64 (Int.tdiv a b - (1 : Int) - (1 : Int))] Tree.fail) (Tree.leaf (RV.x (Value.int IntKind.i64 (Int.tdiv a b - (1 : Int)))))))) (Tree.leaf (RV.x (Value.int IntKind.i64 (Int.tdiv a b)))))))) (by kernel_rfl) ?_
  obtain ⟨m, hm, h1, h2, h3, h4, h5, h6, h7, h8, h9⟩ := div_facts a b (by omega)
  have e1 : (a.tdiv b - 1) * b = a.tdiv b * b - b := by rw [Int.sub_mul, Int.one_mul]
  have e2 : (a.tdiv b + 1) * b = a.tdiv b * b + b := by rw [Int.add_mul, Int.one_mul]
  simp only [Tree.sat, allP, fitP, fitL, valEq, inI64, true_and, and_true, decide_eq_true_eq, decide_eq_false_iff_not, e1, e2]
  omega
theorem rFloor_ok : SoundSpec Try.prog 57 S_rFloor := by
  refine ⟨⟨_, Try.func57, by kernel_rfl, by kernel_rfl⟩, ?_⟩
  intro avs ns res h hn
  unfold S_rFloor at h
  split at h
  · cases h
    exact rFloor_at _ _ (hn _ (by simp)) (hn _ (by simp))
  · cases h

def S_rCeil : Sx.Spec := fun l => match l with
  | [.x (.int .i64 a), .x (.int .i64 b)] => some ([-4611686018427387904 ≤ a ∧ a ≤ 4611686018427387904, 1 ≤ b ∧ b ≤ 4000000000000], i (ceI a b))
  | _ => none

set_option maxRecDepth 100000 in
theorem rCeil_at (a b : Int) (pre0 : -4611686018427387904 ≤ a ∧ a ≤ 4611686018427387904) (pre1 : 1 ≤ b ∧ b ≤ 4000000000000) : SoundAt Try.prog 72 [i a, i b] (i (ceI a b)) := by
  refine soundAt_fin (G := []) (L := [fun s => some (unrollT Try.prog [] [] (loopBody (loopAt (bodyOf Try.f72) 0)) 2 s)]) (SoundG.nil _) mixed Try.func72 (show Try.f72.body = some (bodyOf Try.f72) by kernel_rfl) (one_loop (fun cj hcj => by
    have e : loopAt (bodyOf Try.f72) 0 = some (.loop (loopBody (loopAt (bodyOf Try.f72) 0))) := by kernel_rfl
    rw [e] at hcj; cases hcj
    exact unroll_sound (SoundG.nil _) mixed noLoops _)) (t := (Tree.need [b ≠ (0 : Int), inI64 (Int.tdiv a b)] (Tree.need [inI64 (Int.tdiv a b * b)] (Tree.branch (decide (Int.tdiv a b * b < a)) (Tree.need [inI64 (Int.tdiv a b + (1 : Int))] (Tree.need [inI64 ((Int.tdiv a b + (1 : Int)) * b)] (Tree.branch (decide ((Int.tdiv a b + (1 : Int)) * b < a)) (Tree.need [inI64 (Int.tdiv a b + (1 : Int) + (1 : Int))] Tree.fail) (Tree.leaf (RV.x (Value.int IntKind.i64 (Int.tdiv a b + (1 : Int)))))))) (Tree.leaf (RV.x (Value.int IntKind.i64 (Int.tdiv a b)))))))) (by kernel_rfl) ?_
  obtain ⟨m, hm, h1, h2, h3, h4, h5, h6, h7, h8, h9⟩ := div_facts a b (by omega)
  have e1 : (a.tdiv b - 1) * b = a.tdiv b * b - b := by rw [Int.sub_mul, Int.one_mul]
  have e2 : (a.tdiv b + 1) * b = a.tdiv b * b + b := by rw [Int.add_mul, Int.one_mul]
  simp only [Tree.sat, allP, fitP, fitL, valEq, inI64, true_and, and_true, decide_eq_true_eq, decide_eq_false_iff_not, e1, e2]
  omega
theorem rCeil_ok : SoundSpec Try.prog 72 S_rCeil := by
  refine ⟨⟨_, Try.func72, by kernel_rfl, by kernel_rfl⟩, ?_⟩
  intro avs ns res h hn
  unfold S_rCeil at h
  split at h
  · cases h
    exact rCeil_at _ _ (hn _ (by simp)) (hn _ (by simp))
  · cases h

def S_pdown : Sx.Spec := fun l => match l with
  | [] => some ([], .agg [.fn (.func 83) [] []])
  | _ => none

set_option maxRecDepth 100000 in
theorem pdown_at  : SoundAt Try.prog 67 [] (.agg [.fn (.func 83) [] []]) := by
  refine soundAt_fin (G := []) (L := []) (SoundG.nil _) mixed Try.func67 (show Try.f67.body = some (bodyOf Try.f67) by kernel_rfl) noLoops (t := (Tree.leaf (RV.agg [RV.fn (Fn.func 83)]))) (by kernel_rfl) ?_
  simp only [Tree.sat, allP, fitP, fitL, valEq, inI64, true_and, and_true]
  all_goals first | omega | grind
theorem pdown_ok : SoundSpec Try.prog 67 S_pdown := by
  refine ⟨⟨_, Try.func67, by kernel_rfl, by kernel_rfl⟩, ?_⟩
  intro avs ns res h hn
  unfold S_pdown at h
  split at h
  · cases h
    exact pdown_at 
  · cases h

def S_pup : Sx.Spec := fun l => match l with
  | [] => some ([], .agg [.fn (.func 84) [] []])
  | _ => none

set_option maxRecDepth 100000 in
theorem pup_at  : SoundAt Try.prog 68 [] (.agg [.fn (.func 84) [] []]) := by
  refine soundAt_fin (G := []) (L := []) (SoundG.nil _) mixed Try.func68 (show Try.f68.body = some (bodyOf Try.f68) by kernel_rfl) noLoops (t := (Tree.leaf (RV.agg [RV.fn (Fn.func 84)]))) (by kernel_rfl) ?_
  simp only [Tree.sat, allP, fitP, fitL, valEq, inI64, true_and, and_true]
  all_goals first | omega | grind
theorem pup_ok : SoundSpec Try.prog 68 S_pup := by
  refine ⟨⟨_, Try.func68, by kernel_rfl, by kernel_rfl⟩, ?_⟩
  intro avs ns res h hn
  unfold S_pup at h
  split at h
  · cases h
    exact pup_at 
  · cases h

set_option maxRecDepth 100000 in
theorem sMin_at (a b : Int) : SoundAt Try.prog 81 [.lst 1 2 (fun k => [i (if k = 0 then a else b)])] (i (min a b)) := by
  refine soundAt_fin (G := []) (L := [fun s => some (unrollT Try.prog [] [] (loopBody (loopAt (bodyOf Try.f81) 0)) 3 s)]) (SoundG.nil _) mixed Try.func81 (show Try.f81.body = some (bodyOf Try.f81) by kernel_rfl) (one_loop (fun cj hcj => by
    have e : loopAt (bodyOf Try.f81) 0 = some (.loop (loopBody (loopAt (bodyOf Try.f81) 0))) := by kernel_rfl
    rw [e] at hcj; cases hcj
    exact unroll_sound (SoundG.nil _) mixed noLoops _)) (t := (Tree.branch (decide ((↑(2 : Nat) : Int) < (1 : Int))) Tree.fail (Tree.need [(0 : Int) ≤ (0 : Int) ∧ (0 : Int) < (↑(2 : Nat) : Int)] (Tree.branch (decide ((1 : Int) < (↑(2 : Nat) : Int))) (Tree.need [(0 : Int) ≤ (1 : Int) ∧ (1 : Int) < (↑(2 : Nat) : Int)] (Tree.need [inI64 ((1 : Int) + (1 : Int))] (Tree.branch (decide ((1 : Int) + (1 : Int) < (↑(2 : Nat) : Int))) (Tree.need [(0 : Int) ≤ (1 : Int) + (1 : Int) ∧ (1 : Int) + (1 : Int) < (↑(2 : Nat) : Int)] (Tree.need [inI64 ((1 : Int) + (1 : Int) + (1 : Int))] (Tree.branch (decide ((1 : Int) + (1 : Int) + (1 : Int) < (↑(2 : Nat) : Int))) (Tree.need [(0 : Int) ≤ (1 : Int) + (1 : Int) + (1 : Int) ∧ (1 : Int) + (1 : Int) + (1 : Int) < (↑(2 : Nat) : Int)] (Tree.need [inI64 ((1 : Int) + (1 : Int) + (1 : Int) + (1 : Int))] Tree.fail)) (Tree.leaf (RV.x (Value.int IntKind.i64 (min (min (if Int.toNat (0 : Int) = 0 then a else b) (if Int.toNat (1 : Int) = 0 then a else b)) (if Int.toNat ((1 : Int) + (1 : Int)) = 0 then a else b)))))))) (Tree.leaf (RV.x (Value.int IntKind.i64 (min (if Int.toNat (0 : Int) = 0 then a else b) (if Int.toNat (1 : Int) = 0 then a else b)))))))) (Tree.leaf (RV.x (Value.int IntKind.i64 (if Int.toNat (0 : Int) = 0 then a else b)))))))) (by kernel_rfl) ?_
  simp [Tree.sat, allP, fitP, fitL, valEq, inI64]

set_option maxRecDepth 100000 in
theorem sMax_at (a b : Int) : SoundAt Try.prog 82 [.lst 1 2 (fun k => [i (if k = 0 then a else b)])] (i (max a b)) := by
  refine soundAt_fin (G := []) (L := [fun s => some (unrollT Try.prog [] [] (loopBody (loopAt (bodyOf Try.f82) 0)) 3 s)]) (SoundG.nil _) mixed Try.func82 (show Try.f82.body = some (bodyOf Try.f82) by kernel_rfl) (one_loop (fun cj hcj => by
    have e : loopAt (bodyOf Try.f82) 0 = some (.loop (loopBody (loopAt (bodyOf Try.f82) 0))) := by kernel_rfl
    rw [e] at hcj; cases hcj
    exact unroll_sound (SoundG.nil _) mixed noLoops _)) (t := (Tree.branch (decide ((↑(2 : Nat) : Int) < (1 : Int))) Tree.fail (Tree.need [(0 : Int) ≤ (0 : Int) ∧ (0 : Int) < (↑(2 : Nat) : Int)] (Tree.branch (decide ((1 : Int) < (↑(2 : Nat) : Int))) (Tree.need [(0 : Int) ≤ (1 : Int) ∧ (1 : Int) < (↑(2 : Nat) : Int)] (Tree.need [inI64 ((1 : Int) + (1 : Int))] (Tree.branch (decide ((1 : Int) + (1 : Int) < (↑(2 : Nat) : Int))) (Tree.need [(0 : Int) ≤ (1 : Int) + (1 : Int) ∧ (1 : Int) + (1 : Int) < (↑(2 : Nat) : Int)] (Tree.need [inI64 ((1 : Int) + (1 : Int) + (1 : Int))] (Tree.branch (decide ((1 : Int) + (1 : Int) + (1 : Int) < (↑(2 : Nat) : Int))) (Tree.need [(0 : Int) ≤ (1 : Int) + (1 : Int) + (1 : Int) ∧ (1 : Int) + (1 : Int) + (1 : Int) < (↑(2 : Nat) : Int)] (Tree.need [inI64 ((1 : Int) + (1 : Int) + (1 : Int) + (1 : Int))] Tree.fail)) (Tree.leaf (RV.x (Value.int IntKind.i64 (max (max (if Int.toNat (0 : Int) = 0 then a else b) (if Int.toNat (1 : Int) = 0 then a else b)) (if Int.toNat ((1 : Int) + (1 : Int)) = 0 then a else b)))))))) (Tree.leaf (RV.x (Value.int IntKind.i64 (max (if Int.toNat (0 : Int) = 0 then a else b) (if Int.toNat (1 : Int) = 0 then a else b)))))))) (Tree.leaf (RV.x (Value.int IntKind.i64 (if Int.toNat (0 : Int) = 0 then a else b)))))))) (by kernel_rfl) ?_
  simp [Tree.sat, allP, fitP, fitL, valEq, inI64]

end Go.Proofs.Ytchcegfhamngkaa
