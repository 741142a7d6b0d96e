/- Contracts of functions of the program, by the engine Sx: what each call comes to. Printed by a program of this repo (sxgen.py). -/
import Derived.Test.YtchcegfhamngkaaPtD
set_option linter.unusedSimpArgs false
set_option linter.unusedVariables false
namespace Go.Proofs.Ytchcegfhamngkaa
open Go Go.Sx Go.RowKit

/-- The variable that holds the function itself, as deep as one looks. -/
def onL (n : Nat) (f : Nat → List AV) : Nat → List AV
  | 0 => [.fn (.func 55) [] [.top, .top]]
  | d + 1 => [.fn (.func 55) [] [.ro [.lst 2 n f], .ro (onL n f d)]]
/-- What can stand on the scale behind m more ones, from the scale k on; none: some reading is too great. -/
def thr (a b : Nat → Int) : Nat → Nat → Int → Int → Option (Int × Int)
  | 0, _, lo, hi => if insB (-1000000) lo hi 1000000 then some (lo, hi) else none
  | m + 1, k, lo, hi => if insB (-1000000) lo hi 1000000 then thr a b m (k + 1) (stLo (a k) (b k) (a (k + 1)) (b (k + 1)) lo hi) (stHi (a k) (b k) (a (k + 1)) (b (k + 1)) lo hi) else none
def rgO (o : Option (Int × Int)) : AV := .agg [i (match o with | some p => p.1 | none => 0), i (match o with | some p => p.2 | none => 0)]
def erO (o : Option (Int × Int)) (e : Int) : AV := i (match o with | some _ => 0 | none => e)
def S_T1 (d : Nat) : Sx.Spec := fun l => match l with
  | [.x (.int .i64 k), .agg [.x (.int .i64 lo), .x (.int .i64 hi)], .ro [.lst 2 n f], .ro b] => some ([b = onL n f d, f = (fun k => [i (col 0 f k), i (col 1 f k)]), 0 ≤ k ∧ k < n ∧ n ≤ k + d ∧ n ≤ 1000, allS n (col 0 f) (col 1 f) = true],
      .tup [rgO (thr (col 0 f) (col 1 f) (n - 1 - k.toNat) k.toNat lo hi), erO (thr (col 0 f) (col 1 f) (n - 1 - k.toNat) k.toNat lo hi) 10])
  | _ => none

set_option maxRecDepth 100000 in
theorem Through1_at (d n k : Nat) (lo hi : Int) (a b : Nat → Int) (pre0 : SoundSpec Try.prog 55 (S_T1 d)) (pre1 : k < n ∧ n ≤ k + (d + 1) ∧ n ≤ 1000) (pre2 : allS n a b = true) : SoundAt Try.prog 55 [i k, .agg [i lo, i hi], .ro [scs n a b], (.ro (onL n (fun k => [i (a k), i (b k)]) (d + 1)))] (.tup [rgO (thr a b (n - 1 - k) k lo hi), erO (thr a b (n - 1 - k) k lo hi) 10]) := by
  refine soundAt_fin (G := [(54, S_readings), (56, S_stand), (55, S_T1 d)]) (L := []) (SoundG.cons readings_ok (SoundG.cons stand_ok (SoundG.cons pre0 (SoundG.nil _)))) mixed Try.func55 (show Try.f55.body = some (bodyOf Try.f55) by kernel_rfl) noLoops (t := (Tree.branch (!insB (-1000000 : Int) lo hi (1000000 : Int)) (Tree.leaf (RV.tup [RV.agg [RV.x (Value.int IntKind.i64 (0 : Int)), RV.x (Value.int IntKind.i64 (0 : Int))], RV.x (Value.int IntKind.i64 (10 : Int))])) (Tree.need [inI64 ((↑k : Int) + (1 : Int))] (Tree.branch ((↑k : Int) + (1 : Int) == (↑n : Int)) (Tree.leaf (RV.tup [RV.agg [RV.x (Value.int IntKind.i64 lo), RV.x (Value.int IntKind.i64 hi)], RV.x (Value.int IntKind.i64 (0 : Int))])) (Tree.need [inI64 ((↑k : Int) + (1 : Int))] (Tree.need [(0 : Int) ≤ (↑k : Int) ∧ (↑k : Int) < (↑n : Int)] (Tree.need [inI64 ((↑k : Int) + (1 : Int))] (Tree.need [(0 : Int) ≤ (↑k : Int) + (1 : Int) ∧ (↑k : Int) + (1 : Int) < (↑n : Int)] (Tree.need [(-1000 : Int) ≤ a (Int.toNat (↑k : Int)) ∧ a (Int.toNat (↑k : Int)) ≤ (1000 : Int) ∧ (-1000 : Int) ≤ b (Int.toNat (↑k : Int)) ∧ b (Int.toNat (↑k : Int)) ≤ (1000 : Int) ∧ a (Int.toNat (↑k : Int)) ≠ b (Int.toNat (↑k : Int)), (-1000 : Int) ≤ a (Int.toNat ((↑k : Int) + (1 : Int))) ∧ a (Int.toNat ((↑k : Int) + (1 : Int))) ≤ (1000 : Int) ∧ (-1000 : Int) ≤ b (Int.toNat ((↑k : Int) + (1 : Int))) ∧ b (Int.toNat ((↑k : Int) + (1 : Int))) ≤ (1000 : Int) ∧ a (Int.toNat ((↑k : Int) + (1 : Int))) ≠ b (Int.toNat ((↑k : Int) + (1 : Int))), (-1000000 : Int) ≤ lo ∧ lo ≤ hi ∧ hi ≤ (1000000 : Int)] (Tree.need [onL n (fun k => [i (a k), i (b k)]) d = onL n (fun k => [i (a k), i (b k)]) d, (fun k => [i (a k), i (b k)]) = fun k => [i (col 0 (fun k => [i (a k), i (b k)]) k), i (col 1 (fun k => [i (a k), i (b k)]) k)], (0 : Int) ≤ (↑k : Int) + (1 : Int) ∧ (↑k : Int) + (1 : Int) < (↑n : Int) ∧ (↑n : Int) ≤ (↑k : Int) + (1 : Int) + (↑d : Int) ∧ n ≤ 1000, allS n (col 0 fun k => [i (a k), i (b k)]) (col 1 fun k => [i (a k), i (b k)]) = true] (Tree.leaf (RV.tup [RV.agg [RV.x (Value.int IntKind.i64 (match thr (col 0 fun k => [i (a k), i (b k)]) (col 1 fun k => [i (a k), i (b k)]) (n - 1 - Int.toNat ((↑k : Int) + (1 : Int))) (Int.toNat ((↑k : Int) + (1 : Int))) (stLo (a (Int.toNat (↑k : Int))) (b (Int.toNat (↑k : Int))) (a (Int.toNat ((↑k : Int) + (1 : Int)))) (b (Int.toNat ((↑k : Int) + (1 : Int)))) lo hi) (stHi (a (Int.toNat (↑k : Int))) (b (Int.toNat (↑k : Int))) (a (Int.toNat ((↑k : Int) + (1 : Int)))) (b (Int.toNat ((↑k : Int) + (1 : Int)))) lo hi) with | some p => Prod.fst p | none => (0 : Int))), RV.x (Value.int IntKind.i64 (match thr (col 0 fun k => [i (a k), i (b k)]) (col 1 fun k => [i (a k), i (b k)]) (n - 1 - Int.toNat ((↑k : Int) + (1 : Int))) (Int.toNat ((↑k : Int) + (1 : Int))) (stLo (a (Int.toNat (↑k : Int))) (b (Int.toNat (↑k : Int))) (a (Int.toNat ((↑k : Int) + (1 : Int)))) (b (Int.toNat ((↑k : Int) + (1 : Int)))) lo hi) (stHi (a (Int.toNat (↑k : Int))) (b (Int.toNat (↑k : Int))) (a (Int.toNat ((↑k : Int) + (1 : Int)))) (b (Int.toNat ((↑k : Int) + (1 : Int)))) lo hi) with | some p => Prod.snd p | none => (0 : Int)))], RV.x (Value.int IntKind.i64 (match thr (col 0 fun k => [i (a k), i (b k)]) (col 1 fun k => [i (a k), i (b k)]) (n - 1 - Int.toNat ((↑k : Int) + (1 : Int))) (Int.toNat ((↑k : Int) + (1 : Int))) (stLo (a (Int.toNat (↑k : Int))) (b (Int.toNat (↑k : Int))) (a (Int.toNat ((↑k : Int) + (1 : Int)))) (b (Int.toNat ((↑k : Int) + (1 : Int)))) lo hi) (stHi (a (Int.toNat (↑k : Int))) (b (Int.toNat (↑k : Int))) (a (Int.toNat ((↑k : Int) + (1 : Int)))) (b (Int.toNat ((↑k : Int) + (1 : Int)))) lo hi) with | some val => (0 : Int) | none => (10 : Int)))])))))))))))) (by kernel_rfl) ?_
  obtain ⟨m, hm⟩ : ∃ m, n = k + 1 + m := ⟨n - k - 1, by omega⟩
  have hA : ∀ j, j < n → scB (a j) (b j) = true := allI_iff.1 pre2
  have b1 := scB_bd (hA k (by omega))
  have e0 : n - 1 - k = m := by omega
  have t1 : ((k : Int) + 1).toNat = k + 1 := by omega
  simp only [Tree.sat, allP, fitP, fitL, valEq, inI64, true_and, and_true, Int.toNat_natCast, t1, e0, rgO, erO]
  refine ⟨fun h => ?_, fun h => ⟨by omega, fun h2 => ?_, fun h2 => ?_⟩⟩
  · cases m <;> simp_all [thr]
  · have : m = 0 := by simp at h2; omega
    subst this
    have h' : insB (-1000000) lo hi 1000000 = true := by simpa using h
    simp [thr, h']
  · have hm1 : 1 ≤ m := by simp at h2; omega
    obtain ⟨m', rfl⟩ : ∃ m', m = m' + 1 := ⟨m - 1, by omega⟩
    have h' : insB (-1000000) lo hi 1000000 = true := by simpa using h
    have e2 : n - 1 - (k + 1) = m' := by omega
    have b2 := scB_bd (hA (k + 1) (by omega))
    have b3 := (insB_iff _ _ _ _).1 h'
    refine ⟨by omega, by omega, by omega, by omega, ⟨b1, b2, b3⟩, ⟨rfl, by omega, pre2⟩, ?_⟩
    rw [e2]
    simp only [thr, h', if_true]
    exact ⟨⟨rfl, rfl⟩, rfl⟩


theorem T1_ok : ∀ d, SoundSpec Try.prog 55 (S_T1 d) := by
  intro d
  induction d with
  | zero =>
    refine ⟨⟨_, Try.func55, by kernel_rfl, by kernel_rfl⟩, ?_⟩
    intro avs ns res h hn
    unfold S_T1 at h
    split at h
    · cases h
      have h3 := hn _ (List.mem_cons_of_mem _ (List.mem_cons_of_mem _ List.mem_cons_self))
      exfalso
      omega
    · cases h
  | succ d ih =>
    refine ⟨⟨_, Try.func55, by kernel_rfl, by kernel_rfl⟩, ?_⟩
    intro avs ns res h hn
    unfold S_T1 at h
    split at h
    · rename_i k lo hi n f bb
      cases h
      have h1 := hn _ List.mem_cons_self
      have h2 := hn _ (List.mem_cons_of_mem _ List.mem_cons_self)
      have h3 := hn _ (List.mem_cons_of_mem _ (List.mem_cons_of_mem _ List.mem_cons_self))
      have h4 : allS n (col 0 f) (col 1 f) = true := hn _ (List.mem_cons_of_mem _ (List.mem_cons_of_mem _ (List.mem_cons_of_mem _ List.mem_cons_self)))
      obtain ⟨k', rfl⟩ := Int.eq_ofNat_of_zero_le h3.1
      have key := Through1_at d n k' lo hi (col 0 f) (col 1 f) ih (by omega) h4
      rw [← h2] at key
      subst h1
      have e : scs n (col 0 f) (col 1 f) = .lst 2 n f := by unfold scs; rw [← h2]
      rw [e] at key
      simpa using key
    · cases h


/-- The error of Through. -/
def thE (n : Nat) (a b : Nat → Int) (lo hi : Int) : Int := if 8 < n then 3 else if n = 0 then 1 else if allS n a b then (if insB (-1000000) lo hi 1000000 then (match thr a b (n - 1) 0 lo hi with | some _ => 0 | none => 10) else 2) else 1
def thR (n : Nat) (a b : Nat → Int) (lo hi : Int) : Option (Int × Int) := if thE n a b lo hi = 0 then thr a b (n - 1) 0 lo hi else none
def S_Through : Sx.Spec := fun l => match l with
  | [.lst 2 n f, .agg [.x (.int .i64 lo), .x (.int .i64 hi)]] => some ([isRec 2 n f], .tup [rgO (thR n (col 0 f) (col 1 f) lo hi), i (thE n (col 0 f) (col 1 f) lo hi)])
  | _ => none

set_option maxRecDepth 100000 in
theorem Through_at (n : Nat) (a b : Nat → Int) (lo hi : Int) : SoundAt Try.prog 17 [scs n a b, .agg [i lo, i hi]] (.tup [rgO (thR n a b lo hi), i (thE n a b lo hi)]) := by
  refine soundAt_fin (G := [(52, S_pall), (54, S_readings), (55, S_T1 19)]) (L := []) (SoundG.cons pall_ok (SoundG.cons readings_ok (SoundG.cons (T1_ok 19) (SoundG.nil _)))) mixed Try.func17 (show Try.f17.body = some (bodyOf Try.f17) by kernel_rfl) noLoops (t := (Tree.branch (decide ((↑n : Int) > (8 : Int))) (Tree.leaf (RV.tup [RV.agg [RV.x (Value.int IntKind.i64 (0 : Int)), RV.x (Value.int IntKind.i64 (0 : Int))], RV.x (Value.int IntKind.i64 (3 : Int))])) (Tree.branch ((↑n : Int) == (0 : Int)) (Tree.leaf (RV.tup [RV.agg [RV.x (Value.int IntKind.i64 (0 : Int)), RV.x (Value.int IntKind.i64 (0 : Int))], RV.x (Value.int IntKind.i64 (1 : Int))])) (Tree.need [isRec 2 n fun k => [i (a k), i (b k)], n ≤ 100000] (Tree.branch (!allS n (col 0 fun k => [i (a k), i (b k)]) (col 1 fun k => [i (a k), i (b k)])) (Tree.leaf (RV.tup [RV.agg [RV.x (Value.int IntKind.i64 (0 : Int)), RV.x (Value.int IntKind.i64 (0 : Int))], RV.x (Value.int IntKind.i64 (1 : Int))])) (Tree.branch (!insB (-1000000 : Int) lo hi (1000000 : Int)) (Tree.leaf (RV.tup [RV.agg [RV.x (Value.int IntKind.i64 (0 : Int)), RV.x (Value.int IntKind.i64 (0 : Int))], RV.x (Value.int IntKind.i64 (2 : Int))])) (Tree.need [[AV.fn (Fn.func 55) [] [AV.ro [AV.lst 2 n fun k => [iI (a k), iI (b k)]], AV.ro [AV.fn (Fn.func 55) [] [AV.ro [AV.lst 2 n fun k => [iI (a k), iI (b k)]], AV.ro [AV.fn (Fn.func 55) [] [AV.ro [AV.lst 2 n fun k => [iI (a k), iI (b k)]], AV.ro [AV.fn (Fn.func 55) [] [AV.ro [AV.lst 2 n fun k => [iI (a k), iI (b k)]], AV.ro [AV.fn (Fn.func 55) [] [AV.ro [AV.lst 2 n fun k => [iI (a k), iI (b k)]], AV.ro [AV.fn (Fn.func 55) [] [AV.ro [AV.lst 2 n fun k => [iI (a k), iI (b k)]], AV.ro [AV.fn (Fn.func 55) [] [AV.ro [AV.lst 2 n fun k => [iI (a k), iI (b k)]], AV.ro [AV.fn (Fn.func 55) [] [AV.ro [AV.lst 2 n fun k => [iI (a k), iI (b k)]], AV.ro [AV.fn (Fn.func 55) [] [AV.ro [AV.lst 2 n fun k => [iI (a k), iI (b k)]], AV.ro [AV.fn (Fn.func 55) [] [AV.ro [AV.lst 2 n fun k => [iI (a k), iI (b k)]], AV.ro [AV.fn (Fn.func 55) [] [AV.ro [AV.lst 2 n fun k => [iI (a k), iI (b k)]], AV.ro [AV.fn (Fn.func 55) [] [AV.ro [AV.lst 2 n fun k => [iI (a k), iI (b k)]], AV.ro [AV.fn (Fn.func 55) [] [AV.ro [AV.lst 2 n fun k => [iI (a k), iI (b k)]], AV.ro [AV.fn (Fn.func 55) [] [AV.ro [AV.lst 2 n fun k => [iI (a k), iI (b k)]], AV.ro [AV.fn (Fn.func 55) [] [AV.ro [AV.lst 2 n fun k => [iI (a k), iI (b k)]], AV.ro [AV.fn (Fn.func 55) [] [AV.ro [AV.lst 2 n fun k => [iI (a k), iI (b k)]], AV.ro [AV.fn (Fn.func 55) [] [AV.ro [AV.lst 2 n fun k => [iI (a k), iI (b k)]], AV.ro [AV.fn (Fn.func 55) [] [AV.ro [AV.lst 2 n fun k => [iI (a k), iI (b k)]], AV.ro [AV.fn (Fn.func 55) [] [AV.ro [AV.lst 2 n fun k => [iI (a k), iI (b k)]], AV.ro [AV.fn (Fn.func 55) [] [AV.top, AV.top]]]]]]]]]]]]]]]]]]]]]]]]]]]]]]]]]]]]]]]] = [AV.fn (Fn.func 55) [] [AV.ro [AV.lst 2 n fun k => [iI (a k), iI (b k)]], AV.ro [AV.fn (Fn.func 55) [] [AV.ro [AV.lst 2 n fun k => [iI (a k), iI (b k)]], AV.ro [AV.fn (Fn.func 55) [] [AV.ro [AV.lst 2 n fun k => [iI (a k), iI (b k)]], AV.ro [AV.fn (Fn.func 55) [] [AV.ro [AV.lst 2 n fun k => [iI (a k), iI (b k)]], AV.ro [AV.fn (Fn.func 55) [] [AV.ro [AV.lst 2 n fun k => [iI (a k), iI (b k)]], AV.ro [AV.fn (Fn.func 55) [] [AV.ro [AV.lst 2 n fun k => [iI (a k), iI (b k)]], AV.ro [AV.fn (Fn.func 55) [] [AV.ro [AV.lst 2 n fun k => [iI (a k), iI (b k)]], AV.ro [AV.fn (Fn.func 55) [] [AV.ro [AV.lst 2 n fun k => [iI (a k), iI (b k)]], AV.ro [AV.fn (Fn.func 55) [] [AV.ro [AV.lst 2 n fun k => [iI (a k), iI (b k)]], AV.ro [AV.fn (Fn.func 55) [] [AV.ro [AV.lst 2 n fun k => [iI (a k), iI (b k)]], AV.ro [AV.fn (Fn.func 55) [] [AV.ro [AV.lst 2 n fun k => [iI (a k), iI (b k)]], AV.ro [AV.fn (Fn.func 55) [] [AV.ro [AV.lst 2 n fun k => [iI (a k), iI (b k)]], AV.ro [AV.fn (Fn.func 55) [] [AV.ro [AV.lst 2 n fun k => [iI (a k), iI (b k)]], AV.ro [AV.fn (Fn.func 55) [] [AV.ro [AV.lst 2 n fun k => [iI (a k), iI (b k)]], AV.ro [AV.fn (Fn.func 55) [] [AV.ro [AV.lst 2 n fun k => [iI (a k), iI (b k)]], AV.ro [AV.fn (Fn.func 55) [] [AV.ro [AV.lst 2 n fun k => [iI (a k), iI (b k)]], AV.ro [AV.fn (Fn.func 55) [] [AV.ro [AV.lst 2 n fun k => [iI (a k), iI (b k)]], AV.ro [AV.fn (Fn.func 55) [] [AV.ro [AV.lst 2 n fun k => [iI (a k), iI (b k)]], AV.ro [AV.fn (Fn.func 55) [] [AV.ro [AV.lst 2 n fun k => [iI (a k), iI (b k)]], AV.ro [AV.fn (Fn.func 55) [] [AV.top, AV.top]]]]]]]]]]]]]]]]]]]]]]]]]]]]]]]]]]]]]]]], (fun k => [i (a k), i (b k)]) = fun k => [i (col 0 (fun k => [i (a k), i (b k)]) k), i (col 1 (fun k => [i (a k), i (b k)]) k)], (0 : Int) ≤ (0 : Int) ∧ (0 : Int) < (↑n : Int) ∧ (↑n : Int) ≤ (0 : Int) + (↑(19 : Nat) : Int) ∧ n ≤ 1000, allS n (col 0 fun k => [i (a k), i (b k)]) (col 1 fun k => [i (a k), i (b k)]) = true] (Tree.leaf (RV.tup [RV.agg [RV.x (Value.int IntKind.i64 (match thr (col 0 fun k => [i (a k), i (b k)]) (col 1 fun k => [i (a k), i (b k)]) (n - 1 - Int.toNat (0 : Int)) (Int.toNat (0 : Int)) lo hi with | some p => Prod.fst p | none => (0 : Int))), RV.x (Value.int IntKind.i64 (match thr (col 0 fun k => [i (a k), i (b k)]) (col 1 fun k => [i (a k), i (b k)]) (n - 1 - Int.toNat (0 : Int)) (Int.toNat (0 : Int)) lo hi with | some p => Prod.snd p | none => (0 : Int)))], RV.x (Value.int IntKind.i64 (match thr (col 0 fun k => [i (a k), i (b k)]) (col 1 fun k => [i (a k), i (b k)]) (n - 1 - Int.toNat (0 : Int)) (Int.toNat (0 : Int)) lo hi with | some val => (0 : Int) | none => (10 : Int)))]))))))))) (by kernel_rfl) ?_
  have c0 : col 0 (fun k => [i (a k), i (b k)]) = a := rfl
  have c1 : col 1 (fun k => [i (a k), i (b k)]) = b := rfl
  simp only [Tree.sat, allP, fitP, fitL, valEq, true_and, and_true, c0, c1, decide_eq_true_eq, decide_eq_false_iff_not, rgO, thR, thE]
  refine ⟨fun h => ?_, fun h => ?_⟩
  · simp [show 8 < n by omega]
  have h8 : ¬ 8 < n := by omega
  refine ⟨fun h2 => ?_, fun h2 => ?_⟩
  · have : n = 0 := by simp at h2; omega
    simp [this]
  have h0 : n ≠ 0 := by intro h; subst h; simp at h2
  refine ⟨⟨isRec2 n _ _, by omega⟩, fun h3 => ?_, fun h3 => ?_⟩
  · have : allS n a b = false := by simpa using h3
    simp [h8, h0, this]
  have h3' : allS n a b = true := by simpa using h3
  refine ⟨fun h4 => ?_, fun h4 => ?_⟩
  · have : insB (-1000000) lo hi 1000000 = false := by simpa using h4
    simp [h8, h0, h3', this]
  have h4' : insB (-1000000) lo hi 1000000 = true := by simpa using h4
  refine ⟨⟨by omega, h3'⟩, ?_⟩
  simp only [h8, h0, h3', h4', if_true, if_false, Nat.sub_zero, Int.toNat_zero]
  cases ht : thr a b (n - 1) 0 lo hi <;> simp


theorem Through_ok : SoundSpec Try.prog 17 S_Through := by
  refine ⟨⟨_, Try.func17, by kernel_rfl, by kernel_rfl⟩, ?_⟩
  intro avs ns res h hn
  unfold S_Through at h
  split at h
  · rename_i n f lo hi
    cases h
    have hr : isRec 2 n f := hn _ (by simp)
    exact (Through_at n (col 0 f) (col 1 f) lo hi).same (.cons (.lst 2 n _ _ hr) (.cons (.refl _) .nil))
  · cases h


/-- The error of Convert; what can stand. -/
def cvE (a b c d lo hi : Int) : Int := if scB a b && scB c d then (if insB (-1000000) lo hi 1000000 then (if insB (-1000000) (stLo a b c d lo hi) (stHi a b c d lo hi) 1000000 then 0 else 10) else 2) else 1
def cvLo (a b c d lo hi : Int) : Int := if cvE a b c d lo hi = 0 then stLo a b c d lo hi else 0
def cvHi (a b c d lo hi : Int) : Int := if cvE a b c d lo hi = 0 then stHi a b c d lo hi else 0
theorem thE_two (p q : Nat → Int) (lo hi : Int) : thE 2 p q lo hi = cvE (p 0) (q 0) (p 1) (q 1) lo hi := by
  unfold thE cvE
  simp only [allS, allI, thr, Bool.true_and]
  cases scB (p 0) (q 0) && scB (p 1) (q 1) <;> simp
  cases insB (-1000000) lo hi 1000000 <;> simp
  cases insB (-1000000) (stLo (p 0) (q 0) (p 1) (q 1) lo hi) (stHi (p 0) (q 0) (p 1) (q 1) lo hi) 1000000 <;> simp
theorem thR_two (p q : Nat → Int) (lo hi : Int) : rgO (thR 2 p q lo hi) = .agg [i (cvLo (p 0) (q 0) (p 1) (q 1) lo hi), i (cvHi (p 0) (q 0) (p 1) (q 1) lo hi)] := by
  unfold thR cvLo cvHi
  rw [thE_two]
  by_cases h : cvE (p 0) (q 0) (p 1) (q 1) lo hi = 0
  · simp only [h, if_true]
    have h2 := h
    unfold cvE at h2
    split at h2
    · split at h2
      · split at h2
        · rename_i h3 h4 h5
          simp [thr, h4, h5, rgO]
        · omega
      · omega
    · omega
  · simp [h, rgO]

def S_Convert : Sx.Spec := fun l => match l with
  | [.agg [.x (.int .i64 a), .x (.int .i64 b)], .agg [.x (.int .i64 c), .x (.int .i64 d)], .agg [.x (.int .i64 lo), .x (.int .i64 hi)]] => some ([], .tup [.agg [i (cvLo a b c d lo hi), i (cvHi a b c d lo hi)], i (cvE a b c d lo hi)])
  | _ => none

set_option maxRecDepth 100000 in
theorem Convert_at (a b c d lo hi : Int) : SoundAt Try.prog 22 [.agg [i a, i b], .agg [i c, i d], .agg [i lo, i hi]] (.tup [.agg [i (cvLo a b c d lo hi), i (cvHi a b c d lo hi)], i (cvE a b c d lo hi)]) := by
  refine soundAt_fin (G := [(17, S_Through)]) (L := []) (SoundG.cons Through_ok (SoundG.nil _)) mixed Try.func22 (show Try.f22.body = some (bodyOf Try.f22) by kernel_rfl) noLoops (t := (Tree.need [isRec 2 2 (chunk 2 [iI a, iI b, iI c, iI d])] (Tree.leaf (RV.tup [RV.agg [RV.x (Value.int IntKind.i64 (match thR 2 (col 0 (chunk 2 [iI a, iI b, iI c, iI d])) (col 1 (chunk 2 [iI a, iI b, iI c, iI d])) lo hi with | some p => Prod.fst p | none => (0 : Int))), RV.x (Value.int IntKind.i64 (match thR 2 (col 0 (chunk 2 [iI a, iI b, iI c, iI d])) (col 1 (chunk 2 [iI a, iI b, iI c, iI d])) lo hi with | some p => Prod.snd p | none => (0 : Int)))], RV.x (Value.int IntKind.i64 (thE 2 (col 0 (chunk 2 [iI a, iI b, iI c, iI d])) (col 1 (chunk 2 [iI a, iI b, iI c, iI d])) lo hi))])))) (by kernel_rfl) ?_
  have e1 := thR_two (col 0 (chunk 2 [i a, i b, i c, i d])) (col 1 (chunk 2 [i a, i b, i c, i d])) lo hi
  have e2 := thE_two (col 0 (chunk 2 [i a, i b, i c, i d])) (col 1 (chunk 2 [i a, i b, i c, i d])) lo hi
  simp only [Tree.sat, allP, fitP, fitL, valEq, true_and, and_true]
  refine ⟨fun k hk => ?_, ⟨?_, ?_⟩, e2⟩
  · rcases (show k = 0 ∨ k = 1 by omega) with rfl | rfl <;> rfl
  · unfold rgO at e1
    simp only [AV.agg.injEq, List.cons.injEq, AV.x.injEq, Value.int.injEq, true_and, and_true] at e1
    exact e1.1
  · unfold rgO at e1
    simp only [AV.agg.injEq, List.cons.injEq, AV.x.injEq, Value.int.injEq, true_and, and_true] at e1
    exact e1.2
theorem Convert_ok : SoundSpec Try.prog 22 S_Convert := by
  refine ⟨⟨_, Try.func22, by kernel_rfl, by kernel_rfl⟩, ?_⟩
  intro avs ns res h hn
  unfold S_Convert at h
  split at h
  · cases h
    exact Convert_at _ _ _ _ _ _
  · cases h

end Go.Proofs.Ytchcegfhamngkaa
