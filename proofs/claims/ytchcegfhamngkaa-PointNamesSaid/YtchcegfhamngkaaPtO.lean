/- Contracts of functions of the program, by the engine Sx: what each call comes to. Printed by a program of this repo (sxgen.py). -/
import Derived.Test.YtchcegfhamngkaaPtN
import Derived.Test.YtchcegfhamngkaaSxV
set_option linter.unusedSimpArgs false
set_option linter.unusedVariables false
namespace Go.Proofs.Ytchcegfhamngkaa
open Go Go.Sx Go.RowKit
def S_spans : Sx.Spec := fun l => match l with
  | [.lst 2 n f] => some ([], .fn (.func 89) [] [.ro [.lst 2 n f]])
  | _ => none

set_option maxRecDepth 100000 in
theorem spans_at (n : Nat) (f : Nat → List AV) : SoundAtR Try.prog 80 [.lst 2 n f] (.fn (.func 89) [] [.ro [.lst 2 n f]]) := by
  refine soundAtR_fin (G := []) (X := { R := [], H := [] }) (L := []) (SoundG.nil _) (SoundX.of (SoundRL.nil _) (SoundHL.nil _)) mixed Try.func80 (show Try.f80.body = some (bodyOf Try.f80) by kernel_rfl) noLoopsS (t := (Tree.leaf (AV.fn (Fn.func 89) [] [AV.ro [AV.lst 2 n fun a => f a]]))) (by kernel_rfl) ?_
  exact rfl
theorem spans_okR : SoundR Try.prog 80 S_spans := by
  refine ⟨⟨_, Try.func80, by kernel_rfl, by kernel_rfl⟩, ?_⟩
  intro avs ns res h hn
  unfold S_spans at h
  split at h
  · cases h
    exact spans_at _ _
  · cases h


def stV (p q : Nat → Int) (k : Nat) : Value := .agg #[.int .i64 (p k), .int .i64 (q k)]
def spV (p q : Nat → Int) (k : Nat) : List Value := [stV p q k, stV p q (k + 1)]

noncomputable def E_sp (l : Nat) (n : Nat) (p q : Nat → Int) : St := (some
  {
    σ :=
      [AV.fn (Fn.yield l) [] [],
        AV.ro [AV.lst (2 : Nat) n fun k => [AV.x (Value.int IntKind.i64 (p k)), AV.x (Value.int IntKind.i64 (q k))]],
        AV.top, AV.top, AV.top,
        AV.lst (2 : Nat) n fun k => [AV.x (Value.int IntKind.i64 (p k)), AV.x (Value.int IntKind.i64 (q k))],
        AV.lst (2 : Nat) (Int.toNat (↑n : Int) - Int.toNat (1 : Int)) fun i =>
          [AV.x (Value.int IntKind.i64 (p (Int.toNat (1 : Int) + i))),
            AV.x (Value.int IntKind.i64 (q (Int.toNat (1 : Int) + i)))],
        AV.x (Value.int IntKind.i64 (↑(Int.toNat (↑n : Int) - Int.toNat (1 : Int)) : Int)), AV.top, AV.top, AV.top,
        AV.top, AV.top, AV.top, AV.top, AV.top, AV.top, AV.top, AV.top, AV.top, AV.top, AV.top],
    m := [], nx := (4 : Nat), gh := some (0 : Nat) } : Option St).getD { σ := [], m := [], nx := 0 }
noncomputable def B_sp : Code := loopBody (loopAt (bodyOf Try.f89) 0)
noncomputable def inv_sp (l : Nat) (n : Nat) (p q : Nat → Int) (k : Nat) : St := { σ := ovrS [(8, i k)] (E_sp l n p q).σ, m := [], nx := 0, gh := some (k) }
noncomputable def out_sp (l : Nat) (n : Nat) (p q : Nat → Int) (k : Nat) : AEx → Option St := fun ex => match ex with
  | .exit 0 => some { σ := ovrS [] (E_sp l n p q).σ, m := [], nx := 0, gh := some (n - 1) }
  | .ret => some { σ := ovrS [] (E_sp l n p q).σ, m := [], nx := 0, gh := none }
  | _ => none
noncomputable def T_sp (l : Nat) (n : Nat) (p q : Nat → Int) : CT := .may True (.leaf (.exit 0, ( out_sp l n p q 0 (.exit 0)).getD (E_sp l n p q))) (.leaf (.ret, ( out_sp l n p q 0 .ret).getD (E_sp l n p q)))
noncomputable def LS_sp (l : Nat) (n : Nat) (p q : Nat → Int) : LSpec := normSp [] (sumL (inv_sp l n p q (0)) (T_sp l n p q))
set_option maxRecDepth 100000 in
theorem sp_lc (l : Nat) (n : Nat) (p q : Nat → Int) (pre0 : 1 ≤ n ∧ n ≤ 100000) {cx : Cx} (hX : SoundX Try.prog { Y := some (l, (n - 1), (spV p q)) } cx) : LSoundC Try.prog none cx (.loop B_sp) (LS_sp l n p q) := by
  refine loop_roundsC [] (G := []) (L := []) (SoundG.nil _) hX mixed noLoopsS (V := Nat) (inv_sp l n p q) (fun k => k ≤ n - 1) (fun k => n - k) (out_sp l n p q) (x0 := 0) (by simp) ?_ ?_ ?_
  · rintro k
    kernel_rfl
  · rintro k y E h
    unfold out_sp at h
    split at h
    · cases h; kernel_rfl
    · cases h; kernel_rfl
    · cases h
  · rintro Q hQ k hx
    refine ⟨(k + 1), ?_⟩
    have e : roundX Try.prog [] { Y := some (l, (n - 1), (spV p q)) } [] [] B_sp (inv_sp l n p q k) (inv_sp l n p q ((k + 1))) (out_sp l n p q k) = (Tree.branch (decide ((↑k : Int) < (↑(Int.toNat (↑n : Int) - Int.toNat (1 : Int)) : Int))) (Tree.need [(0 : Int) ≤ (↑k : Int) ∧ (↑k : Int) < (↑(Int.toNat (↑n : Int) - Int.toNat (1 : Int)) : Int)] (Tree.need [(0 : Int) ≤ (↑k : Int) ∧ (↑k : Int) < (↑n : Int)] (Tree.need [l = l, k < n - 1, [Value.agg { toList := [Value.int IntKind.i64 (p (Int.toNat (↑k : Int))), Value.int IntKind.i64 (q (Int.toNat (↑k : Int)))] }, Value.agg { toList := [Value.int IntKind.i64 (p (Int.toNat (1 : Int) + Int.toNat (↑k : Int))), Value.int IntKind.i64 (q (Int.toNat (1 : Int) + Int.toNat (↑k : Int)))] }] = [Value.agg { toList := [Value.int IntKind.i64 (p k), Value.int IntKind.i64 (q k)] }, Value.agg { toList := [Value.int IntKind.i64 (p (k + 1)), Value.int IntKind.i64 (q (k + 1))] }]] (Tree.may True (Tree.need [inI64 ((↑k : Int) + (1 : Int))] (Tree.need [AV.fn (Fn.yield l) [] [] = AV.fn (Fn.yield l) [] [], AV.ro [AV.lst 2 n fun k => [iI (p k), iI (q k)]] = AV.ro [AV.lst 2 n fun k => [iI (p k), iI (q k)]], (AV.lst 2 n fun k => [iI (p k), iI (q k)]) = AV.lst 2 n fun k => [iI (p k), iI (q k)], (AV.lst 2 (Int.toNat (↑n : Int) - Int.toNat (1 : Int)) fun i => [iI (p (Int.toNat (1 : Int) + i)), iI (q (Int.toNat (1 : Int) + i))]) = AV.lst 2 (Int.toNat (↑n : Int) - Int.toNat (1 : Int)) fun i => [iI (p (Int.toNat (1 : Int) + i)), iI (q (Int.toNat (1 : Int) + i))], (↑(Int.toNat (↑n : Int) - Int.toNat (1 : Int)) : Int) = (↑(Int.toNat (↑n : Int) - Int.toNat (1 : Int)) : Int), (↑k : Int) + (1 : Int) = (↑(k + 1) : Int), k + 1 = k + 1] (Tree.leaf AEx.normal))) (Tree.need [AV.fn (Fn.yield l) [] [] = AV.fn (Fn.yield l) [] [], AV.ro [AV.lst 2 n fun k => [iI (p k), iI (q k)]] = AV.ro [AV.lst 2 n fun k => [iI (p k), iI (q k)]], (AV.lst 2 n fun k => [iI (p k), iI (q k)]) = AV.lst 2 n fun k => [iI (p k), iI (q k)], (AV.lst 2 (Int.toNat (↑n : Int) - Int.toNat (1 : Int)) fun i => [iI (p (Int.toNat (1 : Int) + i)), iI (q (Int.toNat (1 : Int) + i))]) = AV.lst 2 (Int.toNat (↑n : Int) - Int.toNat (1 : Int)) fun i => [iI (p (Int.toNat (1 : Int) + i)), iI (q (Int.toNat (1 : Int) + i))], (↑(Int.toNat (↑n : Int) - Int.toNat (1 : Int)) : Int) = (↑(Int.toNat (↑n : Int) - Int.toNat (1 : Int)) : Int)] (Tree.leaf AEx.ret)))))) (Tree.need [AV.fn (Fn.yield l) [] [] = AV.fn (Fn.yield l) [] [], AV.ro [AV.lst 2 n fun k => [iI (p k), iI (q k)]] = AV.ro [AV.lst 2 n fun k => [iI (p k), iI (q k)]], (AV.lst 2 n fun k => [iI (p k), iI (q k)]) = AV.lst 2 n fun k => [iI (p k), iI (q k)], (AV.lst 2 (Int.toNat (↑n : Int) - Int.toNat (1 : Int)) fun i => [iI (p (Int.toNat (1 : Int) + i)), iI (q (Int.toNat (1 : Int) + i))]) = AV.lst 2 (Int.toNat (↑n : Int) - Int.toNat (1 : Int)) fun i => [iI (p (Int.toNat (1 : Int) + i)), iI (q (Int.toNat (1 : Int) + i))], (↑(Int.toNat (↑n : Int) - Int.toNat (1 : Int)) : Int) = (↑(Int.toNat (↑n : Int) - Int.toNat (1 : Int)) : Int), k = n - 1] (Tree.leaf (AEx.exit 0)))) := by kernel_rfl
    rw [e]
    simp only [T_sp, out_sp, Tree.sat, Option.getD_some] at hQ
    have hQ1 : ∀ E, out_sp l n p q k (.exit 0) = some E → Q (.exit 0, E) := fun E hE => by cases hE; exact hQ.1 trivial
    have hQ2 : ∀ E, out_sp l n p q k .ret = some E → Q (.ret, E) := fun E hE => by cases hE; exact hQ.2
    have t1 : Int.toNat (1 : Int) = 1 := rfl
    have t2 : 1 + k = k + 1 := by omega
    simp only [Tree.sat, allP, true_and, and_true, decide_eq_true_eq, decide_eq_false_iff_not, inI64, Int.toNat_natCast, t1, t2]
    clear e hQ
    repeat' first | with_reducible apply And.intro | with_reducible intro _
    all_goals first | exact True.intro | omega | with_reducible rfl | exact hQ1 _ (by assumption) | exact hQ2 _ (by assumption)

set_option maxRecDepth 100000 in
theorem spans1_seq (n : Nat) (p q : Nat → Int) (pre0 : 1 ≤ n ∧ n ≤ 100000) : SoundSeq Try.prog 89 [.ro [scs n p q]] ((n - 1)) (spV p q) := by
  refine soundSeq_fin (G := []) (L := fun l => [LS_sp l n p q]) (SoundG.nil _) mixed ⟨_, Try.func89, by kernel_rfl, by kernel_rfl⟩ Try.func89 (show Try.f89.body = some (bodyOf Try.f89) by kernel_rfl) (by kernel_rfl) (fun l cx hX => one_loop (fun cj hcj => by
    have e : loopAt (bodyOf Try.f89) 0 = some (.loop B_sp) := by kernel_rfl
    rw [e] at hcj; cases hcj
    exact sp_lc l n p q pre0 hX)) (t := fun l => (Tree.need [(0 : Int) ≤ (1 : Int) ∧ (1 : Int) ≤ (↑n : Int) ∧ (↑n : Int) ≤ (↑n : Int)] (Tree.need [AV.fn (Fn.yield l) [] [] = AV.fn (Fn.yield l) [] [], AV.ro [AV.lst 2 n fun k => [iI (p k), iI (q k)]] = AV.ro [AV.lst 2 n fun k => [iI (p k), iI (q k)]], (AV.lst 2 n fun k => [iI (p k), iI (q k)]) = AV.lst 2 n fun k => [iI (p k), iI (q k)], (AV.lst 2 (Int.toNat (↑n : Int) - Int.toNat (1 : Int)) fun i => [iI (p (Int.toNat (1 : Int) + i)), iI (q (Int.toNat (1 : Int) + i))]) = AV.lst 2 (Int.toNat (↑n : Int) - Int.toNat (1 : Int)) fun i => [iI (p (Int.toNat (1 : Int) + i)), iI (q (Int.toNat (1 : Int) + i))], (↑(Int.toNat (↑n : Int) - Int.toNat (1 : Int)) : Int) = (↑(Int.toNat (↑n : Int) - Int.toNat (1 : Int)) : Int), (0 : Int) = (↑(0 : Nat) : Int), 0 = 0] (Tree.may True (Tree.need [n - 1 = n - 1] (Tree.leaf PUnit.unit)) (Tree.leaf PUnit.unit))))) (fun l => by kernel_rfl) ?_
  intro l
  simp only [Tree.sat, allP, fitP, fitL, valEq, inI64, true_and, and_true, decide_eq_true_eq, decide_eq_false_iff_not, Int.natCast_zero, Int.toNat_natCast]
  repeat' first | with_reducible apply And.intro | with_reducible intro _
  all_goals first | exact True.intro | omega | with_reducible rfl | assumption

noncomputable def E_bo (n : Nat) (p q : Nat → Int) (y : Int) : St := (some
  {
    σ :=
      [AV.lst (2 : Nat) n fun k => [AV.x (Value.int IntKind.i64 (p k)), AV.x (Value.int IntKind.i64 (q k))],
        AV.x (Value.int IntKind.i64 y), AV.top, AV.ptr (0 : Nat) (0 : Nat), AV.ptr (1 : Nat) (0 : Nat), AV.top, AV.top,
        AV.lst (2 : Nat) n fun k => [AV.x (Value.int IntKind.i64 (p k)), AV.x (Value.int IntKind.i64 (q k))],
        AV.fn (Fn.func (89 : Nat)) []
          [AV.ro
              [AV.lst (2 : Nat) n fun k => [AV.x (Value.int IntKind.i64 (p k)), AV.x (Value.int IntKind.i64 (q k))]]],
        AV.top, AV.top, AV.top, AV.top, AV.top, AV.top, AV.top, AV.top, AV.top, AV.top, AV.top, AV.top, AV.top, AV.top,
        AV.top, AV.top, AV.top, AV.top, AV.top, AV.top, AV.top, AV.top, AV.top, AV.top, AV.top],
    m :=
      [((1 : Nat), Res.cells (3 : Nat) [AV.x (Value.int IntKind.i64 (0 : Int))]),
        ((0 : Nat), Res.cells (3 : Nat) [AV.x (Value.int IntKind.i64 y)])],
    nx := (4 : Nat) } : Option St).getD { σ := [], m := [], nx := 0 }
def rfF : Option Code → Operand
  | some (.rangeFunc f _ _ _) => f
  | _ => .const .nilFunc
def rfPs : Option Code → Array Nat
  | some (.rangeFunc _ ps _ _) => ps
  | _ => #[]
def rfAs : Option Code → Code
  | some (.rangeFunc _ _ a _) => a
  | _ => .skip
def rfBd : Option Code → Code
  | some (.rangeFunc _ _ _ b) => b
  | _ => .skip
noncomputable def A_bo : Code := rfAs (loopAt (bodyOf Try.f62) 0)
noncomputable def B_bo : Code := rfBd (loopAt (bodyOf Try.f62) 0)
noncomputable def inv_bo (n : Nat) (p q : Nat → Int) (y : Int) (k : Nat) : St := { σ := ovrS [] (E_bo n p q y).σ, m := (E_bo n p q y).m, nx := (E_bo n p q y).nx }
noncomputable def out_bo (n : Nat) (p q : Nat → Int) (y : Int) (k : Nat) : AEx → Option St := fun ex => match ex with
  | .ret => some { σ := ovrS [] (E_bo n p q y).σ, m := [(1, .cells 3 [i (boilI n p q y)])], nx := (E_bo n p q y).nx }
  | _ => none
noncomputable def T_bo (n : Nat) (p q : Nat → Int) (y : Int) : CT := .leaf (.ret, ( out_bo n p q y 0 .ret).getD (E_bo n p q y))
noncomputable def LS_bo (n : Nat) (p q : Nat → Int) (y : Int) : LSpec := normSp [] (sumL (inv_bo n p q y (0)) (T_bo n p q y))
set_option maxRecDepth 100000 in
theorem bo_ln (n : Nat) (p q : Nat → Int) (y : Int) (pre0 : 2 ≤ n ∧ n ≤ 100000) (pre1 : tabB n p q = true) (pre2 : -100000 ≤ y ∧ y ≤ p (n - 1)) : LSoundN Try.prog (.rangeFunc (rfF (loopAt (bodyOf Try.f62) 0)) (rfPs (loopAt (bodyOf Try.f62) 0)) A_bo B_bo) (LS_bo n p q y) := by
  refine range_rounds [] (G := []) (X := { R := [(80, S_spans)], H := [] }) (L := []) (SoundG.nil _) (SoundX.of (SoundRL.cons spans_okR (SoundRL.nil _)) (SoundHL.nil _)) mixed noLoops (V := Nat) (inv_bo n p q y) (fun k => k ≤ n - 1 ∧ ∀ j, j < k → decide (y ≤ p (j + 1)) = false) (fun k => k) (out_bo n p q y) (x0 := 0) ⟨by omega, fun j hj => by omega⟩ rfl ?_ ?_ ?_ ?_ (g := 89) (caps := [.ro [scs n p q]]) (by kernel_rfl) (by kernel_rfl) (spans1_seq n p q (by omega)) (fun _ => rfl) ?_
  · rintro k
    kernel_rfl
  · rintro k y E h
    unfold out_bo at h
    split at h
    · cases h; kernel_rfl
    · cases h
  · rintro k
    rfl
  · rintro k y E h
    unfold out_bo at h
    split at h
    · cases h; rfl
    · cases h
  · rintro Q hQ k hx
    refine ⟨fun hlt => ⟨(k + 1), rfl, ?_⟩, fun hend => ?_⟩
    · have e : roundR Try.prog [] { R := [(80, S_spans)], H := [] } [] [] (rfPs (loopAt (bodyOf Try.f62) 0)).toList ((spV p q) (k)) A_bo B_bo (inv_bo n p q y k) (inv_bo n p q y ((k + 1))) (out_bo n p q y k) = (Tree.branch (decide (y ≤ p (k + 1))) (Tree.need [inI64 (q (k + 1) - q k)] (Tree.need [inI64 (y - p k)] (Tree.need [inI64 ((q (k + 1) - q k) * (y - p k))] (Tree.need [inI64 (p (k + 1) - p k)] (Tree.need [p (k + 1) - p k ≠ (0 : Int), inI64 (Int.tdiv ((q (k + 1) - q k) * (y - p k)) (p (k + 1) - p k))] (Tree.need [inI64 (q k + Int.tdiv ((q (k + 1) - q k) * (y - p k)) (p (k + 1) - p k))] (Tree.need [(AV.lst 2 n fun k => [iI (p k), iI (q k)]) = AV.lst 2 n fun k => [iI (p k), iI (q k)], y = y, AV.ptr 0 0 = AV.ptr 0 0, AV.ptr 1 0 = AV.ptr 1 0, (AV.lst 2 n fun k => [iI (p k), iI (q k)]) = AV.lst 2 n fun k => [iI (p k), iI (q k)], AV.fn (Fn.func 89) [] [AV.ro [AV.lst 2 n fun k => [iI (p k), iI (q k)]]] = AV.fn (Fn.func 89) [] [AV.ro [AV.lst 2 n fun k => [iI (p k), iI (q k)]]], q k + Int.tdiv ((q (k + 1) - q k) * (y - p k)) (p (k + 1) - p k) = boilI n p q y] (Tree.leaf AEx.ret)))))))) (Tree.need [(AV.lst 2 n fun k => [iI (p k), iI (q k)]) = AV.lst 2 n fun k => [iI (p k), iI (q k)], y = y, AV.ptr 0 0 = AV.ptr 0 0, AV.ptr 1 0 = AV.ptr 1 0, (AV.lst 2 n fun k => [iI (p k), iI (q k)]) = AV.lst 2 n fun k => [iI (p k), iI (q k)], AV.fn (Fn.func 89) [] [AV.ro [AV.lst 2 n fun k => [iI (p k), iI (q k)]]] = AV.fn (Fn.func 89) [] [AV.ro [AV.lst 2 n fun k => [iI (p k), iI (q k)]]], (0 : Int) = (0 : Int), y = y] (Tree.leaf AEx.normal))) := by kernel_rfl
      rw [e]
      simp only [T_bo, out_bo, Tree.sat, Option.getD_some] at hQ
      have hQ2 : ∀ E, out_bo n p q y k .ret = some E → Q (.ret, E) := fun E hE => by cases hE; exact hQ
      simp only [Tree.sat, allP, true_and, and_true, decide_eq_true_eq, decide_eq_false_iff_not, inI64]
      clear e hQ
      have sl := tab_step pre1 (show n - 1 < n by omega)
      have s0 := tab_step pre1 (show k < n by omega)
      have s1 := tab_step pre1 (show k + 1 < n by omega)
      simp only [Nat.add_sub_cancel] at s1
      have m := mul_bd (x := q (k + 1) - q k) (y := y - p k) (X := 2000) (Y := 200000) (by omega) (by omega)
      have dv : (((q (k + 1) - q k) * (y - p k)).tdiv (p (k + 1) - p k)).natAbs ≤ ((q (k + 1) - q k) * (y - p k)).natAbs := by
        rw [Int.natAbs_tdiv]
        exact Nat.div_le_self _ _
      refine ⟨fun h => ?_, fun h => ?_⟩
      · have hf : segI n p y = k := fstI_eq hlt (by simpa using h) hx.2
        have hbo : boilI n p q y = q k + ((q (k + 1) - q k) * (y - p k)).tdiv (p (k + 1) - p k) := by unfold boilI; rw [hf]; rfl
        rw [hbo]
        repeat' first | with_reducible apply And.intro | with_reducible intro _
        all_goals first | exact True.intro | omega | with_reducible rfl | exact hQ2 _ (by assumption)
      · refine ⟨by omega, fun j hj => ?_⟩
        rcases (show j < k ∨ j = k by omega) with h1 | rfl
        · have := hx.2 j h1
          simpa using this
        · exact h
    · exfalso
      have := hx.2 (n - 2) (by omega)
      rw [show n - 2 + 1 = n - 1 by omega] at this
      simp at this
      omega

set_option maxRecDepth 100000 in
theorem boil_at (n : Nat) (p q : Nat → Int) (y : Int) (pre0 : 2 ≤ n ∧ n ≤ 100000) (pre1 : tabB n p q = true) (pre2 : -100000 ≤ y ∧ y ≤ p (n - 1)) : SoundAt Try.prog 62 [scs n p q, i y] (i (boilI n p q y)) := by
  refine soundAt_finX (G := []) (X := { R := [(80, S_spans)], H := [] }) (L := [LS_bo n p q y]) (SoundG.nil _) (SoundX.of (SoundRL.cons spans_okR (SoundRL.nil _)) (SoundHL.nil _)) mixed Try.func62 (show Try.f62.body = some (bodyOf Try.f62) by kernel_rfl) (one_loop (fun cj hcj => by
    have e : loopAt (bodyOf Try.f62) 0 = some (.rangeFunc (rfF (loopAt (bodyOf Try.f62) 0)) (rfPs (loopAt (bodyOf Try.f62) 0)) A_bo B_bo) := by kernel_rfl
    rw [e] at hcj; cases hcj
    exact bo_ln n p q y pre0 pre1 pre2)) (t := (Tree.need [(AV.lst 2 n fun k => [iI (p k), iI (q k)]) = AV.lst 2 n fun k => [iI (p k), iI (q k)], y = y, AV.ptr 0 0 = AV.ptr 0 0, AV.ptr 1 0 = AV.ptr 1 0, (AV.lst 2 n fun k => [iI (p k), iI (q k)]) = AV.lst 2 n fun k => [iI (p k), iI (q k)], AV.fn (Fn.func 89) [] [AV.ro [AV.lst 2 n fun k => [iI (p k), iI (q k)]]] = AV.fn (Fn.func 89) [] [AV.ro [AV.lst 2 n fun k => [iI (p k), iI (q k)]]], (0 : Int) = (0 : Int), y = y] (Tree.leaf (RV.x (Value.int IntKind.i64 (boilI n p q y)))))) (by kernel_rfl) ?_
  simp only [Tree.sat, allP, fitP, fitL, valEq, inI64, true_and, and_true]
  all_goals first | omega | grind


def S_boil : Sx.Spec := fun l => match l with
  | [.lst 2 n f, .x (.int .i64 y)] => some ([isRec 2 n f, 2 ≤ n ∧ n ≤ 100000, tabB n (col 0 f) (col 1 f) = true, -100000 ≤ y ∧ y ≤ col 0 f (n - 1)], i (boilI n (col 0 f) (col 1 f) y))
  | _ => none


theorem boil_ok : SoundSpec Try.prog 62 S_boil := by
  refine ⟨⟨_, Try.func62, by kernel_rfl, by kernel_rfl⟩, ?_⟩
  intro avs ns res h hn
  unfold S_boil at h
  split at h
  · rename_i n f y
    cases h
    have hr : isRec 2 n f := hn _ (by simp)
    exact (boil_at n (col 0 f) (col 1 f) y (hn _ (by simp)) (hn _ (by simp)) (hn _ (by simp))).same (.cons (.lst 2 n _ _ hr) (.cons (.refl _) .nil))
  · cases h


/-- The error of Boils; of Corrected. -/
def blE (n : Nat) (p q : Nat → Int) (lo hi : Int) : Int := if tbE n p q = 0 then (if insB (p 0) lo hi (p (n - 1)) then 0 else 2) else tbE n p q
def blLo (n : Nat) (p q : Nat → Int) (lo hi : Int) : Int := if blE n p q lo hi = 0 then boilI n p q lo else 0
def blHi (n : Nat) (p q : Nat → Int) (lo hi : Int) : Int := if blE n p q lo hi = 0 then boilI n p q hi else 0
theorem tbE_ok {n : Nat} {p q : Nat → Int} (h : tbE n p q = 0) : 2 ≤ n ∧ n ≤ 8 ∧ tabB n p q = true := by
  unfold tbE at h
  split at h
  · omega
  · split at h
    · omega
    · split at h
      · rename_i h3; exact ⟨by omega, by omega, h3⟩
      · omega

set_option maxRecDepth 100000 in
theorem Boils_at (n : Nat) (p q : Nat → Int) (lo hi : Int) (pre0 : n ≤ 100000) : SoundAt Try.prog 26 [scs n p q, .agg [i lo, i hi]] (.tup [.agg [i (blLo n p q lo hi), i (blHi n p q lo hi)], i (blE n p q lo hi)]) := by
  refine soundAt_fin (G := [(60, S_table), (61, S_inside), (62, S_boil)]) (L := []) (SoundG.cons table_ok (SoundG.cons inside_ok (SoundG.cons boil_ok (SoundG.nil _)))) mixed Try.func26 (show Try.f26.body = some (bodyOf Try.f26) by kernel_rfl) noLoops (t := (Tree.need [isRec 2 n fun k => [i (p k), i (q k)], n ≤ 100000] (Tree.branch (tbE n (col 0 fun k => [i (p k), i (q k)]) (col 1 fun k => [i (p k), i (q k)]) != (0 : Int)) (Tree.leaf (RV.tup [RV.agg [RV.x (Value.int IntKind.i64 (0 : Int)), RV.x (Value.int IntKind.i64 (0 : Int))], RV.x (Value.int IntKind.i64 (tbE n (col 0 fun k => [i (p k), i (q k)]) (col 1 fun k => [i (p k), i (q k)])))])) (Tree.need [(0 : Int) ≤ (0 : Int) ∧ (0 : Int) < (↑n : Int)] (Tree.need [inI64 ((↑n : Int) - (1 : Int))] (Tree.need [(0 : Int) ≤ (↑n : Int) - (1 : Int) ∧ (↑n : Int) - (1 : Int) < (↑n : Int)] (Tree.branch (!insB (p (Int.toNat (0 : Int))) lo hi (p (Int.toNat ((↑n : Int) - (1 : Int))))) (Tree.leaf (RV.tup [RV.agg [RV.x (Value.int IntKind.i64 (0 : Int)), RV.x (Value.int IntKind.i64 (0 : Int))], RV.x (Value.int IntKind.i64 (2 : Int))])) (Tree.need [isRec 2 n fun k => [i (p k), i (q k)], 2 ≤ n ∧ n ≤ 100000, tabB n (col 0 fun k => [i (p k), i (q k)]) (col 1 fun k => [i (p k), i (q k)]) = true, (-100000 : Int) ≤ lo ∧ lo ≤ col 0 (fun k => [i (p k), i (q k)]) (n - 1)] (Tree.need [isRec 2 n fun k => [i (p k), i (q k)], 2 ≤ n ∧ n ≤ 100000, tabB n (col 0 fun k => [i (p k), i (q k)]) (col 1 fun k => [i (p k), i (q k)]) = true, (-100000 : Int) ≤ hi ∧ hi ≤ col 0 (fun k => [i (p k), i (q k)]) (n - 1)] (Tree.leaf (RV.tup [RV.agg [RV.x (Value.int IntKind.i64 (boilI n (col 0 fun k => [i (p k), i (q k)]) (col 1 fun k => [i (p k), i (q k)]) lo)), RV.x (Value.int IntKind.i64 (boilI n (col 0 fun k => [i (p k), i (q k)]) (col 1 fun k => [i (p k), i (q k)]) hi))], RV.x (Value.int IntKind.i64 (0 : Int))]))))))))))) (by kernel_rfl) ?_
  simp only [Tree.sat, allP, fitP, fitL, valEq, true_and, and_true, col20, col21, inI64, show Int.toNat (0 : Int) = 0 from rfl]
  refine ⟨⟨isRec2 n p q, pre0⟩, fun h => ?_, fun h => ?_⟩
  · have h' : tbE n p q ≠ 0 := by simpa using h
    simp [blLo, blHi, blE, h']
  · have h' : tbE n p q = 0 := by simpa using h
    obtain ⟨t1, t2, t3⟩ := tbE_ok h'
    have e1 : Int.toNat ((n : Int) - 1) = n - 1 := by omega
    have s0 := tab_step t3 (show 0 < n by omega)
    simp only [e1]
    refine ⟨by omega, by omega, by omega, fun h2 => ?_, fun h2 => ?_⟩
    · have h2' : insB (p 0) lo hi (p (n - 1)) = false := by simpa using h2
      simp [blLo, blHi, blE, h', h2']
    · have h2' : insB (p 0) lo hi (p (n - 1)) = true := by simpa using h2
      have b := (insB_iff _ _ _ _).1 h2'
      refine ⟨⟨isRec2 n p q, by omega, t3, by omega⟩, ⟨isRec2 n p q, by omega, t3, by omega⟩, ?_⟩
      simp [blLo, blHi, blE, h', h2']


def S_Boils : Sx.Spec := fun l => match l with
  | [.lst 2 n f, .agg [.x (.int .i64 lo), .x (.int .i64 hi)]] => some ([isRec 2 n f, n ≤ 100000], .tup [.agg [i (blLo n (col 0 f) (col 1 f) lo hi), i (blHi n (col 0 f) (col 1 f) lo hi)], i (blE n (col 0 f) (col 1 f) lo hi)])
  | _ => none
def coE (n : Nat) (p q : Nat → Int) (a b u v lo hi : Int) : Int := if tbE n p q = 3 then 3 else if tbE n p q = 0 ∧ scB a b = true then (if insB (-1000000) lo hi 1000000 then blE n p q u v else 2) else 1
def coLo (n : Nat) (p q : Nat → Int) (a b u v lo hi : Int) : Int := if coE n p q a b u v lo hi = 0 then crLo a b (boilI n p q u) (boilI n p q v) lo hi else 0
def coHi (n : Nat) (p q : Nat → Int) (a b u v lo hi : Int) : Int := if coE n p q a b u v lo hi = 0 then crHi a b (boilI n p q u) (boilI n p q v) lo hi else 0
theorem blE_ok {n : Nat} {p q : Nat → Int} {lo hi : Int} (h : blE n p q lo hi = 0) : 2 ≤ n ∧ n ≤ 8 ∧ tabB n p q = true ∧ p 0 ≤ lo ∧ lo ≤ hi ∧ hi ≤ p (n - 1) := by
  unfold blE at h
  split at h
  · rename_i h1
    obtain ⟨t1, t2, t3⟩ := tbE_ok h1
    split at h
    · rename_i h2
      have := (insB_iff _ _ _ _).1 h2
      exact ⟨t1, t2, t3, this⟩
    · omega
  · contradiction


theorem Boils_ok : SoundSpec Try.prog 26 S_Boils := by
  refine ⟨⟨_, Try.func26, by kernel_rfl, by kernel_rfl⟩, ?_⟩
  intro avs ns res h hn
  unfold S_Boils at h
  split at h
  · rename_i n f lo hi
    cases h
    have hr : isRec 2 n f := hn _ (by simp)
    exact (Boils_at n (col 0 f) (col 1 f) lo hi (hn _ (by simp))).same (.cons (.lst 2 n _ _ hr) (.cons (.refl _) .nil))
  · cases h

set_option maxRecDepth 100000 in
theorem Corrected_at (a b : Int) (n : Nat) (p q : Nat → Int) (u v lo hi : Int) (pre0 : n ≤ 100000) : SoundAt Try.prog 28 [.agg [i a, i b], scs n p q, .agg [i u, i v], .agg [i lo, i hi]] (.tup [.agg [i (coLo n p q a b u v lo hi), i (coHi n p q a b u v lo hi)], i (coE n p q a b u v lo hi)]) := by
  refine soundAt_fin (G := [(60, S_table), (53, S_valid), (54, S_readings), (26, S_Boils), (63, S_rod), (64, S_heights), (65, S_least), (66, S_greatest), (67, S_pdown), (68, S_pup), (83, S_qdown), (84, S_qup)]) (L := []) (SoundG.cons table_ok (SoundG.cons valid_ok (SoundG.cons readings_ok (SoundG.cons Boils_ok (SoundG.cons rod_ok (SoundG.cons heights_ok (SoundG.cons least_ok (SoundG.cons greatest_ok (SoundG.cons pdown_ok (SoundG.cons pup_ok (SoundG.cons qdown_ok (SoundG.cons qup_ok (SoundG.nil _))))))))))))) mixed Try.func28 (show Try.f28.body = some (bodyOf Try.f28) by kernel_rfl) noLoops (t := (Tree.need [isRec 2 n fun k => [i (p k), i (q k)], n ≤ 100000] (Tree.branch (tbE n (col 0 fun k => [i (p k), i (q k)]) (col 1 fun k => [i (p k), i (q k)]) == (3 : Int)) (Tree.leaf (RV.tup [RV.agg [RV.x (Value.int IntKind.i64 (0 : Int)), RV.x (Value.int IntKind.i64 (0 : Int))], RV.x (Value.int IntKind.i64 (tbE n (col 0 fun k => [i (p k), i (q k)]) (col 1 fun k => [i (p k), i (q k)])))])) (Tree.branch (tbE n (col 0 fun k => [i (p k), i (q k)]) (col 1 fun k => [i (p k), i (q k)]) != (0 : Int)) (Tree.leaf (RV.tup [RV.agg [RV.x (Value.int IntKind.i64 (0 : Int)), RV.x (Value.int IntKind.i64 (0 : Int))], RV.x (Value.int IntKind.i64 (1 : Int))])) (Tree.branch (!scB a b) (Tree.leaf (RV.tup [RV.agg [RV.x (Value.int IntKind.i64 (0 : Int)), RV.x (Value.int IntKind.i64 (0 : Int))], RV.x (Value.int IntKind.i64 (1 : Int))])) (Tree.branch (!insB (-1000000 : Int) lo hi (1000000 : Int)) (Tree.leaf (RV.tup [RV.agg [RV.x (Value.int IntKind.i64 (0 : Int)), RV.x (Value.int IntKind.i64 (0 : Int))], RV.x (Value.int IntKind.i64 (2 : Int))])) (Tree.need [isRec 2 n fun k => [i (p k), i (q k)], n ≤ 100000] (Tree.branch (blE n (col 0 fun k => [i (p k), i (q k)]) (col 1 fun k => [i (p k), i (q k)]) u v != (0 : Int)) (Tree.leaf (RV.tup [RV.agg [RV.x (Value.int IntKind.i64 (0 : Int)), RV.x (Value.int IntKind.i64 (0 : Int))], RV.x (Value.int IntKind.i64 (blE n (col 0 fun k => [i (p k), i (q k)]) (col 1 fun k => [i (p k), i (q k)]) u v))])) (Tree.need [(-1000 : Int) ≤ a ∧ a ≤ (1000 : Int) ∧ (-1000 : Int) ≤ b ∧ b ≤ (1000 : Int)] (Tree.need [(-1000 : Int) ≤ a ∧ a ≤ (1000 : Int) ∧ (-1000 : Int) ≤ b ∧ b ≤ (1000 : Int) ∧ a ≠ b, (-100000000 : Int) ≤ lo ∧ lo ≤ hi ∧ hi ≤ (100000000 : Int)] (Tree.need [inI64 (alLo a b lo hi * blLo n (col 0 fun k => [i (p k), i (q k)]) (col 1 fun k => [i (p k), i (q k)]) u v)] (Tree.need [inI64 (alLo a b lo hi * blHi n (col 0 fun k => [i (p k), i (q k)]) (col 1 fun k => [i (p k), i (q k)]) u v)] (Tree.need [inI64 (alHi a b lo hi * blLo n (col 0 fun k => [i (p k), i (q k)]) (col 1 fun k => [i (p k), i (q k)]) u v)] (Tree.need [inI64 (alHi a b lo hi * blHi n (col 0 fun k => [i (p k), i (q k)]) (col 1 fun k => [i (p k), i (q k)]) u v)] (Tree.need [(-4611686018427387904 : Int) ≤ min (alLo a b lo hi * blLo n (col 0 fun k => [i (p k), i (q k)]) (col 1 fun k => [i (p k), i (q k)]) u v) (alLo a b lo hi * blHi n (col 0 fun k => [i (p k), i (q k)]) (col 1 fun k => [i (p k), i (q k)]) u v) ∧ min (alLo a b lo hi * blLo n (col 0 fun k => [i (p k), i (q k)]) (col 1 fun k => [i (p k), i (q k)]) u v) (alLo a b lo hi * blHi n (col 0 fun k => [i (p k), i (q k)]) (col 1 fun k => [i (p k), i (q k)]) u v) ≤ (4611686018427387904 : Int), (1 : Int) ≤ sizeI a b] (Tree.need [(-4611686018427387904 : Int) ≤ max (alHi a b lo hi * blLo n (col 0 fun k => [i (p k), i (q k)]) (col 1 fun k => [i (p k), i (q k)]) u v) (alHi a b lo hi * blHi n (col 0 fun k => [i (p k), i (q k)]) (col 1 fun k => [i (p k), i (q k)]) u v) ∧ max (alHi a b lo hi * blLo n (col 0 fun k => [i (p k), i (q k)]) (col 1 fun k => [i (p k), i (q k)]) u v) (alHi a b lo hi * blHi n (col 0 fun k => [i (p k), i (q k)]) (col 1 fun k => [i (p k), i (q k)]) u v) ≤ (4611686018427387904 : Int), (1 : Int) ≤ sizeI a b] (Tree.leaf (RV.tup [RV.agg [RV.x (Value.int IntKind.i64 (min (alLo a b lo hi * blLo n (col 0 fun k => [i (p k), i (q k)]) (col 1 fun k => [i (p k), i (q k)]) u v) (alLo a b lo hi * blHi n (col 0 fun k => [i (p k), i (q k)]) (col 1 fun k => [i (p k), i (q k)]) u v) / sizeI a b)), RV.x (Value.int IntKind.i64 (ceI (max (alHi a b lo hi * blLo n (col 0 fun k => [i (p k), i (q k)]) (col 1 fun k => [i (p k), i (q k)]) u v) (alHi a b lo hi * blHi n (col 0 fun k => [i (p k), i (q k)]) (col 1 fun k => [i (p k), i (q k)]) u v)) (sizeI a b)))], RV.x (Value.int IntKind.i64 (0 : Int))])))))))))))))))))) (by kernel_rfl) ?_
  simp only [Tree.sat, allP, fitP, fitL, valEq, true_and, and_true, col20, col21, inI64]
  refine ⟨⟨isRec2 n p q, pre0⟩, fun h => ?_, fun h => ⟨fun h1 => ?_, fun h1 => ⟨fun h2 => ?_, fun h2 => ⟨fun h3 => ?_, fun h3 => ⟨⟨isRec2 n p q, pre0⟩, fun h4 => ?_, fun h4 => ?_⟩⟩⟩⟩⟩
  · have h' : tbE n p q = 3 := by simpa using h
    simp [coLo, coHi, coE, h']
  all_goals have h' : tbE n p q ≠ 3 := by simpa using h
  · have h1' : tbE n p q ≠ 0 := by simpa using h1
    simp [coLo, coHi, coE, h', h1']
  all_goals have h1' : tbE n p q = 0 := by simpa using h1
  · have h2' : scB a b = false := by simpa using h2
    simp [coLo, coHi, coE, h', h1', h2']
  all_goals have h2' : scB a b = true := by simpa using h2
  · have h3' : insB (-1000000) lo hi 1000000 = false := by simpa using h3
    simp [coLo, coHi, coE, h1', h2', h3']
  all_goals have h3' : insB (-1000000) lo hi 1000000 = true := by simpa using h3
  · have h4' : blE n p q u v ≠ 0 := by simpa using h4
    simp [coLo, coHi, coE, h1', h2', h3', h4']
  · have h4' : blE n p q u v = 0 := by simpa using h4
    have hc : coE n p q a b u v lo hi = 0 := by simp [coE, h1', h2', h3', h4']
    obtain ⟨t1, t2, t3, t4, t5, t6⟩ := blE_ok h4'
    have b1 := boil_spec t1 t3 (x := u) (by omega)
    have b2 := boil_spec t1 t3 (x := v) (by omega)
    have e1 := scB_bd h2'
    have e2 := (insB_iff _ _ _ _).1 h3'
    have s1 := tab_step t3 (show n - 1 < n by omega)
    have s0 := tab_step t3 (show 0 < n by omega)
    obtain ⟨c1, c2, c3, c4, c5⟩ := cr_bd (u := boilI n p q u) (v := boilI n p q v) e1 (by omega) e2
    simp only [blLo, blHi, h4', if_true, coLo, coHi, hc]
    have f1 : min (alLo a b lo hi * boilI n p q u) (alLo a b lo hi * boilI n p q v) / sizeI a b = crLo a b (boilI n p q u) (boilI n p q v) lo hi := rfl
    have f2 : ceI (max (alHi a b lo hi * boilI n p q u) (alHi a b lo hi * boilI n p q v)) (sizeI a b) = crHi a b (boilI n p q u) (boilI n p q v) lo hi := rfl
    simp only [f1, f2]
    repeat' first | with_reducible apply And.intro | with_reducible intro _
    all_goals first | exact True.intro | omega | with_reducible rfl


def S_Corrected : Sx.Spec := fun l => match l with
  | [.agg [.x (.int .i64 a), .x (.int .i64 b)], .lst 2 n f, .agg [.x (.int .i64 u), .x (.int .i64 v)], .agg [.x (.int .i64 lo), .x (.int .i64 hi)]] => some ([isRec 2 n f, n ≤ 100000], .tup [.agg [i (coLo n (col 0 f) (col 1 f) a b u v lo hi), i (coHi n (col 0 f) (col 1 f) a b u v lo hi)], i (coE n (col 0 f) (col 1 f) a b u v lo hi)])
  | _ => none


theorem Corrected_ok : SoundSpec Try.prog 28 S_Corrected := by
  refine ⟨⟨_, Try.func28, by kernel_rfl, by kernel_rfl⟩, ?_⟩
  intro avs ns res h hn
  unfold S_Corrected at h
  split at h
  · rename_i a b n f u v lo hi
    cases h
    have hr : isRec 2 n f := hn _ (by simp)
    exact (Corrected_at a b n (col 0 f) (col 1 f) u v lo hi (hn _ (by simp))).same (.cons (.refl _) (.cons (.lst 2 n _ _ hr) (.cons (.refl _) (.cons (.refl _) .nil))))
  · cases h

end Go.Proofs.Ytchcegfhamngkaa
