/- Contracts of functions of the program, by the engine Sx: what each call comes to. Printed by a program of this repo (sxgen.py). -/
import Derived.Test.YtchcegfhamngkaaPtG
set_option linter.unusedSimpArgs false
set_option linter.unusedVariables false
namespace Go.Proofs.Ytchcegfhamngkaa
open Go Go.Sx Go.RowKit

/-- Is the step k of a table right? -/
def stepB (p q : Nat → Int) (k : Nat) : Bool := bt 1 (p k) 2000 && (bt 1 (q k) 2000 && (decide (k = 0) || (decide (p (k - 1) < p k) && decide (q (k - 1) < q k))))
def tabB (n : Nat) (p q : Nat → Int) : Bool := allI (stepB p q) n

noncomputable def E_tb (n : Nat) (p q : Nat → Int) : St := (some
  {
    σ :=
      [AV.lst (2 : Nat) n fun k => [AV.x (Value.int IntKind.i64 (p k)), AV.x (Value.int IntKind.i64 (q k))], AV.top,
        AV.top, AV.top, AV.top,
        AV.lst (2 : Nat) n fun k => [AV.x (Value.int IntKind.i64 (p k)), AV.x (Value.int IntKind.i64 (q k))],
        AV.x (Value.int IntKind.i64 (↑n : Int)), AV.lit false,
        AV.lst (2 : Nat) n fun k => [AV.x (Value.int IntKind.i64 (p k)), AV.x (Value.int IntKind.i64 (q k))],
        AV.x (Value.int IntKind.i64 (↑n : Int)), AV.lit false,
        AV.lst (2 : Nat) n fun k => [AV.x (Value.int IntKind.i64 (p k)), AV.x (Value.int IntKind.i64 (q k))],
        AV.x (Value.int IntKind.i64 (↑n : Int)), AV.top, AV.top, AV.top, AV.top, AV.top, AV.top, AV.top, AV.top, AV.top,
        AV.top, AV.top, AV.top, AV.top, AV.top, AV.top, AV.top, AV.top, AV.top, AV.top, AV.top, AV.top, AV.top, AV.top,
        AV.top, AV.top, AV.top, AV.top, AV.top, AV.top, AV.top, AV.top, AV.top, AV.top, AV.top, AV.top, AV.top, AV.top,
        AV.top, AV.top, AV.top, AV.top, AV.top],
    m := [], nx := (10 : Nat) } : Option St).getD { σ := [], m := [], nx := 0 }
noncomputable def B_tb : Code := loopBody (loopAt (bodyOf Try.f60) 0)
noncomputable def inv_tb (n : Nat) (p q : Nat → Int) (k : Nat) : St := { σ := ovrS [(13, i k)] (E_tb n p q).σ, m := (E_tb n p q).m, nx := (E_tb n p q).nx }
noncomputable def out_tb (n : Nat) (p q : Nat → Int) (k : Nat) : AEx → Option St := fun ex => match ex with
  | .exit 0 => some { σ := ovrS [] (E_tb n p q).σ, m := (E_tb n p q).m, nx := (E_tb n p q).nx }
  | .ret => some { σ := ovrS [(2, i 1)] (E_tb n p q).σ, m := (E_tb n p q).m, nx := (E_tb n p q).nx }
  | _ => none
noncomputable def T_tb (n : Nat) (p q : Nat → Int) : CT := .branch (tabB n p q) (.leaf (.exit 0, ( out_tb n p q 0 (.exit 0)).getD (E_tb n p q))) (.leaf (.ret, ( out_tb n p q 0 .ret).getD (E_tb n p q)))
noncomputable def LS_tb (n : Nat) (p q : Nat → Int) : LSpec := (sumL (inv_tb n p q (0)) (T_tb n p q))
set_option maxRecDepth 100000 in
theorem tb_ls (n : Nat) (p q : Nat → Int) (pre0 : n ≤ 100000) : LSound Try.prog (.loop B_tb) (LS_tb n p q) := by
  refine loop_rounds (G := [(79, S_within)]) (L := []) (SoundG.cons within_ok (SoundG.nil _)) mixed noLoops (X := Nat) (inv_tb n p q) (fun k => k ≤ n ∧ ∀ j, j < k → stepB p q j = true) (fun k => n - k) (out_tb n p q) (x0 := 0) ⟨by omega, fun j hj => by omega⟩ ?_ ?_ ?_
  · rintro k
    kernel_rfl
  · rintro k y E h
    unfold out_tb at h
    split at h
    · cases h; kernel_rfl
    · cases h; kernel_rfl
    · cases h
  · rintro Q hQ k hx
    refine ⟨(k + 1), ?_⟩
    have e : roundT Try.prog [(79, S_within)] [] B_tb (inv_tb n p q k) (inv_tb n p q ((k + 1))) (out_tb n p q k) = (Tree.branch (decide ((↑k : Int) < (↑n : Int))) (Tree.need [(0 : Int) ≤ (↑k : Int) ∧ (↑k : Int) < (↑n : Int)] (Tree.branch (!bt (1 : Int) (p (Int.toNat (↑k : Int))) (2000 : Int)) (Tree.need [(AV.lst 2 n fun k => [iI (p k), iI (q k)]) = AV.lst 2 n fun k => [iI (p k), iI (q k)], (1 : Int) = (1 : Int), (AV.lst 2 n fun k => [iI (p k), iI (q k)]) = AV.lst 2 n fun k => [iI (p k), iI (q k)], (↑n : Int) = (↑n : Int), AV.lit false = AV.lit false, (AV.lst 2 n fun k => [iI (p k), iI (q k)]) = AV.lst 2 n fun k => [iI (p k), iI (q k)], (↑n : Int) = (↑n : Int), AV.lit false = AV.lit false, (AV.lst 2 n fun k => [iI (p k), iI (q k)]) = AV.lst 2 n fun k => [iI (p k), iI (q k)], (↑n : Int) = (↑n : Int)] (Tree.leaf AEx.ret)) (Tree.branch (!bt (1 : Int) (q (Int.toNat (↑k : Int))) (2000 : Int)) (Tree.need [(AV.lst 2 n fun k => [iI (p k), iI (q k)]) = AV.lst 2 n fun k => [iI (p k), iI (q k)], (1 : Int) = (1 : Int), (AV.lst 2 n fun k => [iI (p k), iI (q k)]) = AV.lst 2 n fun k => [iI (p k), iI (q k)], (↑n : Int) = (↑n : Int), AV.lit false = AV.lit false, (AV.lst 2 n fun k => [iI (p k), iI (q k)]) = AV.lst 2 n fun k => [iI (p k), iI (q k)], (↑n : Int) = (↑n : Int), AV.lit false = AV.lit false, (AV.lst 2 n fun k => [iI (p k), iI (q k)]) = AV.lst 2 n fun k => [iI (p k), iI (q k)], (↑n : Int) = (↑n : Int)] (Tree.leaf AEx.ret)) (Tree.branch (decide ((↑k : Int) > (0 : Int))) (Tree.need [inI64 ((↑k : Int) - (1 : Int))] (Tree.need [(0 : Int) ≤ (↑k : Int) - (1 : Int) ∧ (↑k : Int) - (1 : Int) < (↑n : Int)] (Tree.branch (decide (p (Int.toNat (↑k : Int)) ≤ p (Int.toNat ((↑k : Int) - (1 : Int))))) (Tree.need [(AV.lst 2 n fun k => [iI (p k), iI (q k)]) = AV.lst 2 n fun k => [iI (p k), iI (q k)], (1 : Int) = (1 : Int), (AV.lst 2 n fun k => [iI (p k), iI (q k)]) = AV.lst 2 n fun k => [iI (p k), iI (q k)], (↑n : Int) = (↑n : Int), AV.lit false = AV.lit false, (AV.lst 2 n fun k => [iI (p k), iI (q k)]) = AV.lst 2 n fun k => [iI (p k), iI (q k)], (↑n : Int) = (↑n : Int), AV.lit false = AV.lit false, (AV.lst 2 n fun k => [iI (p k), iI (q k)]) = AV.lst 2 n fun k => [iI (p k), iI (q k)], (↑n : Int) = (↑n : Int)] (Tree.leaf AEx.ret)) (Tree.need [inI64 ((↑k : Int) - (1 : Int))] (Tree.need [(0 : Int) ≤ (↑k : Int) - (1 : Int) ∧ (↑k : Int) - (1 : Int) < (↑n : Int)] (Tree.branch (decide (q (Int.toNat (↑k : Int)) ≤ q (Int.toNat ((↑k : Int) - (1 : Int))))) (Tree.need [(AV.lst 2 n fun k => [iI (p k), iI (q k)]) = AV.lst 2 n fun k => [iI (p k), iI (q k)], (1 : Int) = (1 : Int), (AV.lst 2 n fun k => [iI (p k), iI (q k)]) = AV.lst 2 n fun k => [iI (p k), iI (q k)], (↑n : Int) = (↑n : Int), AV.lit false = AV.lit false, (AV.lst 2 n fun k => [iI (p k), iI (q k)]) = AV.lst 2 n fun k => [iI (p k), iI (q k)], (↑n : Int) = (↑n : Int), AV.lit false = AV.lit false, (AV.lst 2 n fun k => [iI (p k), iI (q k)]) = AV.lst 2 n fun k => [iI (p k), iI (q k)], (↑n : Int) = (↑n : Int)] (Tree.leaf AEx.ret)) (Tree.need [inI64 ((↑k : Int) + (1 : Int))] (Tree.need [(AV.lst 2 n fun k => [iI (p k), iI (q k)]) = AV.lst 2 n fun k => [iI (p k), iI (q k)], (AV.lst 2 n fun k => [iI (p k), iI (q k)]) = AV.lst 2 n fun k => [iI (p k), iI (q k)], (↑n : Int) = (↑n : Int), AV.lit false = AV.lit false, (AV.lst 2 n fun k => [iI (p k), iI (q k)]) = AV.lst 2 n fun k => [iI (p k), iI (q k)], (↑n : Int) = (↑n : Int), AV.lit false = AV.lit false, (AV.lst 2 n fun k => [iI (p k), iI (q k)]) = AV.lst 2 n fun k => [iI (p k), iI (q k)], (↑n : Int) = (↑n : Int), (↑k : Int) + (1 : Int) = (↑(k + 1) : Int)] (Tree.leaf AEx.normal))))))))) (Tree.need [inI64 ((↑k : Int) + (1 : Int))] (Tree.need [(AV.lst 2 n fun k => [iI (p k), iI (q k)]) = AV.lst 2 n fun k => [iI (p k), iI (q k)], (AV.lst 2 n fun k => [iI (p k), iI (q k)]) = AV.lst 2 n fun k => [iI (p k), iI (q k)], (↑n : Int) = (↑n : Int), AV.lit false = AV.lit false, (AV.lst 2 n fun k => [iI (p k), iI (q k)]) = AV.lst 2 n fun k => [iI (p k), iI (q k)], (↑n : Int) = (↑n : Int), AV.lit false = AV.lit false, (AV.lst 2 n fun k => [iI (p k), iI (q k)]) = AV.lst 2 n fun k => [iI (p k), iI (q k)], (↑n : Int) = (↑n : Int), (↑k : Int) + (1 : Int) = (↑(k + 1) : Int)] (Tree.leaf AEx.normal))))))) (Tree.need [(AV.lst 2 n fun k => [iI (p k), iI (q k)]) = AV.lst 2 n fun k => [iI (p k), iI (q k)], (AV.lst 2 n fun k => [iI (p k), iI (q k)]) = AV.lst 2 n fun k => [iI (p k), iI (q k)], (↑n : Int) = (↑n : Int), AV.lit false = AV.lit false, (AV.lst 2 n fun k => [iI (p k), iI (q k)]) = AV.lst 2 n fun k => [iI (p k), iI (q k)], (↑n : Int) = (↑n : Int), AV.lit false = AV.lit false, (AV.lst 2 n fun k => [iI (p k), iI (q k)]) = AV.lst 2 n fun k => [iI (p k), iI (q k)], (↑n : Int) = (↑n : Int)] (Tree.leaf (AEx.exit 0)))) := by kernel_rfl
    rw [e]
    simp only [T_tb, out_tb, Tree.sat, Option.getD_some] at hQ
    have hbad : k < n → stepB p q k = false → tabB n p q = false := by
      intro h1 h2
      rw [← Bool.not_eq_true]
      intro h3
      have := allI_iff.1 h3 k h1
      rw [h2] at this
      cases this
    have hgood : stepB p q k = true → ∀ j, j < k + 1 → stepB p q j = true := by
      intro h1 j hj
      rcases (show j < k ∨ j = k by omega) with h | rfl
      · exact hx.2 j h
      · exact h1
    have hend : ¬ k < n → tabB n p q = true := fun h => allI_iff.2 (fun j hj => hx.2 j (by omega))
    have hQ1 : ∀ E, out_tb n p q k .ret = some E → tabB n p q = false → Q (.ret, E) := by
      intro E hE hf
      cases hE
      exact hQ.2 hf
    have hQ2 : ∀ E, out_tb n p q k (.exit 0) = some E → tabB n p q = true → Q (.exit 0, E) := by
      intro E hE hf
      cases hE
      exact hQ.1 hf
    have t1 : ((k : Int) - 1).toNat = k - 1 := by omega
    have hsb : stepB p q k = (bt 1 (p k) 2000 && (bt 1 (q k) 2000 && (decide (k = 0) || (decide (p (k - 1) < p k) && decide (q (k - 1) < q k))))) := rfl
    simp only [Tree.sat, allP, true_and, and_true, decide_eq_true_eq, decide_eq_false_iff_not, inI64, Int.toNat_natCast, t1]
    clear e
    repeat' first | with_reducible apply And.intro | with_reducible intro _
    all_goals first | exact True.intro | omega | exact hQ1 _ (by assumption) (hbad (by omega) (by rw [hsb]; grind)) | exact hQ2 _ (by assumption) (hend (by omega)) | exact hgood (by rw [hsb]; grind) _ (by assumption)

noncomputable def E_it (n : Nat) (p q : Nat → Int) : St := (some
  {
    σ :=
      [AV.lst (2 : Nat) n fun k => [AV.x (Value.int IntKind.i64 (p k)), AV.x (Value.int IntKind.i64 (q k))], AV.top,
        AV.top, AV.top, AV.top, AV.top, AV.top, AV.top, AV.top, AV.top, AV.top, AV.top, AV.top, AV.top, AV.top, AV.top,
        AV.top, AV.top, AV.top, AV.top, AV.top, AV.top, AV.top, AV.top, AV.top, AV.top, AV.top, AV.top, AV.top, AV.top,
        AV.top, AV.top, AV.top, AV.top, AV.top, AV.top, AV.top, AV.top, AV.top, AV.top, AV.top, AV.top, AV.top, AV.top,
        AV.top, AV.top, AV.top, AV.top, AV.top, AV.top, AV.top, AV.top, AV.top, AV.top, AV.top, AV.top, AV.top, AV.top,
        AV.top, AV.top, AV.top],
    m := [], nx := (2 : Nat) } : Option St).getD { σ := [], m := [], nx := 0 }
noncomputable def B_it : Code := loopBody (loopAt (bodyOf Try.f29) 0)
noncomputable def inv_it (n : Nat) (p q : Nat → Int) (k : Nat) : St := { σ := ovrS [(3, i k)] (E_it n p q).σ, m := (E_it n p q).m, nx := (E_it n p q).nx }
noncomputable def out_it (n : Nat) (p q : Nat → Int) (k : Nat) : AEx → Option St := fun ex => match ex with
  | .exit 0 => some { σ := ovrS [] (E_it n p q).σ, m := (E_it n p q).m, nx := (E_it n p q).nx }
  | .ret => some { σ := ovrS [(2, .lit false)] (E_it n p q).σ, m := (E_it n p q).m, nx := (E_it n p q).nx }
  | _ => none
noncomputable def T_it (n : Nat) (p q : Nat → Int) : CT := .branch (tabB n p q) (.leaf (.exit 0, ( out_it n p q 0 (.exit 0)).getD (E_it n p q))) (.leaf (.ret, ( out_it n p q 0 .ret).getD (E_it n p q)))
noncomputable def LS_it (n : Nat) (p q : Nat → Int) : LSpec := (sumL (inv_it n p q (0)) (T_it n p q))
set_option maxRecDepth 100000 in
theorem it_ls (n : Nat) (p q : Nat → Int) (pre0 : n ≤ 100000) : LSound Try.prog (.loop B_it) (LS_it n p q) := by
  refine loop_rounds (G := [(69, S_rIn)]) (L := []) (SoundG.cons rIn_ok (SoundG.nil _)) mixed noLoops (X := Nat) (inv_it n p q) (fun k => k ≤ n ∧ ∀ j, j < k → stepB p q j = true) (fun k => n - k) (out_it n p q) (x0 := 0) ⟨by omega, fun j hj => by omega⟩ ?_ ?_ ?_
  · rintro k
    kernel_rfl
  · rintro k y E h
    unfold out_it at h
    split at h
    · cases h; kernel_rfl
    · cases h; kernel_rfl
    · cases h
  · rintro Q hQ k hx
    refine ⟨(k + 1), ?_⟩
    have e : roundT Try.prog [(69, S_rIn)] [] B_it (inv_it n p q k) (inv_it n p q ((k + 1))) (out_it n p q k) = (Tree.branch (decide ((↑k : Int) < (↑n : Int))) (Tree.need [(0 : Int) ≤ (↑k : Int) ∧ (↑k : Int) < (↑n : Int)] (Tree.branch (!bt (1 : Int) (p (Int.toNat (↑k : Int))) (2000 : Int)) (Tree.need [(AV.lst 2 n fun k => [iI (p k), iI (q k)]) = AV.lst 2 n fun k => [iI (p k), iI (q k)], AV.lit false = AV.lit false] (Tree.leaf AEx.ret)) (Tree.need [(0 : Int) ≤ (↑k : Int) ∧ (↑k : Int) < (↑n : Int)] (Tree.branch (!bt (1 : Int) (q (Int.toNat (↑k : Int))) (2000 : Int)) (Tree.need [(AV.lst 2 n fun k => [iI (p k), iI (q k)]) = AV.lst 2 n fun k => [iI (p k), iI (q k)], AV.lit false = AV.lit false] (Tree.leaf AEx.ret)) (Tree.branch (decide ((↑k : Int) > (0 : Int))) (Tree.need [(0 : Int) ≤ (↑k : Int) ∧ (↑k : Int) < (↑n : Int)] (Tree.need [inI64 ((↑k : Int) - (1 : Int))] (Tree.need [(0 : Int) ≤ (↑k : Int) - (1 : Int) ∧ (↑k : Int) - (1 : Int) < (↑n : Int)] (Tree.branch (decide (p (Int.toNat (↑k : Int)) ≤ p (Int.toNat ((↑k : Int) - (1 : Int))))) (Tree.need [(AV.lst 2 n fun k => [iI (p k), iI (q k)]) = AV.lst 2 n fun k => [iI (p k), iI (q k)], AV.lit false = AV.lit false] (Tree.leaf AEx.ret)) (Tree.need [(0 : Int) ≤ (↑k : Int) ∧ (↑k : Int) < (↑n : Int)] (Tree.need [inI64 ((↑k : Int) - (1 : Int))] (Tree.need [(0 : Int) ≤ (↑k : Int) - (1 : Int) ∧ (↑k : Int) - (1 : Int) < (↑n : Int)] (Tree.branch (decide (q (Int.toNat (↑k : Int)) ≤ q (Int.toNat ((↑k : Int) - (1 : Int))))) (Tree.need [(AV.lst 2 n fun k => [iI (p k), iI (q k)]) = AV.lst 2 n fun k => [iI (p k), iI (q k)], AV.lit false = AV.lit false] (Tree.leaf AEx.ret)) (Tree.need [inI64 ((↑k : Int) + (1 : Int))] (Tree.need [(AV.lst 2 n fun k => [iI (p k), iI (q k)]) = AV.lst 2 n fun k => [iI (p k), iI (q k)], (↑k : Int) + (1 : Int) = (↑(k + 1) : Int)] (Tree.leaf AEx.normal))))))))))) (Tree.need [inI64 ((↑k : Int) + (1 : Int))] (Tree.need [(AV.lst 2 n fun k => [iI (p k), iI (q k)]) = AV.lst 2 n fun k => [iI (p k), iI (q k)], (↑k : Int) + (1 : Int) = (↑(k + 1) : Int)] (Tree.leaf AEx.normal)))))))) (Tree.need [(AV.lst 2 n fun k => [iI (p k), iI (q k)]) = AV.lst 2 n fun k => [iI (p k), iI (q k)]] (Tree.leaf (AEx.exit 0)))) := by kernel_rfl
    rw [e]
    simp only [T_it, out_it, Tree.sat, Option.getD_some] at hQ
    have hbad : k < n → stepB p q k = false → tabB n p q = false := by
      intro h1 h2
      rw [← Bool.not_eq_true]
      intro h3
      have := allI_iff.1 h3 k h1
      rw [h2] at this
      cases this
    have hgood : stepB p q k = true → ∀ j, j < k + 1 → stepB p q j = true := by
      intro h1 j hj
      rcases (show j < k ∨ j = k by omega) with h | rfl
      · exact hx.2 j h
      · exact h1
    have hend : ¬ k < n → tabB n p q = true := fun h => allI_iff.2 (fun j hj => hx.2 j (by omega))
    have hQ1 : ∀ E, out_it n p q k .ret = some E → tabB n p q = false → Q (.ret, E) := by
      intro E hE hf
      cases hE
      exact hQ.2 hf
    have hQ2 : ∀ E, out_it n p q k (.exit 0) = some E → tabB n p q = true → Q (.exit 0, E) := by
      intro E hE hf
      cases hE
      exact hQ.1 hf
    have t1 : ((k : Int) - 1).toNat = k - 1 := by omega
    have hsb : stepB p q k = (bt 1 (p k) 2000 && (bt 1 (q k) 2000 && (decide (k = 0) || (decide (p (k - 1) < p k) && decide (q (k - 1) < q k))))) := rfl
    simp only [Tree.sat, allP, true_and, and_true, decide_eq_true_eq, decide_eq_false_iff_not, inI64, Int.toNat_natCast, t1]
    clear e
    repeat' first | with_reducible apply And.intro | with_reducible intro _
    all_goals first | exact True.intro | omega | exact hQ1 _ (by assumption) (hbad (by omega) (by rw [hsb]; grind)) | exact hQ2 _ (by assumption) (hend (by omega)) | exact hgood (by rw [hsb]; grind) _ (by assumption)


def tbE (n : Nat) (p q : Nat → Int) : Int := if 8 < n then 3 else if n < 2 then 1 else if tabB n p q then 0 else 1
def itB (n : Nat) (p q : Nat → Int) : Bool := tabB n p q && decide (2 ≤ n)
def S_table : Sx.Spec := fun l => match l with
  | [.lst 2 n f] => some ([isRec 2 n f, n ≤ 100000], i (tbE n (col 0 f) (col 1 f)))
  | _ => none
def S_rIsTable : Sx.Spec := fun l => match l with
  | [.lst 2 n f] => some ([isRec 2 n f, n ≤ 100000], bl (itB n (col 0 f) (col 1 f)))
  | _ => none

set_option maxRecDepth 100000 in
theorem table_at (n : Nat) (p q : Nat → Int) (pre0 : n ≤ 100000) : SoundAt Try.prog 60 [scs n p q] (i (tbE n p q)) := by
  refine soundAt_fin (G := [(79, S_within)]) (L := [LS_tb n p q]) (SoundG.cons within_ok (SoundG.nil _)) mixed Try.func60 (show Try.f60.body = some (bodyOf Try.f60) by kernel_rfl) (one_loop (fun cj hcj => by
    have e : loopAt (bodyOf Try.f60) 0 = some (.loop B_tb) := by kernel_rfl
    rw [e] at hcj; cases hcj
    exact tb_ls n p q pre0)) (t := (Tree.branch (decide ((↑n : Int) > (8 : Int))) (Tree.leaf (RV.x (Value.int IntKind.i64 (3 : Int)))) (Tree.branch (decide ((↑n : Int) < (2 : Int))) (Tree.leaf (RV.x (Value.int IntKind.i64 (1 : Int)))) (Tree.need [(AV.lst 2 n fun k => [iI (p k), iI (q k)]) = AV.lst 2 n fun k => [iI (p k), iI (q k)], (AV.lst 2 n fun k => [iI (p k), iI (q k)]) = AV.lst 2 n fun k => [iI (p k), iI (q k)], (↑n : Int) = (↑n : Int), AV.lit false = AV.lit false, (AV.lst 2 n fun k => [iI (p k), iI (q k)]) = AV.lst 2 n fun k => [iI (p k), iI (q k)], (↑n : Int) = (↑n : Int), AV.lit false = AV.lit false, (AV.lst 2 n fun k => [iI (p k), iI (q k)]) = AV.lst 2 n fun k => [iI (p k), iI (q k)], (↑n : Int) = (↑n : Int), (0 : Int) = (↑(0 : Nat) : Int)] (Tree.branch (tabB n p q) (Tree.leaf (RV.x (Value.int IntKind.i64 (0 : Int)))) (Tree.leaf (RV.x (Value.int IntKind.i64 (1 : Int))))))))) (by kernel_rfl) ?_
  simp only [Tree.sat, allP, fitP, valEq, true_and, and_true, decide_eq_true_eq, decide_eq_false_iff_not, tbE, Int.natCast_zero]
  refine ⟨fun h => ?_, fun h => ⟨fun h2 => ?_, fun h2 => ⟨fun h3 => ?_, fun h3 => ?_⟩⟩⟩
  · simp [show 8 < n by omega]
  · simp [show ¬ 8 < n by omega, show n < 2 by omega]
  · simp [show ¬ 8 < n by omega, show ¬ n < 2 by omega, h3]
  · simp [show ¬ 8 < n by omega, show ¬ n < 2 by omega, h3]

set_option maxRecDepth 100000 in
theorem rIsTable_at (n : Nat) (p q : Nat → Int) (pre0 : n ≤ 100000) : SoundAt Try.prog 29 [scs n p q] (bl (itB n p q)) := by
  refine soundAt_fin (G := [(69, S_rIn)]) (L := [LS_it n p q]) (SoundG.cons rIn_ok (SoundG.nil _)) mixed Try.func29 (show Try.f29.body = some (bodyOf Try.f29) by kernel_rfl) (one_loop (fun cj hcj => by
    have e : loopAt (bodyOf Try.f29) 0 = some (.loop B_it) := by kernel_rfl
    rw [e] at hcj; cases hcj
    exact it_ls n p q pre0)) (t := (Tree.need [(AV.lst 2 n fun k => [iI (p k), iI (q k)]) = AV.lst 2 n fun k => [iI (p k), iI (q k)], (0 : Int) = (↑(0 : Nat) : Int)] (Tree.branch (tabB n p q) (Tree.leaf (RV.x (Value.bool (decide ((↑n : Int) ≥ (2 : Int)))))) (Tree.leaf (RV.x (Value.bool false)))))) (by kernel_rfl) ?_
  simp only [Tree.sat, allP, fitP, valEq, true_and, and_true, itB, Int.natCast_zero]
  refine ⟨fun h => ?_, fun h => ?_⟩
  · rw [h]
    simp only [Bool.true_and, decide_eq_decide]
    omega
  · simp [h]


theorem table_ok : SoundSpec Try.prog 60 S_table := by
  refine ⟨⟨_, Try.func60, by kernel_rfl, by kernel_rfl⟩, ?_⟩
  intro avs ns res h hn
  unfold S_table at h
  split at h
  · rename_i n f
    cases h
    have hr : isRec 2 n f := hn _ (by simp)
    exact (table_at n (col 0 f) (col 1 f) (hn _ (by simp))).same (.cons (.lst 2 n _ _ hr) .nil)
  · cases h


theorem rIsTable_ok : SoundSpec Try.prog 29 S_rIsTable := by
  refine ⟨⟨_, Try.func29, by kernel_rfl, by kernel_rfl⟩, ?_⟩
  intro avs ns res h hn
  unfold S_rIsTable at h
  split at h
  · rename_i n f
    cases h
    have hr : isRec 2 n f := hn _ (by simp)
    exact (rIsTable_at n (col 0 f) (col 1 f) (hn _ (by simp))).same (.cons (.lst 2 n _ _ hr) .nil)
  · cases h


/-- Between which steps a pressure is; where steam is there. -/
def segI (n : Nat) (p : Nat → Int) (x : Int) : Nat := fstI (fun k => decide (x ≤ p (k + 1))) (n - 1)
def boilAt (p q : Nat → Int) (x : Int) (k : Nat) : Int := q k + ((q (k + 1) - q k) * (x - p k)).tdiv (p (k + 1) - p k)
def boilI (n : Nat) (p q : Nat → Int) (x : Int) : Int := boilAt p q x (segI n p x)
theorem tab_step {n : Nat} {p q : Nat → Int} (h : tabB n p q = true) {k : Nat} (hk : k < n) : 1 ≤ p k ∧ p k ≤ 2000 ∧ 1 ≤ q k ∧ q k ≤ 2000 ∧ (k = 0 ∨ p (k - 1) < p k ∧ q (k - 1) < q k) := by
  have := allI_iff.1 h k hk
  simp only [stepB, bt, Bool.and_eq_true, Bool.or_eq_true, decide_eq_true_eq] at this
  omega
theorem tab_mono {n : Nat} {p q : Nat → Int} (h : tabB n p q = true) {j k : Nat} (hjk : j ≤ k) (hk : k < n) : p j ≤ p k ∧ q j ≤ q k := by
  induction k with
  | zero => have : j = 0 := by omega
            subst this; exact ⟨Int.le_refl _, Int.le_refl _⟩
  | succ k ih =>
    rcases (show j ≤ k ∨ j = k + 1 by omega) with h1 | rfl
    · have := ih h1 (by omega)
      have h2 := tab_step h hk
      simp only [Nat.add_sub_cancel] at h2
      omega
    · exact ⟨Int.le_refl _, Int.le_refl _⟩
theorem seg_lt {n : Nat} {p : Nat → Int} {x : Int} (hn : 2 ≤ n) (hx : x ≤ p (n - 1)) : segI n p x < n - 1 := by
  obtain ⟨h1, h2, h3⟩ := fstI_spec (fun k => decide (x ≤ p (k + 1))) (n - 1)
  unfold segI
  rcases Nat.lt_or_ge (fstI (fun k => decide (x ≤ p (k + 1))) (n - 1)) (n - 1) with h | h
  · exact h
  · have := h2 (n - 2) (by omega)
    rw [show n - 2 + 1 = n - 1 by omega] at this
    simp at this
    omega

noncomputable def E_rb (n : Nat) (p q : Nat → Int) (y : Int) : St := (some
  {
    σ :=
      [AV.lst (2 : Nat) n fun k => [AV.x (Value.int IntKind.i64 (p k)), AV.x (Value.int IntKind.i64 (q k))],
        AV.x (Value.int IntKind.i64 y), AV.top, AV.top, AV.x (Value.int IntKind.i64 (0 : Int)), AV.top, AV.top, AV.top,
        AV.top, AV.top, AV.top, AV.top, AV.top, AV.top, AV.top, AV.top, AV.top, AV.top, AV.top, AV.top, AV.top, AV.top,
        AV.top, AV.top, AV.top, AV.top, AV.top, AV.top, AV.top, AV.top, AV.top, AV.top, AV.top, AV.top, AV.top, AV.top,
        AV.top, AV.top, AV.top, AV.top, AV.top, AV.top, AV.top, AV.top, AV.top, AV.top],
    m := [], nx := (2 : Nat) } : Option St).getD { σ := [], m := [], nx := 0 }
noncomputable def B_rb : Code := loopBody (loopAt (bodyOf Try.f32) 0)
noncomputable def inv_rb (n : Nat) (p q : Nat → Int) (y : Int) (k : Nat) : St := { σ := ovrS [(5, i k)] (E_rb n p q y).σ, m := (E_rb n p q y).m, nx := (E_rb n p q y).nx }
noncomputable def out_rb (n : Nat) (p q : Nat → Int) (y : Int) (k : Nat) : AEx → Option St := fun ex => match ex with
  | .exit 0 => some { σ := ovrS [(5, i (segI n p y))] (E_rb n p q y).σ, m := (E_rb n p q y).m, nx := (E_rb n p q y).nx }
  | _ => none
noncomputable def T_rb (n : Nat) (p q : Nat → Int) (y : Int) : CT := .leaf (.exit 0, ( out_rb n p q y 0 (.exit 0)).getD (E_rb n p q y))
noncomputable def LS_rb (n : Nat) (p q : Nat → Int) (y : Int) : LSpec := (sumL (inv_rb n p q y (0)) (T_rb n p q y))
set_option maxRecDepth 100000 in
theorem rb_ls (n : Nat) (p q : Nat → Int) (y : Int) (pre0 : 2 ≤ n ∧ n ≤ 100000) (pre1 : tabB n p q = true) (pre2 : -100000 ≤ y ∧ y ≤ p (n - 1)) : LSound Try.prog (.loop B_rb) (LS_rb n p q y) := by
  refine loop_rounds (G := []) (L := []) (SoundG.nil _) mixed noLoops (X := Nat) (inv_rb n p q y) (fun k => k < n - 1 ∧ ∀ j, j < k → decide (y ≤ p (j + 1)) = false) (fun k => n - k) (out_rb n p q y) (x0 := 0) ⟨by omega, fun j hj => by omega⟩ ?_ ?_ ?_
  · rintro k
    kernel_rfl
  · rintro k y E h
    unfold out_rb at h
    split at h
    · cases h; kernel_rfl
    · cases h
  · rintro Q hQ k hx
    refine ⟨(k + 1), ?_⟩
    have e : roundT Try.prog [] [] B_rb (inv_rb n p q y k) (inv_rb n p q y ((k + 1))) (out_rb n p q y k) = (Tree.need [inI64 ((↑k : Int) + (1 : Int))] (Tree.need [(0 : Int) ≤ (↑k : Int) + (1 : Int) ∧ (↑k : Int) + (1 : Int) < (↑n : Int)] (Tree.branch (decide (p (Int.toNat ((↑k : Int) + (1 : Int))) < y)) (Tree.need [inI64 ((↑k : Int) + (1 : Int))] (Tree.need [(AV.lst 2 n fun k => [iI (p k), iI (q k)]) = AV.lst 2 n fun k => [iI (p k), iI (q k)], y = y, (0 : Int) = (0 : Int), (↑k : Int) + (1 : Int) = (↑(k + 1) : Int)] (Tree.leaf AEx.normal))) (Tree.need [(AV.lst 2 n fun k => [iI (p k), iI (q k)]) = AV.lst 2 n fun k => [iI (p k), iI (q k)], y = y, (0 : Int) = (0 : Int), (↑k : Int) = (↑(segI n p y) : Int)] (Tree.leaf (AEx.exit 0)))))) := by kernel_rfl
    rw [e]
    simp only [T_rb, out_rb, Tree.sat, Option.getD_some] at hQ
    have t1 : ((k : Int) + 1).toNat = k + 1 := by omega
    simp only [Tree.sat, allP, true_and, and_true, decide_eq_true_eq, decide_eq_false_iff_not, inI64, Int.toNat_natCast, t1, out_rb]
    refine ⟨by omega, by omega, fun h => ?_, fun h => ?_⟩
    · have hk : k + 1 ≠ n - 1 := by
        intro hk
        rw [hk] at h
        omega
      refine ⟨by omega, by omega, ⟨by omega, fun j hj => ?_⟩, by omega⟩
      rcases (show j < k ∨ j = k by omega) with h1 | rfl
      · have := hx.2 j h1
        simpa using this
      · omega
    · have hf : segI n p y = k := fstI_eq hx.1 (by simp; omega) hx.2
      refine ⟨by omega, fun E hE => ?_⟩
      cases hE
      exact hQ

set_option maxRecDepth 100000 in
theorem rBoil_at (n : Nat) (p q : Nat → Int) (y : Int) (pre0 : 2 ≤ n ∧ n ≤ 100000) (pre1 : tabB n p q = true) (pre2 : -100000 ≤ y ∧ y ≤ p (n - 1)) : SoundAt Try.prog 32 [scs n p q, i y] (i (boilI n p q y)) := by
  refine soundAt_fin (G := []) (L := [LS_rb n p q y]) (SoundG.nil _) mixed Try.func32 (show Try.f32.body = some (bodyOf Try.f32) by kernel_rfl) (one_loop (fun cj hcj => by
    have e : loopAt (bodyOf Try.f32) 0 = some (.loop B_rb) := by kernel_rfl
    rw [e] at hcj; cases hcj
    exact rb_ls n p q y pre0 pre1 pre2)) (t := (Tree.need [(AV.lst 2 n fun k => [iI (p k), iI (q k)]) = AV.lst 2 n fun k => [iI (p k), iI (q k)], y = y, (0 : Int) = (0 : Int), (0 : Int) = (↑(0 : Nat) : Int)] (Tree.need [(0 : Int) ≤ (↑(segI n p y) : Int) ∧ (↑(segI n p y) : Int) < (↑n : Int)] (Tree.need [inI64 ((↑(segI n p y) : Int) + (1 : Int))] (Tree.need [(0 : Int) ≤ (↑(segI n p y) : Int) + (1 : Int) ∧ (↑(segI n p y) : Int) + (1 : Int) < (↑n : Int)] (Tree.need [inI64 (q (Int.toNat ((↑(segI n p y) : Int) + (1 : Int))) - q (Int.toNat (↑(segI n p y) : Int)))] (Tree.need [inI64 (y - p (Int.toNat (↑(segI n p y) : Int)))] (Tree.need [inI64 ((q (Int.toNat ((↑(segI n p y) : Int) + (1 : Int))) - q (Int.toNat (↑(segI n p y) : Int))) * (y - p (Int.toNat (↑(segI n p y) : Int))))] (Tree.need [inI64 (p (Int.toNat ((↑(segI n p y) : Int) + (1 : Int))) - p (Int.toNat (↑(segI n p y) : Int)))] (Tree.need [p (Int.toNat ((↑(segI n p y) : Int) + (1 : Int))) - p (Int.toNat (↑(segI n p y) : Int)) ≠ (0 : Int), inI64 (Int.tdiv ((q (Int.toNat ((↑(segI n p y) : Int) + (1 : Int))) - q (Int.toNat (↑(segI n p y) : Int))) * (y - p (Int.toNat (↑(segI n p y) : Int)))) (p (Int.toNat ((↑(segI n p y) : Int) + (1 : Int))) - p (Int.toNat (↑(segI n p y) : Int))))] (Tree.need [inI64 (q (Int.toNat (↑(segI n p y) : Int)) + Int.tdiv ((q (Int.toNat ((↑(segI n p y) : Int) + (1 : Int))) - q (Int.toNat (↑(segI n p y) : Int))) * (y - p (Int.toNat (↑(segI n p y) : Int)))) (p (Int.toNat ((↑(segI n p y) : Int) + (1 : Int))) - p (Int.toNat (↑(segI n p y) : Int))))] (Tree.leaf (RV.x (Value.int IntKind.i64 (q (Int.toNat (↑(segI n p y) : Int)) + Int.tdiv ((q (Int.toNat ((↑(segI n p y) : Int) + (1 : Int))) - q (Int.toNat (↑(segI n p y) : Int))) * (y - p (Int.toNat (↑(segI n p y) : Int)))) (p (Int.toNat ((↑(segI n p y) : Int) + (1 : Int))) - p (Int.toNat (↑(segI n p y) : Int)))))))))))))))))) (by kernel_rfl) ?_
  have hs := seg_lt pre0.1 pre2.2
  have sl := tab_step pre1 (show n - 1 < n by omega)
  have s0 := tab_step pre1 (show segI n p y < n by omega)
  have s1 := tab_step pre1 (show segI n p y + 1 < n by omega)
  simp only [Nat.add_sub_cancel] at s1
  have t1 : ((segI n p y : Int) + 1).toNat = segI n p y + 1 := by omega
  have m := mul_bd (x := q (segI n p y + 1) - q (segI n p y)) (y := y - p (segI n p y)) (X := 2000) (Y := 200000) (by omega) (by omega)
  have dv : (((q (segI n p y + 1) - q (segI n p y)) * (y - p (segI n p y))).tdiv (p (segI n p y + 1) - p (segI n p y))).natAbs ≤ ((q (segI n p y + 1) - q (segI n p y)) * (y - p (segI n p y))).natAbs := by
    rw [Int.natAbs_tdiv]
    exact Nat.div_le_self _ _
  simp only [Tree.sat, allP, fitP, valEq, true_and, and_true, inI64, Int.toNat_natCast, t1, Int.natCast_zero]
  refine ⟨by omega, by omega, by omega, by omega, by omega, by omega, by omega, by omega, by omega, rfl⟩


def S_rBoil : Sx.Spec := fun l => match l with
  | [.lst 2 n f, .x (.int .i64 y)] => some ([isRec 2 n f, 2 ≤ n ∧ n ≤ 100000, tabB n (col 0 f) (col 1 f) = true, -100000 ≤ y ∧ y ≤ col 0 f (n - 1)], i (boilI n (col 0 f) (col 1 f) y))
  | _ => none


theorem rBoil_ok : SoundSpec Try.prog 32 S_rBoil := by
  refine ⟨⟨_, Try.func32, by kernel_rfl, by kernel_rfl⟩, ?_⟩
  intro avs ns res h hn
  unfold S_rBoil at h
  split at h
  · rename_i n f y
    cases h
    have hr : isRec 2 n f := hn _ (by simp)
    exact (rBoil_at n (col 0 f) (col 1 f) y (hn _ (by simp)) (hn _ (by simp)) (hn _ (by simp))).same (.cons (.lst 2 n _ _ hr) (.cons (.refl _) .nil))
  · cases h


def crLo (a b u v lo hi : Int) : Int := min (alLo a b lo hi * u) (alLo a b lo hi * v) / sizeI a b
def crHi (a b u v lo hi : Int) : Int := ceI (max (alHi a b lo hi * u) (alHi a b lo hi * v)) (sizeI a b)
theorem min_div {x y d : Int} (hd : 0 < d) : min (x / d) (y / d) = min x y / d := by
  rcases Int.le_total x y with h | h
  · have := Int.ediv_le_ediv hd h
    rw [Int.min_eq_left h, Int.min_eq_left this]
  · have := Int.ediv_le_ediv hd h
    rw [Int.min_eq_right h, Int.min_eq_right this]
theorem max_ce {x y d : Int} (hd : 0 < d) : max (ceI x d) (ceI y d) = ceI (max x y) d := by
  unfold ceI
  rcases Int.le_total x y with h | h
  · have := Int.ediv_le_ediv hd (show -y ≤ -x by omega)
    rw [Int.max_eq_right h]
    omega
  · have := Int.ediv_le_ediv hd (show -x ≤ -y by omega)
    rw [Int.max_eq_left h]
    omega
theorem cr_bd {a b u v lo hi : Int} (h : -1000 ≤ a ∧ a ≤ 1000 ∧ -1000 ≤ b ∧ b ≤ 1000 ∧ a ≠ b) (k : -2000 ≤ u ∧ u ≤ 2000 ∧ -2000 ≤ v ∧ v ≤ 2000) (r : -1000000 ≤ lo ∧ lo ≤ hi ∧ hi ≤ 1000000) :
    (-5000000000 ≤ alLo a b lo hi * u ∧ alLo a b lo hi * u ≤ 5000000000) ∧ (-5000000000 ≤ alLo a b lo hi * v ∧ alLo a b lo hi * v ≤ 5000000000) ∧ (-5000000000 ≤ alHi a b lo hi * u ∧ alHi a b lo hi * u ≤ 5000000000) ∧ (-5000000000 ≤ alHi a b lo hi * v ∧ alHi a b lo hi * v ≤ 5000000000) ∧ (2 ≤ sizeI a b ∧ sizeI a b ≤ 4000) := by
  have e := al_bdx (a := a) (b := b) (lo := lo) (hi := hi) (R := 1000000) (by omega) (by omega)
  have m1 := mul_bd (x := alLo a b lo hi) (y := u) (X := 2002001) (Y := 2000) (by omega) (by omega)
  have m2 := mul_bd (x := alLo a b lo hi) (y := v) (X := 2002001) (Y := 2000) (by omega) (by omega)
  have m3 := mul_bd (x := alHi a b lo hi) (y := u) (X := 2002001) (Y := 2000) (by omega) (by omega)
  have m4 := mul_bd (x := alHi a b lo hi) (y := v) (X := 2002001) (Y := 2000) (by omega) (by omega)
  have s1 := sizeI_pos h.2.2.2.2
  have s2 := sizeI_le (a := a) (b := b) (by omega)
  omega

def S_rCorrected : Sx.Spec := fun l => match l with
  | [.agg [.x (.int .i64 a), .x (.int .i64 b)], .agg [.x (.int .i64 u), .x (.int .i64 v)], .agg [.x (.int .i64 lo), .x (.int .i64 hi)]] => some ([-1000 ≤ a ∧ a ≤ 1000 ∧ -1000 ≤ b ∧ b ≤ 1000 ∧ a ≠ b, -2000 ≤ u ∧ u ≤ 2000 ∧ -2000 ≤ v ∧ v ≤ 2000, -1000000 ≤ lo ∧ lo ≤ hi ∧ hi ≤ 1000000], .agg [i (crLo a b u v lo hi), i (crHi a b u v lo hi)])
  | _ => none

set_option maxRecDepth 100000 in
theorem rCorrected_at (a b u v lo hi : Int) (pre0 : -1000 ≤ a ∧ a ≤ 1000 ∧ -1000 ≤ b ∧ b ≤ 1000 ∧ a ≠ b) (pre1 : -2000 ≤ u ∧ u ≤ 2000 ∧ -2000 ≤ v ∧ v ≤ 2000) (pre2 : -1000000 ≤ lo ∧ lo ≤ hi ∧ hi ≤ 1000000) : SoundAt Try.prog 33 [.agg [i a, i b], .agg [i u, i v], .agg [i lo, i hi]] (.agg [i (crLo a b u v lo hi), i (crHi a b u v lo hi)]) := by
  refine soundAt_fin (G := [(70, S_rAllowed), (71, S_rSize), (57, S_rFloor), (72, S_rCeil)]) (L := []) (SoundG.cons rAllowed_ok (SoundG.cons rSize_ok (SoundG.cons rFloor_ok (SoundG.cons rCeil_ok (SoundG.nil _))))) mixed Try.func33 (show Try.f33.body = some (bodyOf Try.f33) by kernel_rfl) noLoops (t := (Tree.need [(-1000000 : Int) ≤ a ∧ a ≤ (1000000 : Int), (-1000000000000 : Int) ≤ lo ∧ lo ≤ hi ∧ hi ≤ (1000000000000 : Int)] (Tree.need [inI64 (alLo a b lo hi * u)] (Tree.need [(-1000000 : Int) ≤ a ∧ a ≤ (1000000 : Int) ∧ (-1000000 : Int) ≤ b ∧ b ≤ (1000000 : Int)] (Tree.need [(-4611686018427387904 : Int) ≤ alLo a b lo hi * u ∧ alLo a b lo hi * u ≤ (4611686018427387904 : Int), (1 : Int) ≤ sizeI a b ∧ sizeI a b ≤ (4000000000000 : Int)] (Tree.need [inI64 (alLo a b lo hi * v)] (Tree.need [(-1000000 : Int) ≤ a ∧ a ≤ (1000000 : Int) ∧ (-1000000 : Int) ≤ b ∧ b ≤ (1000000 : Int)] (Tree.need [(-4611686018427387904 : Int) ≤ alLo a b lo hi * v ∧ alLo a b lo hi * v ≤ (4611686018427387904 : Int), (1 : Int) ≤ sizeI a b ∧ sizeI a b ≤ (4000000000000 : Int)] (Tree.need [inI64 (alHi a b lo hi * u)] (Tree.need [(-1000000 : Int) ≤ a ∧ a ≤ (1000000 : Int) ∧ (-1000000 : Int) ≤ b ∧ b ≤ (1000000 : Int)] (Tree.need [(-4611686018427387904 : Int) ≤ alHi a b lo hi * u ∧ alHi a b lo hi * u ≤ (4611686018427387904 : Int), (1 : Int) ≤ sizeI a b ∧ sizeI a b ≤ (4000000000000 : Int)] (Tree.need [inI64 (alHi a b lo hi * v)] (Tree.need [(-1000000 : Int) ≤ a ∧ a ≤ (1000000 : Int) ∧ (-1000000 : Int) ≤ b ∧ b ≤ (1000000 : Int)] (Tree.need [(-4611686018427387904 : Int) ≤ alHi a b lo hi * v ∧ alHi a b lo hi * v ≤ (4611686018427387904 : Int), (1 : Int) ≤ sizeI a b ∧ sizeI a b ≤ (4000000000000 : Int)] (Tree.leaf (RV.agg [RV.x (Value.int IntKind.i64 (min (alLo a b lo hi * u / sizeI a b) (alLo a b lo hi * v / sizeI a b))), RV.x (Value.int IntKind.i64 (max (ceI (alHi a b lo hi * u) (sizeI a b)) (ceI (alHi a b lo hi * v) (sizeI a b))))])))))))))))))))) (by kernel_rfl) ?_
  obtain ⟨c1, c2, c3, c4, c5⟩ := cr_bd pre0 pre1 pre2
  have e1 : min (alLo a b lo hi * u / sizeI a b) (alLo a b lo hi * v / sizeI a b) = crLo a b u v lo hi := min_div (by omega)
  have e2 : max (ceI (alHi a b lo hi * u) (sizeI a b)) (ceI (alHi a b lo hi * v) (sizeI a b)) = crHi a b u v lo hi := max_ce (by omega)
  simp only [Tree.sat, allP, fitP, fitL, valEq, inI64, true_and, and_true, decide_eq_true_eq, decide_eq_false_iff_not, Int.natCast_zero, Int.toNat_natCast]
  repeat' first | with_reducible apply And.intro | with_reducible intro _
  all_goals first | exact True.intro | omega | with_reducible rfl | assumption
theorem rCorrected_ok : SoundSpec Try.prog 33 S_rCorrected := by
  refine ⟨⟨_, Try.func33, by kernel_rfl, by kernel_rfl⟩, ?_⟩
  intro avs ns res h hn
  unfold S_rCorrected at h
  split at h
  · cases h
    exact rCorrected_at _ _ _ _ _ _ (hn _ (by simp)) (hn _ (by simp)) (hn _ (by simp))
  · cases h

end Go.Proofs.Ytchcegfhamngkaa
