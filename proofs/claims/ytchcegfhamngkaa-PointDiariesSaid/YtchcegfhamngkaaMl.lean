/- Texts of this claim, put together: PtR, PtS, PtT, PtV, PtU, PtY, PtAa, PuA, PuB, PuC -/
import Derived.Test.YtchcegfhamngkaaMk
/- Contracts of functions of the program, by the engine Sx: what each call comes to. Printed by a program of this repo (sxgen.py). -/
set_option linter.unusedSimpArgs false
set_option linter.unusedVariables false
namespace Go.Proofs.Ytchcegfhamngkaa
open Go Go.Sx Go.RowKit

def S_judged : Sx.Spec := fun l => match l with
  | [.lst 2 n f, .lst 3 m g] => some ([isRec 2 n f, isRec 3 m g, n ≤ 100000, m ≤ 100000], .tup [.agg (jWs n m (col 0 f) (col 1 f) (col 0 g) (col 1 g) (col 2 g)), i (ddE n m (col 0 f) (col 1 f) (col 0 g) (col 1 g) (col 2 g))])
  | _ => none


theorem judged_ok : SoundSpec Try.prog 73 S_judged := by
  refine ⟨⟨_, Try.func73, by kernel_rfl, by kernel_rfl⟩, ?_⟩
  intro avs ns res h hn
  unfold S_judged at h
  split at h
  · rename_i n f m g
    cases h
    have hr : isRec 2 n f := hn _ (by simp)
    have hr2 : isRec 3 m g := hn _ (by simp)
    exact (judged_at n m (col 0 f) (col 1 f) (col 0 g) (col 1 g) (col 2 g) (hn _ (by simp)) (hn _ (by simp))).same (.cons (.lst 2 n _ _ hr) (.cons (.lst 3 m _ _ hr2) .nil))
  · cases h


/-- The scales that explain all. -/
def kdB (n m : Nat) (a b r u v : Nat → Int) (j : Nat) : Bool := !decide ((jW n m a b r u v j).length = 0)
def kdL (n m : Nat) (a b r u v : Nat → Int) : List Int := if ddE n m a b r u v = 0 then wrL (kdB n m a b r u v) n else []


theorem nth_jW (n m : Nat) (a b r u v : Nat → Int) {k : Nat} (hk : k < 8) (f0 f1 f2 f3 f4 f5 f6 f7 : Nat → List AV) : nthN [((jW n m a b r u v 0).length, f0), ((jW n m a b r u v 1).length, f1), ((jW n m a b r u v 2).length, f2), ((jW n m a b r u v 3).length, f3), ((jW n m a b r u v 4).length, f4), ((jW n m a b r u v 5).length, f5), ((jW n m a b r u v 6).length, f6), ((jW n m a b r u v 7).length, f7)] k = (jW n m a b r u v k).length := by
  rcases (show k = 0 ∨ k = 1 ∨ k = 2 ∨ k = 3 ∨ k = 4 ∨ k = 5 ∨ k = 6 ∨ k = 7 by omega) with rfl | rfl | rfl | rfl | rfl | rfl | rfl | rfl <;> rfl


theorem nthF_jW (n m : Nat) (a b r u v : Nat → Int) {k : Nat} (hk : k < 8) : nthF [((jW n m a b r u v 0).length, fun j => [i (nthI (jW n m a b r u v 0) j)]), ((jW n m a b r u v 1).length, fun j => [i (nthI (jW n m a b r u v 1) j)]), ((jW n m a b r u v 2).length, fun j => [i (nthI (jW n m a b r u v 2) j)]), ((jW n m a b r u v 3).length, fun j => [i (nthI (jW n m a b r u v 3) j)]), ((jW n m a b r u v 4).length, fun j => [i (nthI (jW n m a b r u v 4) j)]), ((jW n m a b r u v 5).length, fun j => [i (nthI (jW n m a b r u v 5) j)]), ((jW n m a b r u v 6).length, fun j => [i (nthI (jW n m a b r u v 6) j)]), ((jW n m a b r u v 7).length, fun j => [i (nthI (jW n m a b r u v 7) j)])] k = fun j => [i (nthI (jW n m a b r u v k) j)] := by
  rcases (show k = 0 ∨ k = 1 ∨ k = 2 ∨ k = 3 ∨ k = 4 ∨ k = 5 ∨ k = 6 ∨ k = 7 by omega) with rfl | rfl | rfl | rfl | rfl | rfl | rfl | rfl <;> rfl

noncomputable def E_kd (n m : Nat) (a b r u v : Nat → Int) : St := (some { σ := mkS 35 [(6, .ptr 8 0), (20, i n)], m := [], nx := 901 } : Option St).getD { σ := [], m := [], nx := 0 }
noncomputable def B_kd : Code := loopBody (loopAt (bodyOf Try.f43) 0)
noncomputable def inv_kd (n m : Nat) (a b r u v : Nat → Int) (k : Nat) : St := { σ := ovrS [(8, .row 900), (21, i k)] (E_kd n m a b r u v).σ, m := [(900, .row 3 1 (wrL (kdB n m a b r u v) k).length (fun j => [i (nthI (wrL (kdB n m a b r u v) k) j)])), (8, .cells 117 (jWs n m a b r u v))], nx := (E_kd n m a b r u v).nx }
noncomputable def out_kd (n m : Nat) (a b r u v : Nat → Int) (k : Nat) : AEx → Option St := fun ex => match ex with
  | .exit 0 => some { σ := ovrS [(8, .row 900)] (E_kd n m a b r u v).σ, m := [(900, .row 3 1 (wrL (kdB n m a b r u v) n).length (fun j => [i (nthI (wrL (kdB n m a b r u v) n) j)])), (8, .cells 117 (jWs n m a b r u v))], nx := (E_kd n m a b r u v).nx }
  | _ => none
noncomputable def T_kd (n m : Nat) (a b r u v : Nat → Int) : CT := .leaf (.exit 0, ( out_kd n m a b r u v 0 (.exit 0)).getD (E_kd n m a b r u v))
noncomputable def LS_kd (n m : Nat) (a b r u v : Nat → Int) : LSpec := normSp [(.slot 8, 900, 3, 1)] (sumL (inv_kd n m a b r u v (0)) (T_kd n m a b r u v))
set_option maxRecDepth 100000 in
theorem kd_ls (n m : Nat) (a b r u v : Nat → Int) (pre0 : n ≤ 8) : LSound Try.prog (.loop B_kd) (LS_kd n m a b r u v) := by
  refine loop_roundsN [(.slot 8, 900, 3, 1)] (G := [(73, S_judged)]) (L := []) (SoundG.cons judged_ok (SoundG.nil _)) mixed noLoops (X := Nat) (inv_kd n m a b r u v) (fun k => k ≤ n) (fun k => n - k) (out_kd n m a b r u v) (x0 := 0) (by simp) ?_ ?_ ?_
  · rintro k
    kernel_rfl
  · rintro k y E h
    unfold out_kd at h
    split at h
    · cases h; kernel_rfl
    · cases h
  · rintro Q hQ k hx
    refine ⟨(k + 1), ?_⟩
    have e : roundN Try.prog [(73, S_judged)] [] [(.slot 8, 900, 3, 1)] B_kd (inv_kd n m a b r u v k) (inv_kd n m a b r u v ((k + 1))) (out_kd n m a b r u v k) = (Tree.branch (decide ((↑k : Int) < (↑n : Int))) (Tree.need [(0 : Int) ≤ (↑k : Int) ∧ (↑k : Int) < (↑(8 : Nat) : Int)] (Tree.need [0 + k * 1 < List.length (jWs n m a b r u v)] (Tree.branch ((↑(nthN [(List.length (jW n m a b r u v 0), fun j => [i (nthI (jW n m a b r u v 0) j)]), (List.length (jW n m a b r u v 1), fun j => [i (nthI (jW n m a b r u v 1) j)]), (List.length (jW n m a b r u v 2), fun j => [i (nthI (jW n m a b r u v 2) j)]), (List.length (jW n m a b r u v 3), fun j => [i (nthI (jW n m a b r u v 3) j)]), (List.length (jW n m a b r u v 4), fun j => [i (nthI (jW n m a b r u v 4) j)]), (List.length (jW n m a b r u v 5), fun j => [i (nthI (jW n m a b r u v 5) j)]), (List.length (jW n m a b r u v 6), fun j => [i (nthI (jW n m a b r u v 6) j)]), (List.length (jW n m a b r u v 7), fun j => [i (nthI (jW n m a b r u v 7) j)])] (0 + k * 1)) : Int) == (0 : Int)) (Tree.need [(List.length (wrL (kdB n m a b r u v) k) + 1) * 8 ≤ 140737488355328, ∀ (i : Nat), i < 1 → ∀ (a : AV), a ∈ chunk 1 [iI (↑k : Int)] i → AV.one a = true] (Tree.need [inI64 ((↑k : Int) + (1 : Int))] (Tree.need [AV.ptr 8 0 = AV.ptr 8 0, AV.row 900 = AV.row 900, (↑n : Int) = (↑n : Int), (↑k : Int) + (1 : Int) = (↑(k + 1) : Int), List.length (wrL (kdB n m a b r u v) k) + 1 = List.length (wrL (kdB n m a b r u v) (k + 1)), ∀ (i : Nat), i < List.length (wrL (kdB n m a b r u v) (k + 1)) → catF (List.length (wrL (kdB n m a b r u v) k)) (fun j => [Ytchcegfhamngkaa.i (nthI (wrL (kdB n m a b r u v) k) j)]) (chunk 1 [iI (↑k : Int)]) i = [Ytchcegfhamngkaa.i (nthI (wrL (kdB n m a b r u v) (k + 1)) i)], (AV.lst 1 (List.length (jW n m a b r u v 0)) fun j => [iI (nthI (jW n m a b r u v 0) j)]) = AV.lst 1 (List.length (jW n m a b r u v 0)) fun j => [iI (nthI (jW n m a b r u v 0) j)], (AV.lst 1 (List.length (jW n m a b r u v 1)) fun j => [iI (nthI (jW n m a b r u v 1) j)]) = AV.lst 1 (List.length (jW n m a b r u v 1)) fun j => [iI (nthI (jW n m a b r u v 1) j)], (AV.lst 1 (List.length (jW n m a b r u v 2)) fun j => [iI (nthI (jW n m a b r u v 2) j)]) = AV.lst 1 (List.length (jW n m a b r u v 2)) fun j => [iI (nthI (jW n m a b r u v 2) j)], (AV.lst 1 (List.length (jW n m a b r u v 3)) fun j => [iI (nthI (jW n m a b r u v 3) j)]) = AV.lst 1 (List.length (jW n m a b r u v 3)) fun j => [iI (nthI (jW n m a b r u v 3) j)], (AV.lst 1 (List.length (jW n m a b r u v 4)) fun j => [iI (nthI (jW n m a b r u v 4) j)]) = AV.lst 1 (List.length (jW n m a b r u v 4)) fun j => [iI (nthI (jW n m a b r u v 4) j)], (AV.lst 1 (List.length (jW n m a b r u v 5)) fun j => [iI (nthI (jW n m a b r u v 5) j)]) = AV.lst 1 (List.length (jW n m a b r u v 5)) fun j => [iI (nthI (jW n m a b r u v 5) j)], (AV.lst 1 (List.length (jW n m a b r u v 6)) fun j => [iI (nthI (jW n m a b r u v 6) j)]) = AV.lst 1 (List.length (jW n m a b r u v 6)) fun j => [iI (nthI (jW n m a b r u v 6) j)], (AV.lst 1 (List.length (jW n m a b r u v 7)) fun j => [iI (nthI (jW n m a b r u v 7) j)]) = AV.lst 1 (List.length (jW n m a b r u v 7)) fun j => [iI (nthI (jW n m a b r u v 7) j)]] (Tree.leaf AEx.normal)))) (Tree.need [inI64 ((↑k : Int) + (1 : Int))] (Tree.need [AV.ptr 8 0 = AV.ptr 8 0, AV.row 900 = AV.row 900, (↑n : Int) = (↑n : Int), (↑k : Int) + (1 : Int) = (↑(k + 1) : Int), List.length (wrL (kdB n m a b r u v) k) = List.length (wrL (kdB n m a b r u v) (k + 1)), ∀ (i : Nat), i < List.length (wrL (kdB n m a b r u v) (k + 1)) → [Ytchcegfhamngkaa.i (nthI (wrL (kdB n m a b r u v) k) i)] = [Ytchcegfhamngkaa.i (nthI (wrL (kdB n m a b r u v) (k + 1)) i)], (AV.lst 1 (List.length (jW n m a b r u v 0)) fun j => [iI (nthI (jW n m a b r u v 0) j)]) = AV.lst 1 (List.length (jW n m a b r u v 0)) fun j => [iI (nthI (jW n m a b r u v 0) j)], (AV.lst 1 (List.length (jW n m a b r u v 1)) fun j => [iI (nthI (jW n m a b r u v 1) j)]) = AV.lst 1 (List.length (jW n m a b r u v 1)) fun j => [iI (nthI (jW n m a b r u v 1) j)], (AV.lst 1 (List.length (jW n m a b r u v 2)) fun j => [iI (nthI (jW n m a b r u v 2) j)]) = AV.lst 1 (List.length (jW n m a b r u v 2)) fun j => [iI (nthI (jW n m a b r u v 2) j)], (AV.lst 1 (List.length (jW n m a b r u v 3)) fun j => [iI (nthI (jW n m a b r u v 3) j)]) = AV.lst 1 (List.length (jW n m a b r u v 3)) fun j => [iI (nthI (jW n m a b r u v 3) j)], (AV.lst 1 (List.length (jW n m a b r u v 4)) fun j => [iI (nthI (jW n m a b r u v 4) j)]) = AV.lst 1 (List.length (jW n m a b r u v 4)) fun j => [iI (nthI (jW n m a b r u v 4) j)], (AV.lst 1 (List.length (jW n m a b r u v 5)) fun j => [iI (nthI (jW n m a b r u v 5) j)]) = AV.lst 1 (List.length (jW n m a b r u v 5)) fun j => [iI (nthI (jW n m a b r u v 5) j)], (AV.lst 1 (List.length (jW n m a b r u v 6)) fun j => [iI (nthI (jW n m a b r u v 6) j)]) = AV.lst 1 (List.length (jW n m a b r u v 6)) fun j => [iI (nthI (jW n m a b r u v 6) j)], (AV.lst 1 (List.length (jW n m a b r u v 7)) fun j => [iI (nthI (jW n m a b r u v 7) j)]) = AV.lst 1 (List.length (jW n m a b r u v 7)) fun j => [iI (nthI (jW n m a b r u v 7) j)]] (Tree.leaf AEx.normal)))))) (Tree.need [AV.ptr 8 0 = AV.ptr 8 0, AV.row 900 = AV.row 900, (↑n : Int) = (↑n : Int), List.length (wrL (kdB n m a b r u v) k) = List.length (wrL (kdB n m a b r u v) n), ∀ (i : Nat), i < List.length (wrL (kdB n m a b r u v) n) → [Ytchcegfhamngkaa.i (nthI (wrL (kdB n m a b r u v) k) i)] = [Ytchcegfhamngkaa.i (nthI (wrL (kdB n m a b r u v) n) i)], (AV.lst 1 (List.length (jW n m a b r u v 0)) fun j => [iI (nthI (jW n m a b r u v 0) j)]) = AV.lst 1 (List.length (jW n m a b r u v 0)) fun j => [iI (nthI (jW n m a b r u v 0) j)], (AV.lst 1 (List.length (jW n m a b r u v 1)) fun j => [iI (nthI (jW n m a b r u v 1) j)]) = AV.lst 1 (List.length (jW n m a b r u v 1)) fun j => [iI (nthI (jW n m a b r u v 1) j)], (AV.lst 1 (List.length (jW n m a b r u v 2)) fun j => [iI (nthI (jW n m a b r u v 2) j)]) = AV.lst 1 (List.length (jW n m a b r u v 2)) fun j => [iI (nthI (jW n m a b r u v 2) j)], (AV.lst 1 (List.length (jW n m a b r u v 3)) fun j => [iI (nthI (jW n m a b r u v 3) j)]) = AV.lst 1 (List.length (jW n m a b r u v 3)) fun j => [iI (nthI (jW n m a b r u v 3) j)], (AV.lst 1 (List.length (jW n m a b r u v 4)) fun j => [iI (nthI (jW n m a b r u v 4) j)]) = AV.lst 1 (List.length (jW n m a b r u v 4)) fun j => [iI (nthI (jW n m a b r u v 4) j)], (AV.lst 1 (List.length (jW n m a b r u v 5)) fun j => [iI (nthI (jW n m a b r u v 5) j)]) = AV.lst 1 (List.length (jW n m a b r u v 5)) fun j => [iI (nthI (jW n m a b r u v 5) j)], (AV.lst 1 (List.length (jW n m a b r u v 6)) fun j => [iI (nthI (jW n m a b r u v 6) j)]) = AV.lst 1 (List.length (jW n m a b r u v 6)) fun j => [iI (nthI (jW n m a b r u v 6) j)], (AV.lst 1 (List.length (jW n m a b r u v 7)) fun j => [iI (nthI (jW n m a b r u v 7) j)]) = AV.lst 1 (List.length (jW n m a b r u v 7)) fun j => [iI (nthI (jW n m a b r u v 7) j)]] (Tree.leaf (AEx.exit 0)))) := by kernel_rfl
    rw [e]
    simp only [T_kd, out_kd, Tree.sat, Option.getD_some] at hQ
    have hQ1 : ∀ E, out_kd n m a b r u v k (.exit 0) = some E → Q (.exit 0, E) := fun E hE => by cases hE; exact hQ
    have hl := wrL_len (kdB n m a b r u v) k
    have h8 : (jWs n m a b r u v).length = 8 := rfl
    have e0 : 0 + k * 1 = k := by omega
    rw [h8]
    simp only [Tree.sat, allP, true_and, and_true, decide_eq_true_eq, decide_eq_false_iff_not, inI64, e0]
    clear e hQ
    by_cases hk : k < n
    · rw [nth_jW n m a b r u v (show k < 8 by omega)]
      by_cases hz : (jW n m a b r u v k).length = 0
      · have e3 : wrL (kdB n m a b r u v) (k + 1) = wrL (kdB n m a b r u v) k ++ [(k : Int)] := by simp [wrL, kdB, hz]
        have ez : (((jW n m a b r u v k).length : Int) == 0) = true := by simp [hz]
        simp only [e3, ez, List.length_append, List.length_cons, List.length_nil]
        repeat' first | with_reducible apply And.intro | with_reducible intro _
        all_goals first | exact True.intro | omega | with_reducible rfl | assumption | exact catFl (by omega) | (rename_i hm; exact one_of hm (by simp [AV.one, Value.oneCell'])) | contradiction
      · have e3 : wrL (kdB n m a b r u v) (k + 1) = wrL (kdB n m a b r u v) k := by simp [wrL, kdB, hz]
        have ez : (((jW n m a b r u v k).length : Int) == 0) = false := by rw [beq_eq_false_iff_ne]; omega
        simp only [e3, ez]
        repeat' first | with_reducible apply And.intro | with_reducible intro _
        all_goals first | exact True.intro | omega | with_reducible rfl | assumption | contradiction
    · obtain rfl : k = n := by omega
      repeat' first | with_reducible apply And.intro | with_reducible intro _
      all_goals first | exact True.intro | omega | with_reducible rfl | assumption | exact hQ1 _ (by assumption)

set_option maxRecDepth 100000 in
theorem Kinds_at (n m : Nat) (a b r u v : Nat → Int) (pre0 : n ≤ 100000) (pre1 : m ≤ 100000) : SoundAt Try.prog 43 [scs n a b, ens m r u v] (.tup [inl (kdL n m a b r u v), i (ddE n m a b r u v)]) := by
  refine soundAt_fin (G := [(73, S_judged)]) (L := [needSp [n ≤ 8] (LS_kd n m a b r u v)]) (SoundG.cons judged_ok (SoundG.nil _)) mixed Try.func43 (show Try.f43.body = some (bodyOf Try.f43) by kernel_rfl) (one_loop (fun cj hcj => by
    have e : loopAt (bodyOf Try.f43) 0 = some (.loop B_kd) := by kernel_rfl
    rw [e] at hcj; cases hcj
    exact needSp_sound (fun h => kd_ls n m a b r u v h))) (t := (Tree.need [isRec 2 n fun k => [i (a k), i (b k)], isRec 3 m fun k => [i (r k), i (u k), i (v k)], n ≤ 100000, m ≤ 100000] (Tree.branch (ddE n m a b r u v != (0 : Int)) (Tree.leaf (RV.tup [RV.x (Value.slice none 0 0), RV.x (Value.int IntKind.i64 (ddE n m a b r u v))])) (Tree.need [n ≤ 8] (Tree.need [AV.ptr 8 0 = AV.ptr 8 0, AV.row 900 = AV.row 900, (↑n : Int) = (↑n : Int), (0 : Int) = (↑(0 : Nat) : Int), 0 = List.length (wrL (kdB n m a b r u v) 0), ∀ (i : Nat), i < List.length (wrL (kdB n m a b r u v) 0) → [] = [Ytchcegfhamngkaa.i (nthI (wrL (kdB n m a b r u v) 0) i)], (AV.lst 1 (List.length (jW n m a b r u v 0)) fun j => [iI (nthI (jW n m a b r u v 0) j)]) = AV.lst 1 (List.length (jW n m a b r u v 0)) fun j => [iI (nthI (jW n m a b r u v 0) j)], (AV.lst 1 (List.length (jW n m a b r u v 1)) fun j => [iI (nthI (jW n m a b r u v 1) j)]) = AV.lst 1 (List.length (jW n m a b r u v 1)) fun j => [iI (nthI (jW n m a b r u v 1) j)], (AV.lst 1 (List.length (jW n m a b r u v 2)) fun j => [iI (nthI (jW n m a b r u v 2) j)]) = AV.lst 1 (List.length (jW n m a b r u v 2)) fun j => [iI (nthI (jW n m a b r u v 2) j)], (AV.lst 1 (List.length (jW n m a b r u v 3)) fun j => [iI (nthI (jW n m a b r u v 3) j)]) = AV.lst 1 (List.length (jW n m a b r u v 3)) fun j => [iI (nthI (jW n m a b r u v 3) j)], (AV.lst 1 (List.length (jW n m a b r u v 4)) fun j => [iI (nthI (jW n m a b r u v 4) j)]) = AV.lst 1 (List.length (jW n m a b r u v 4)) fun j => [iI (nthI (jW n m a b r u v 4) j)], (AV.lst 1 (List.length (jW n m a b r u v 5)) fun j => [iI (nthI (jW n m a b r u v 5) j)]) = AV.lst 1 (List.length (jW n m a b r u v 5)) fun j => [iI (nthI (jW n m a b r u v 5) j)], (AV.lst 1 (List.length (jW n m a b r u v 6)) fun j => [iI (nthI (jW n m a b r u v 6) j)]) = AV.lst 1 (List.length (jW n m a b r u v 6)) fun j => [iI (nthI (jW n m a b r u v 6) j)], (AV.lst 1 (List.length (jW n m a b r u v 7)) fun j => [iI (nthI (jW n m a b r u v 7) j)]) = AV.lst 1 (List.length (jW n m a b r u v 7)) fun j => [iI (nthI (jW n m a b r u v 7) j)]] (Tree.leaf (RV.tup [RV.lst 1 (List.length (wrL (kdB n m a b r u v) n)) fun j => [iI (nthI (wrL (kdB n m a b r u v) n) j)], RV.x (Value.int IntKind.i64 (0 : Int))]))))))) (by kernel_rfl) ?_
  have e1 : ∀ x y : Nat → Int, col 0 (fun k => [i (x k), i (y k)]) = x := fun _ _ => rfl
  simp only [Tree.sat, allP, fitP_tup, fitP_int, fitL, true_and, and_true, col20, col21, col30, col31, col32]
  refine ⟨⟨isRec2 n a b, isRec3 m r u v, pre0, pre1⟩, fun h => ?_, fun h => ?_⟩
  · have h' : ddE n m a b r u v ≠ 0 := by simpa using h
    exact fit_no (by simp [kdL, h'])
  · have h' : ddE n m a b r u v = 0 := by simpa using h
    have h8 : n ≤ 8 := by
      unfold ddE at h'
      split at h' <;> omega
    refine ⟨h8, ?_⟩
    rw [h']
    repeat' first | with_reducible apply And.intro | with_reducible intro _
    all_goals first | exact True.intro | omega | with_reducible rfl | exact fit_in (by simp [kdL, h']) | (rename_i hm; exact absurd hm (by simp [wrL])) | exact rfl


def S_Kinds : Sx.Spec := fun l => match l with
  | [.lst 2 n f, .lst 3 m g] => some ([isRec 2 n f, isRec 3 m g, n ≤ 100000, m ≤ 100000], .tup [inl (kdL n m (col 0 f) (col 1 f) (col 0 g) (col 1 g) (col 2 g)), i (ddE n m (col 0 f) (col 1 f) (col 0 g) (col 1 g) (col 2 g))])
  | _ => none


theorem Kinds_ok : SoundSpec Try.prog 43 S_Kinds := by
  refine ⟨⟨_, Try.func43, by kernel_rfl, by kernel_rfl⟩, ?_⟩
  intro avs ns res h hn
  unfold S_Kinds at h
  split at h
  · rename_i n f m g
    cases h
    have hr : isRec 2 n f := hn _ (by simp)
    have hr2 : isRec 3 m g := hn _ (by simp)
    exact (Kinds_at n m (col 0 f) (col 1 f) (col 0 g) (col 1 g) (col 2 g) (hn _ (by simp)) (hn _ (by simp))).same (.cons (.lst 2 n _ _ hr) (.cons (.lst 3 m _ _ hr2) .nil))
  · cases h


/-- The first scale with the fewest wrong entries. -/
def bst (L : Nat → Nat) : Nat → Nat
  | 0 => 0
  | k + 1 => if L k < L (bst L k) then k else bst L k
def wgE (n m : Nat) (a b r u v : Nat → Int) : Int := if ddE n m a b r u v = 0 then (if n = 0 then 7 else 0) else ddE n m a b r u v
def wgS (n m : Nat) (a b r u v : Nat → Int) : Nat := bst (fun j => (jW n m a b r u v j).length) n
def wgN (n m : Nat) (a b r u v : Nat → Int) : Int := if wgE n m a b r u v = 0 then (wgS n m a b r u v : Int) else 0
def wgL (n m : Nat) (a b r u v : Nat → Int) : List Int := if wgE n m a b r u v = 0 then jW n m a b r u v (wgS n m a b r u v) else []


theorem bst_lt (L : Nat → Nat) : ∀ k, bst L k ≤ k - 1 ∧ (0 < k → bst L k < k)
  | 0 => by simp [bst]
  | k + 1 => by
    have := bst_lt L k
    unfold bst
    split
    · omega
    · rcases Nat.eq_zero_or_pos k with h | h
      · subst h; simp [bst]
      · have := this.2 h; omega
theorem bst_zero (L : Nat → Nat) {k : Nat} (h : L (bst L k) = 0) : ∀ n, k ≤ n → bst L n = bst L k := by
  intro n hn
  induction n with
  | zero => have : k = 0 := by omega
            subst this; rfl
  | succ n ih =>
    rcases (show k ≤ n ∨ k = n + 1 by omega) with h1 | rfl
    · have e := ih h1
      show (if L n < L (bst L n) then n else bst L n) = bst L k
      rw [e, h, if_neg (by omega)]
    · rfl

noncomputable def E_wg (n m : Nat) (a b r u v : Nat → Int) : St := (some { σ := mkS 49 [(7, .ptr 9 0), (24, i n)], m := [], nx := 20 } : Option St).getD { σ := [], m := [], nx := 0 }
noncomputable def B_wg : Code := loopBody (loopAt (bodyOf Try.f45) 0)
noncomputable def inv_wg (n m : Nat) (a b r u v : Nat → Int) (k : Nat) : St := { σ := ovrS [(25, i k), (4, i (bst (fun j => (jW n m a b r u v j).length) k))] (E_wg n m a b r u v).σ, m := [(9, .cells 117 (jWs n m a b r u v))], nx := (E_wg n m a b r u v).nx }
noncomputable def out_wg (n m : Nat) (a b r u v : Nat → Int) (k : Nat) : AEx → Option St := fun ex => match ex with
  | .exit 1 => some { σ := ovrS [(4, i (bst (fun j => (jW n m a b r u v j).length) n))] (E_wg n m a b r u v).σ, m := [(9, .cells 117 (jWs n m a b r u v))], nx := (E_wg n m a b r u v).nx }
  | _ => none
noncomputable def T_wg (n m : Nat) (a b r u v : Nat → Int) : CT := .leaf (.exit 1, ( out_wg n m a b r u v 0 (.exit 1)).getD (E_wg n m a b r u v))
noncomputable def LS_wg (n m : Nat) (a b r u v : Nat → Int) : LSpec := (sumL (inv_wg n m a b r u v (0)) (T_wg n m a b r u v))
set_option maxRecDepth 100000 in
theorem wg_ls (n m : Nat) (a b r u v : Nat → Int) (pre0 : n ≤ 8) : LSound Try.prog (.loop B_wg) (LS_wg n m a b r u v) := by
  refine loop_rounds (G := [(73, S_judged)]) (L := []) (SoundG.cons judged_ok (SoundG.nil _)) mixed noLoops (X := Nat) (inv_wg n m a b r u v) (fun k => k ≤ n) (fun k => n - k) (out_wg n m a b r u v) (x0 := 0) (by simp) ?_ ?_ ?_
  · rintro k
    kernel_rfl
  · rintro k y E h
    unfold out_wg at h
    split at h
    · cases h; kernel_rfl
    · cases h
  · rintro Q hQ k hx
    refine ⟨(k + 1), ?_⟩
    have e : roundT Try.prog [(73, S_judged)] [] B_wg (inv_wg n m a b r u v k) (inv_wg n m a b r u v ((k + 1))) (out_wg n m a b r u v k) = (Tree.branch (decide ((↑k : Int) < (↑n : Int))) (Tree.need [(0 : Int) ≤ (↑k : Int) ∧ (↑k : Int) < (↑(8 : Nat) : Int)] (Tree.need [0 + k * 1 < List.length (jWs n m a b r u v)] (Tree.need [(0 : Int) ≤ (↑(bst (fun j => List.length (jW n m a b r u v j)) k) : Int) ∧ (↑(bst (fun j => List.length (jW n m a b r u v j)) k) : Int) < (↑(8 : Nat) : Int)] (Tree.need [0 + bst (fun j => List.length (jW n m a b r u v j)) k * 1 < List.length (jWs n m a b r u v)] (Tree.branch (decide ((↑(nthN [(List.length (jW n m a b r u v 0), fun j => [i (nthI (jW n m a b r u v 0) j)]), (List.length (jW n m a b r u v 1), fun j => [i (nthI (jW n m a b r u v 1) j)]), (List.length (jW n m a b r u v 2), fun j => [i (nthI (jW n m a b r u v 2) j)]), (List.length (jW n m a b r u v 3), fun j => [i (nthI (jW n m a b r u v 3) j)]), (List.length (jW n m a b r u v 4), fun j => [i (nthI (jW n m a b r u v 4) j)]), (List.length (jW n m a b r u v 5), fun j => [i (nthI (jW n m a b r u v 5) j)]), (List.length (jW n m a b r u v 6), fun j => [i (nthI (jW n m a b r u v 6) j)]), (List.length (jW n m a b r u v 7), fun j => [i (nthI (jW n m a b r u v 7) j)])] (0 + k * 1)) : Int) < (↑(nthN [(List.length (jW n m a b r u v 0), fun j => [i (nthI (jW n m a b r u v 0) j)]), (List.length (jW n m a b r u v 1), fun j => [i (nthI (jW n m a b r u v 1) j)]), (List.length (jW n m a b r u v 2), fun j => [i (nthI (jW n m a b r u v 2) j)]), (List.length (jW n m a b r u v 3), fun j => [i (nthI (jW n m a b r u v 3) j)]), (List.length (jW n m a b r u v 4), fun j => [i (nthI (jW n m a b r u v 4) j)]), (List.length (jW n m a b r u v 5), fun j => [i (nthI (jW n m a b r u v 5) j)]), (List.length (jW n m a b r u v 6), fun j => [i (nthI (jW n m a b r u v 6) j)]), (List.length (jW n m a b r u v 7), fun j => [i (nthI (jW n m a b r u v 7) j)])] (0 + bst (fun j => List.length (jW n m a b r u v j)) k * 1)) : Int))) (Tree.need [(0 : Int) ≤ (↑k : Int) ∧ (↑k : Int) < (↑(8 : Nat) : Int)] (Tree.need [0 + k * 1 < List.length (jWs n m a b r u v)] (Tree.branch ((↑(nthN [(List.length (jW n m a b r u v 0), fun j => [i (nthI (jW n m a b r u v 0) j)]), (List.length (jW n m a b r u v 1), fun j => [i (nthI (jW n m a b r u v 1) j)]), (List.length (jW n m a b r u v 2), fun j => [i (nthI (jW n m a b r u v 2) j)]), (List.length (jW n m a b r u v 3), fun j => [i (nthI (jW n m a b r u v 3) j)]), (List.length (jW n m a b r u v 4), fun j => [i (nthI (jW n m a b r u v 4) j)]), (List.length (jW n m a b r u v 5), fun j => [i (nthI (jW n m a b r u v 5) j)]), (List.length (jW n m a b r u v 6), fun j => [i (nthI (jW n m a b r u v 6) j)]), (List.length (jW n m a b r u v 7), fun j => [i (nthI (jW n m a b r u v 7) j)])] (0 + k * 1)) : Int) == (0 : Int)) (Tree.need [(↑k : Int) = (↑(bst (fun j => List.length (jW n m a b r u v j)) n) : Int), AV.ptr 9 0 = AV.ptr 9 0, (↑n : Int) = (↑n : Int), (AV.lst 1 (List.length (jW n m a b r u v 0)) fun j => [iI (nthI (jW n m a b r u v 0) j)]) = AV.lst 1 (List.length (jW n m a b r u v 0)) fun j => [iI (nthI (jW n m a b r u v 0) j)], (AV.lst 1 (List.length (jW n m a b r u v 1)) fun j => [iI (nthI (jW n m a b r u v 1) j)]) = AV.lst 1 (List.length (jW n m a b r u v 1)) fun j => [iI (nthI (jW n m a b r u v 1) j)], (AV.lst 1 (List.length (jW n m a b r u v 2)) fun j => [iI (nthI (jW n m a b r u v 2) j)]) = AV.lst 1 (List.length (jW n m a b r u v 2)) fun j => [iI (nthI (jW n m a b r u v 2) j)], (AV.lst 1 (List.length (jW n m a b r u v 3)) fun j => [iI (nthI (jW n m a b r u v 3) j)]) = AV.lst 1 (List.length (jW n m a b r u v 3)) fun j => [iI (nthI (jW n m a b r u v 3) j)], (AV.lst 1 (List.length (jW n m a b r u v 4)) fun j => [iI (nthI (jW n m a b r u v 4) j)]) = AV.lst 1 (List.length (jW n m a b r u v 4)) fun j => [iI (nthI (jW n m a b r u v 4) j)], (AV.lst 1 (List.length (jW n m a b r u v 5)) fun j => [iI (nthI (jW n m a b r u v 5) j)]) = AV.lst 1 (List.length (jW n m a b r u v 5)) fun j => [iI (nthI (jW n m a b r u v 5) j)], (AV.lst 1 (List.length (jW n m a b r u v 6)) fun j => [iI (nthI (jW n m a b r u v 6) j)]) = AV.lst 1 (List.length (jW n m a b r u v 6)) fun j => [iI (nthI (jW n m a b r u v 6) j)], (AV.lst 1 (List.length (jW n m a b r u v 7)) fun j => [iI (nthI (jW n m a b r u v 7) j)]) = AV.lst 1 (List.length (jW n m a b r u v 7)) fun j => [iI (nthI (jW n m a b r u v 7) j)]] (Tree.leaf (AEx.exit 1))) (Tree.need [inI64 ((↑k : Int) + (1 : Int))] (Tree.need [(↑k : Int) = (↑(bst (fun j => List.length (jW n m a b r u v j)) (k + 1)) : Int), AV.ptr 9 0 = AV.ptr 9 0, (↑n : Int) = (↑n : Int), (↑k : Int) + (1 : Int) = (↑(k + 1) : Int), (AV.lst 1 (List.length (jW n m a b r u v 0)) fun j => [iI (nthI (jW n m a b r u v 0) j)]) = AV.lst 1 (List.length (jW n m a b r u v 0)) fun j => [iI (nthI (jW n m a b r u v 0) j)], (AV.lst 1 (List.length (jW n m a b r u v 1)) fun j => [iI (nthI (jW n m a b r u v 1) j)]) = AV.lst 1 (List.length (jW n m a b r u v 1)) fun j => [iI (nthI (jW n m a b r u v 1) j)], (AV.lst 1 (List.length (jW n m a b r u v 2)) fun j => [iI (nthI (jW n m a b r u v 2) j)]) = AV.lst 1 (List.length (jW n m a b r u v 2)) fun j => [iI (nthI (jW n m a b r u v 2) j)], (AV.lst 1 (List.length (jW n m a b r u v 3)) fun j => [iI (nthI (jW n m a b r u v 3) j)]) = AV.lst 1 (List.length (jW n m a b r u v 3)) fun j => [iI (nthI (jW n m a b r u v 3) j)], (AV.lst 1 (List.length (jW n m a b r u v 4)) fun j => [iI (nthI (jW n m a b r u v 4) j)]) = AV.lst 1 (List.length (jW n m a b r u v 4)) fun j => [iI (nthI (jW n m a b r u v 4) j)], (AV.lst 1 (List.length (jW n m a b r u v 5)) fun j => [iI (nthI (jW n m a b r u v 5) j)]) = AV.lst 1 (List.length (jW n m a b r u v 5)) fun j => [iI (nthI (jW n m a b r u v 5) j)], (AV.lst 1 (List.length (jW n m a b r u v 6)) fun j => [iI (nthI (jW n m a b r u v 6) j)]) = AV.lst 1 (List.length (jW n m a b r u v 6)) fun j => [iI (nthI (jW n m a b r u v 6) j)], (AV.lst 1 (List.length (jW n m a b r u v 7)) fun j => [iI (nthI (jW n m a b r u v 7) j)]) = AV.lst 1 (List.length (jW n m a b r u v 7)) fun j => [iI (nthI (jW n m a b r u v 7) j)]] (Tree.leaf AEx.normal)))))) (Tree.need [(0 : Int) ≤ (↑(bst (fun j => List.length (jW n m a b r u v j)) k) : Int) ∧ (↑(bst (fun j => List.length (jW n m a b r u v j)) k) : Int) < (↑(8 : Nat) : Int)] (Tree.need [0 + bst (fun j => List.length (jW n m a b r u v j)) k * 1 < List.length (jWs n m a b r u v)] (Tree.branch ((↑(nthN [(List.length (jW n m a b r u v 0), fun j => [i (nthI (jW n m a b r u v 0) j)]), (List.length (jW n m a b r u v 1), fun j => [i (nthI (jW n m a b r u v 1) j)]), (List.length (jW n m a b r u v 2), fun j => [i (nthI (jW n m a b r u v 2) j)]), (List.length (jW n m a b r u v 3), fun j => [i (nthI (jW n m a b r u v 3) j)]), (List.length (jW n m a b r u v 4), fun j => [i (nthI (jW n m a b r u v 4) j)]), (List.length (jW n m a b r u v 5), fun j => [i (nthI (jW n m a b r u v 5) j)]), (List.length (jW n m a b r u v 6), fun j => [i (nthI (jW n m a b r u v 6) j)]), (List.length (jW n m a b r u v 7), fun j => [i (nthI (jW n m a b r u v 7) j)])] (0 + bst (fun j => List.length (jW n m a b r u v j)) k * 1)) : Int) == (0 : Int)) (Tree.need [(↑(bst (fun j => List.length (jW n m a b r u v j)) k) : Int) = (↑(bst (fun j => List.length (jW n m a b r u v j)) n) : Int), AV.ptr 9 0 = AV.ptr 9 0, (↑n : Int) = (↑n : Int), (AV.lst 1 (List.length (jW n m a b r u v 0)) fun j => [iI (nthI (jW n m a b r u v 0) j)]) = AV.lst 1 (List.length (jW n m a b r u v 0)) fun j => [iI (nthI (jW n m a b r u v 0) j)], (AV.lst 1 (List.length (jW n m a b r u v 1)) fun j => [iI (nthI (jW n m a b r u v 1) j)]) = AV.lst 1 (List.length (jW n m a b r u v 1)) fun j => [iI (nthI (jW n m a b r u v 1) j)], (AV.lst 1 (List.length (jW n m a b r u v 2)) fun j => [iI (nthI (jW n m a b r u v 2) j)]) = AV.lst 1 (List.length (jW n m a b r u v 2)) fun j => [iI (nthI (jW n m a b r u v 2) j)], (AV.lst 1 (List.length (jW n m a b r u v 3)) fun j => [iI (nthI (jW n m a b r u v 3) j)]) = AV.lst 1 (List.length (jW n m a b r u v 3)) fun j => [iI (nthI (jW n m a b r u v 3) j)], (AV.lst 1 (List.length (jW n m a b r u v 4)) fun j => [iI (nthI (jW n m a b r u v 4) j)]) = AV.lst 1 (List.length (jW n m a b r u v 4)) fun j => [iI (nthI (jW n m a b r u v 4) j)], (AV.lst 1 (List.length (jW n m a b r u v 5)) fun j => [iI (nthI (jW n m a b r u v 5) j)]) = AV.lst 1 (List.length (jW n m a b r u v 5)) fun j => [iI (nthI (jW n m a b r u v 5) j)], (AV.lst 1 (List.length (jW n m a b r u v 6)) fun j => [iI (nthI (jW n m a b r u v 6) j)]) = AV.lst 1 (List.length (jW n m a b r u v 6)) fun j => [iI (nthI (jW n m a b r u v 6) j)], (AV.lst 1 (List.length (jW n m a b r u v 7)) fun j => [iI (nthI (jW n m a b r u v 7) j)]) = AV.lst 1 (List.length (jW n m a b r u v 7)) fun j => [iI (nthI (jW n m a b r u v 7) j)]] (Tree.leaf (AEx.exit 1))) (Tree.need [inI64 ((↑k : Int) + (1 : Int))] (Tree.need [(↑(bst (fun j => List.length (jW n m a b r u v j)) k) : Int) = (↑(bst (fun j => List.length (jW n m a b r u v j)) (k + 1)) : Int), AV.ptr 9 0 = AV.ptr 9 0, (↑n : Int) = (↑n : Int), (↑k : Int) + (1 : Int) = (↑(k + 1) : Int), (AV.lst 1 (List.length (jW n m a b r u v 0)) fun j => [iI (nthI (jW n m a b r u v 0) j)]) = AV.lst 1 (List.length (jW n m a b r u v 0)) fun j => [iI (nthI (jW n m a b r u v 0) j)], (AV.lst 1 (List.length (jW n m a b r u v 1)) fun j => [iI (nthI (jW n m a b r u v 1) j)]) = AV.lst 1 (List.length (jW n m a b r u v 1)) fun j => [iI (nthI (jW n m a b r u v 1) j)], (AV.lst 1 (List.length (jW n m a b r u v 2)) fun j => [iI (nthI (jW n m a b r u v 2) j)]) = AV.lst 1 (List.length (jW n m a b r u v 2)) fun j => [iI (nthI (jW n m a b r u v 2) j)], (AV.lst 1 (List.length (jW n m a b r u v 3)) fun j => [iI (nthI (jW n m a b r u v 3) j)]) = AV.lst 1 (List.length (jW n m a b r u v 3)) fun j => [iI (nthI (jW n m a b r u v 3) j)], (AV.lst 1 (List.length (jW n m a b r u v 4)) fun j => [iI (nthI (jW n m a b r u v 4) j)]) = AV.lst 1 (List.length (jW n m a b r u v 4)) fun j => [iI (nthI (jW n m a b r u v 4) j)], (AV.lst 1 (List.length (jW n m a b r u v 5)) fun j => [iI (nthI (jW n m a b r u v 5) j)]) = AV.lst 1 (List.length (jW n m a b r u v 5)) fun j => [iI (nthI (jW n m a b r u v 5) j)], (AV.lst 1 (List.length (jW n m a b r u v 6)) fun j => [iI (nthI (jW n m a b r u v 6) j)]) = AV.lst 1 (List.length (jW n m a b r u v 6)) fun j => [iI (nthI (jW n m a b r u v 6) j)], (AV.lst 1 (List.length (jW n m a b r u v 7)) fun j => [iI (nthI (jW n m a b r u v 7) j)]) = AV.lst 1 (List.length (jW n m a b r u v 7)) fun j => [iI (nthI (jW n m a b r u v 7) j)]] (Tree.leaf AEx.normal))))))))))) (Tree.need [(↑(bst (fun j => List.length (jW n m a b r u v j)) k) : Int) = (↑(bst (fun j => List.length (jW n m a b r u v j)) n) : Int), AV.ptr 9 0 = AV.ptr 9 0, (↑n : Int) = (↑n : Int), (AV.lst 1 (List.length (jW n m a b r u v 0)) fun j => [iI (nthI (jW n m a b r u v 0) j)]) = AV.lst 1 (List.length (jW n m a b r u v 0)) fun j => [iI (nthI (jW n m a b r u v 0) j)], (AV.lst 1 (List.length (jW n m a b r u v 1)) fun j => [iI (nthI (jW n m a b r u v 1) j)]) = AV.lst 1 (List.length (jW n m a b r u v 1)) fun j => [iI (nthI (jW n m a b r u v 1) j)], (AV.lst 1 (List.length (jW n m a b r u v 2)) fun j => [iI (nthI (jW n m a b r u v 2) j)]) = AV.lst 1 (List.length (jW n m a b r u v 2)) fun j => [iI (nthI (jW n m a b r u v 2) j)], (AV.lst 1 (List.length (jW n m a b r u v 3)) fun j => [iI (nthI (jW n m a b r u v 3) j)]) = AV.lst 1 (List.length (jW n m a b r u v 3)) fun j => [iI (nthI (jW n m a b r u v 3) j)], (AV.lst 1 (List.length (jW n m a b r u v 4)) fun j => [iI (nthI (jW n m a b r u v 4) j)]) = AV.lst 1 (List.length (jW n m a b r u v 4)) fun j => [iI (nthI (jW n m a b r u v 4) j)], (AV.lst 1 (List.length (jW n m a b r u v 5)) fun j => [iI (nthI (jW n m a b r u v 5) j)]) = AV.lst 1 (List.length (jW n m a b r u v 5)) fun j => [iI (nthI (jW n m a b r u v 5) j)], (AV.lst 1 (List.length (jW n m a b r u v 6)) fun j => [iI (nthI (jW n m a b r u v 6) j)]) = AV.lst 1 (List.length (jW n m a b r u v 6)) fun j => [iI (nthI (jW n m a b r u v 6) j)], (AV.lst 1 (List.length (jW n m a b r u v 7)) fun j => [iI (nthI (jW n m a b r u v 7) j)]) = AV.lst 1 (List.length (jW n m a b r u v 7)) fun j => [iI (nthI (jW n m a b r u v 7) j)]] (Tree.leaf (AEx.exit 1)))) := by kernel_rfl
    rw [e]
    simp only [T_wg, out_wg, Tree.sat, Option.getD_some] at hQ
    have hQ1 : ∀ E, out_wg n m a b r u v k (.exit 1) = some E → Q (.exit 1, E) := fun E hE => by cases hE; exact hQ
    have h8 : (jWs n m a b r u v).length = 8 := rfl
    have e0 : 0 + k * 1 = k := by omega
    have hb := bst_lt (fun j => (jW n m a b r u v j).length) k
    have hz := bst_zero (fun j => (jW n m a b r u v j).length) (k := k + 1)
    have hs : bst (fun j => (jW n m a b r u v j).length) (k + 1) = if (jW n m a b r u v k).length < (jW n m a b r u v (bst (fun j => (jW n m a b r u v j).length) k)).length then k else bst (fun j => (jW n m a b r u v j).length) k := rfl
    have e1 : 0 + (bst (fun j => (jW n m a b r u v j).length) k) * 1 = bst (fun j => (jW n m a b r u v j).length) k := by omega
    rw [h8]
    simp only [Tree.sat, allP, true_and, and_true, decide_eq_true_eq, decide_eq_false_iff_not, inI64, e0, e1]
    clear e hQ e0 e1
    by_cases hk : k < n
    · generalize hB : bst (fun j => (jW n m a b r u v j).length) k = B at *
      have hB8 : B < 8 := by omega
      rw [nth_jW n m a b r u v (show k < 8 by omega), nth_jW n m a b r u v hB8]
      by_cases hl : (jW n m a b r u v k).length < (jW n m a b r u v B).length
      · rw [if_pos hl] at hs
        rw [hs] at hz ⊢
        by_cases h0 : (jW n m a b r u v k).length = 0
        · have hz' := hz h0 n (by omega)
          have ez : (((jW n m a b r u v k).length : Int) == 0) = true := by simp [h0]
          rw [ez]
          repeat' first | with_reducible apply And.intro | with_reducible intro _
          all_goals first | exact True.intro | omega | with_reducible rfl | contradiction | exact hQ1 _ (by assumption)
        · have ez : (((jW n m a b r u v k).length : Int) == 0) = false := by rw [beq_eq_false_iff_ne]; omega
          rw [ez]
          clear hz
          repeat' first | with_reducible apply And.intro | with_reducible intro _
          all_goals first | exact True.intro | omega | with_reducible rfl | contradiction
      · rw [if_neg hl] at hs
        rw [hs] at hz ⊢
        by_cases h0 : (jW n m a b r u v B).length = 0
        · have hz' := hz h0 n (by omega)
          have ez : (((jW n m a b r u v B).length : Int) == 0) = true := by simp [h0]
          rw [ez]
          repeat' first | with_reducible apply And.intro | with_reducible intro _
          all_goals first | exact True.intro | omega | with_reducible rfl | contradiction | exact hQ1 _ (by assumption)
        · have ez : (((jW n m a b r u v B).length : Int) == 0) = false := by rw [beq_eq_false_iff_ne]; omega
          rw [ez]
          clear hz
          repeat' first | with_reducible apply And.intro | with_reducible intro _
          all_goals first | exact True.intro | omega | with_reducible rfl | contradiction
    · obtain rfl : k = n := by omega
      clear hz hs
      repeat' first | with_reducible apply And.intro | with_reducible intro _
      all_goals first | exact True.intro | omega | with_reducible rfl | assumption | exact hQ1 _ (by assumption)

set_option maxRecDepth 100000 in
theorem Wrong_at (n m : Nat) (a b r u v : Nat → Int) (pre0 : n ≤ 100000) (pre1 : m ≤ 100000) : SoundAtR Try.prog 45 [scs n a b, ens m r u v] (.tup [i (wgN n m a b r u v), inl (wgL n m a b r u v), i (wgE n m a b r u v)]) := by
  refine soundAtR_fin (G := [(73, S_judged), (74, S_clone)]) (X := { R := [], H := [] }) (L := [needSp [n ≤ 8] (LS_wg n m a b r u v)]) (SoundG.cons judged_ok (SoundG.cons clone_ok (SoundG.nil _))) (SoundX.of (SoundRL.nil _) (SoundHL.nil _)) mixed Try.func45 (show Try.f45.body = some (bodyOf Try.f45) by kernel_rfl) (one_loop (fun cj hcj => by
    have e : loopAt (bodyOf Try.f45) 0 = some (.loop B_wg) := by kernel_rfl
    rw [e] at hcj; cases hcj
    exact (needSp_sound (ps := [n ≤ 8]) (fun h => wg_ls n m a b r u v h)).N)) (t := (Tree.need [isRec 2 n fun k => [i (a k), i (b k)], isRec 3 m fun k => [i (r k), i (u k), i (v k)], n ≤ 100000, m ≤ 100000] (Tree.branch (ddE n m a b r u v != (0 : Int)) (Tree.leaf (AV.tup [iI (0 : Int), AV.x (Value.slice none 0 0), iI (ddE n m a b r u v)])) (Tree.branch ((↑n : Int) == (0 : Int)) (Tree.leaf (AV.tup [iI (0 : Int), AV.x (Value.slice none 0 0), iI (7 : Int)])) (Tree.need [n ≤ 8] (Tree.need [(0 : Int) = (↑(bst (fun j => List.length (jW n m a b r u v j)) 0) : Int), AV.ptr 9 0 = AV.ptr 9 0, (↑n : Int) = (↑n : Int), (0 : Int) = (↑(0 : Nat) : Int), (AV.lst 1 (List.length (jW n m a b r u v 0)) fun j => [iI (nthI (jW n m a b r u v 0) j)]) = AV.lst 1 (List.length (jW n m a b r u v 0)) fun j => [iI (nthI (jW n m a b r u v 0) j)], (AV.lst 1 (List.length (jW n m a b r u v 1)) fun j => [iI (nthI (jW n m a b r u v 1) j)]) = AV.lst 1 (List.length (jW n m a b r u v 1)) fun j => [iI (nthI (jW n m a b r u v 1) j)], (AV.lst 1 (List.length (jW n m a b r u v 2)) fun j => [iI (nthI (jW n m a b r u v 2) j)]) = AV.lst 1 (List.length (jW n m a b r u v 2)) fun j => [iI (nthI (jW n m a b r u v 2) j)], (AV.lst 1 (List.length (jW n m a b r u v 3)) fun j => [iI (nthI (jW n m a b r u v 3) j)]) = AV.lst 1 (List.length (jW n m a b r u v 3)) fun j => [iI (nthI (jW n m a b r u v 3) j)], (AV.lst 1 (List.length (jW n m a b r u v 4)) fun j => [iI (nthI (jW n m a b r u v 4) j)]) = AV.lst 1 (List.length (jW n m a b r u v 4)) fun j => [iI (nthI (jW n m a b r u v 4) j)], (AV.lst 1 (List.length (jW n m a b r u v 5)) fun j => [iI (nthI (jW n m a b r u v 5) j)]) = AV.lst 1 (List.length (jW n m a b r u v 5)) fun j => [iI (nthI (jW n m a b r u v 5) j)], (AV.lst 1 (List.length (jW n m a b r u v 6)) fun j => [iI (nthI (jW n m a b r u v 6) j)]) = AV.lst 1 (List.length (jW n m a b r u v 6)) fun j => [iI (nthI (jW n m a b r u v 6) j)], (AV.lst 1 (List.length (jW n m a b r u v 7)) fun j => [iI (nthI (jW n m a b r u v 7) j)]) = AV.lst 1 (List.length (jW n m a b r u v 7)) fun j => [iI (nthI (jW n m a b r u v 7) j)]] (Tree.need [(0 : Int) ≤ (↑(bst (fun j => List.length (jW n m a b r u v j)) n) : Int) ∧ (↑(bst (fun j => List.length (jW n m a b r u v j)) n) : Int) < (↑(8 : Nat) : Int)] (Tree.need [0 + bst (fun j => List.length (jW n m a b r u v j)) n * 1 < List.length (jWs n m a b r u v)] (Tree.need [isRec 1 (nthN [(List.length (jW n m a b r u v 0), fun j => [i (nthI (jW n m a b r u v 0) j)]), (List.length (jW n m a b r u v 1), fun j => [i (nthI (jW n m a b r u v 1) j)]), (List.length (jW n m a b r u v 2), fun j => [i (nthI (jW n m a b r u v 2) j)]), (List.length (jW n m a b r u v 3), fun j => [i (nthI (jW n m a b r u v 3) j)]), (List.length (jW n m a b r u v 4), fun j => [i (nthI (jW n m a b r u v 4) j)]), (List.length (jW n m a b r u v 5), fun j => [i (nthI (jW n m a b r u v 5) j)]), (List.length (jW n m a b r u v 6), fun j => [i (nthI (jW n m a b r u v 6) j)]), (List.length (jW n m a b r u v 7), fun j => [i (nthI (jW n m a b r u v 7) j)])] (0 + bst (fun j => List.length (jW n m a b r u v j)) n * 1)) (nthF [(List.length (jW n m a b r u v 0), fun j => [i (nthI (jW n m a b r u v 0) j)]), (List.length (jW n m a b r u v 1), fun j => [i (nthI (jW n m a b r u v 1) j)]), (List.length (jW n m a b r u v 2), fun j => [i (nthI (jW n m a b r u v 2) j)]), (List.length (jW n m a b r u v 3), fun j => [i (nthI (jW n m a b r u v 3) j)]), (List.length (jW n m a b r u v 4), fun j => [i (nthI (jW n m a b r u v 4) j)]), (List.length (jW n m a b r u v 5), fun j => [i (nthI (jW n m a b r u v 5) j)]), (List.length (jW n m a b r u v 6), fun j => [i (nthI (jW n m a b r u v 6) j)]), (List.length (jW n m a b r u v 7), fun j => [i (nthI (jW n m a b r u v 7) j)])] (0 + bst (fun j => List.length (jW n m a b r u v j)) n * 1)), nthN [(List.length (jW n m a b r u v 0), fun j => [i (nthI (jW n m a b r u v 0) j)]), (List.length (jW n m a b r u v 1), fun j => [i (nthI (jW n m a b r u v 1) j)]), (List.length (jW n m a b r u v 2), fun j => [i (nthI (jW n m a b r u v 2) j)]), (List.length (jW n m a b r u v 3), fun j => [i (nthI (jW n m a b r u v 3) j)]), (List.length (jW n m a b r u v 4), fun j => [i (nthI (jW n m a b r u v 4) j)]), (List.length (jW n m a b r u v 5), fun j => [i (nthI (jW n m a b r u v 5) j)]), (List.length (jW n m a b r u v 6), fun j => [i (nthI (jW n m a b r u v 6) j)]), (List.length (jW n m a b r u v 7), fun j => [i (nthI (jW n m a b r u v 7) j)])] (0 + bst (fun j => List.length (jW n m a b r u v j)) n * 1) ≤ 100000] (Tree.leaf (AV.tup [iI (↑(bst (fun j => List.length (jW n m a b r u v j)) n) : Int), AV.lst 1 (nthN [(List.length (jW n m a b r u v 0), fun j => [i (nthI (jW n m a b r u v 0) j)]), (List.length (jW n m a b r u v 1), fun j => [i (nthI (jW n m a b r u v 1) j)]), (List.length (jW n m a b r u v 2), fun j => [i (nthI (jW n m a b r u v 2) j)]), (List.length (jW n m a b r u v 3), fun j => [i (nthI (jW n m a b r u v 3) j)]), (List.length (jW n m a b r u v 4), fun j => [i (nthI (jW n m a b r u v 4) j)]), (List.length (jW n m a b r u v 5), fun j => [i (nthI (jW n m a b r u v 5) j)]), (List.length (jW n m a b r u v 6), fun j => [i (nthI (jW n m a b r u v 6) j)]), (List.length (jW n m a b r u v 7), fun j => [i (nthI (jW n m a b r u v 7) j)])] (0 + bst (fun j => List.length (jW n m a b r u v j)) n * 1)) fun k => [iI (col 0 (nthF [(List.length (jW n m a b r u v 0), fun j => [i (nthI (jW n m a b r u v 0) j)]), (List.length (jW n m a b r u v 1), fun j => [i (nthI (jW n m a b r u v 1) j)]), (List.length (jW n m a b r u v 2), fun j => [i (nthI (jW n m a b r u v 2) j)]), (List.length (jW n m a b r u v 3), fun j => [i (nthI (jW n m a b r u v 3) j)]), (List.length (jW n m a b r u v 4), fun j => [i (nthI (jW n m a b r u v 4) j)]), (List.length (jW n m a b r u v 5), fun j => [i (nthI (jW n m a b r u v 5) j)]), (List.length (jW n m a b r u v 6), fun j => [i (nthI (jW n m a b r u v 6) j)]), (List.length (jW n m a b r u v 7), fun j => [i (nthI (jW n m a b r u v 7) j)])] (0 + bst (fun j => List.length (jW n m a b r u v j)) n * 1)) k)], iI (0 : Int)]))))))))))) (by kernel_rfl) ?_
  have rI : ∀ x y : Int, repP (iI x) (i y) = (x = y) := fun x y => by simp [repP, valEq]
  have rT : ∀ l l' : List AV, repP (.tup l) (.tup l') = repPL l l' := fun l l' => by simp [repP]
  have rN : ∀ l : List Int, l = [] → repP (.x (.slice none 0 0)) (inl l) := fun l h => by subst h; simp [repP, isNil]
  simp only [Tree.sat, allP, rT, rI, repPL, true_and, and_true, col20, col21, col30, col31, col32]
  refine ⟨⟨isRec2 n a b, isRec3 m r u v, pre0, pre1⟩, fun h => ?_, fun h => ⟨fun h2 => ?_, fun h2 => ?_⟩⟩
  · have h' : ddE n m a b r u v ≠ 0 := by simpa using h
    have hw : wgE n m a b r u v = ddE n m a b r u v := by unfold wgE; rw [if_neg h']
    have hw' : wgE n m a b r u v ≠ 0 := by rw [hw]; exact h'
    exact ⟨by unfold wgN; rw [if_neg hw'], rN _ (by unfold wgL; rw [if_neg hw']), hw.symm⟩
  · have h' : ddE n m a b r u v = 0 := by simpa using h
    have h2' : n = 0 := by simp at h2; omega
    have hw : wgE n m a b r u v = 7 := by unfold wgE; rw [if_pos h', if_pos h2']
    exact ⟨by unfold wgN; rw [if_neg (by omega)], rN _ (by unfold wgL; rw [if_neg (by omega)]), hw.symm⟩
  · have h' : ddE n m a b r u v = 0 := by simpa using h
    have h2' : n ≠ 0 := by rw [beq_eq_false_iff_ne] at h2; omega
    have hw : wgE n m a b r u v = 0 := by unfold wgE; rw [if_pos h', if_neg h2']
    have h8 : n ≤ 8 := by
      unfold ddE at h'
      split at h' <;> omega
    have hb := (bst_lt (fun j => (jW n m a b r u v j).length) n).2 (by omega)
    have hS : wgS n m a b r u v = bst (fun j => (jW n m a b r u v j).length) n := rfl
    have e1 : 0 + (bst (fun j => (jW n m a b r u v j).length) n) * 1 = wgS n m a b r u v := by omega
    have hlen : (jWs n m a b r u v).length = 8 := rfl
    have hm : m ≤ 12 := by
      unfold ddE at h'
      split at h' <;> omega
    have hjl : (jW n m a b r u v (wgS n m a b r u v)).length ≤ m := by
      unfold jW
      split
      · exact wrL_len _ _
      · simp
    rw [e1, hlen, nth_jW n m a b r u v (show wgS n m a b r u v < 8 by omega), nthF_jW n m a b r u v (show wgS n m a b r u v < 8 by omega)]
    rw [← hS]
    have fN : wgN n m a b r u v = (wgS n m a b r u v : Int) := by unfold wgN; rw [if_pos hw]
    have fL : wgL n m a b r u v = jW n m a b r u v (wgS n m a b r u v) := by unfold wgL; rw [if_pos hw]
    rw [fN, fL, hw]
    refine ⟨h8, ?_, by omega, by omega, ⟨isRec1 _ _, by omega⟩, rfl, ?_⟩
    · repeat' first | with_reducible apply And.intro | with_reducible intro _
      all_goals first | exact True.intro | omega | with_reducible rfl | exact rfl
    · exact ⟨⟨rfl, rfl, fun j hj => rfl⟩, rfl⟩


def S_Wrong : Sx.Spec := fun l => match l with
  | [.lst 2 n f, .lst 3 m g] => some ([isRec 2 n f, isRec 3 m g, n ≤ 100000, m ≤ 100000], .tup [i (wgN n m (col 0 f) (col 1 f) (col 0 g) (col 1 g) (col 2 g)), inl (wgL n m (col 0 f) (col 1 f) (col 0 g) (col 1 g) (col 2 g)), i (wgE n m (col 0 f) (col 1 f) (col 0 g) (col 1 g) (col 2 g))])
  | _ => none


theorem soundAtR_same {P : Program} {f : FuncId} {avs avs' : List AV} {res : AV} (h : SoundAtR P f avs' res) (k : Sames avs avs') : SoundAtR P f avs res :=
  fun e w args hro hidf hrep => h e w args hro (k.idf hidf) (k.rep hrep)
theorem Wrong_okR : SoundR Try.prog 45 S_Wrong := by
  refine ⟨⟨_, Try.func45, by kernel_rfl, by kernel_rfl⟩, ?_⟩
  intro avs ns res h hn
  unfold S_Wrong at h
  split at h
  · rename_i n f m g
    cases h
    have hr : isRec 2 n f := hn _ (by simp)
    have hr2 : isRec 3 m g := hn _ (by simp)
    exact soundAtR_same (Wrong_at n m (col 0 f) (col 1 f) (col 0 g) (col 1 g) (col 2 g) (hn _ (by simp)) (hn _ (by simp))) (.cons (.lst 2 n _ _ hr) (.cons (.lst 3 m _ _ hr2) .nil))
  · cases h

end Go.Proofs.Ytchcegfhamngkaa
/- Contracts of functions of the program, by the engine Sx: what each call comes to. Printed by a program of this repo (sxgen.py). -/
set_option linter.unusedSimpArgs false
set_option linter.unusedVariables false
namespace Go.Proofs.Ytchcegfhamngkaa
open Go Go.Sx Go.RowKit
def S_wakes : Sx.Spec := fun l => match l with
  | [] => some ([], bl true)
  | _ => none

set_option maxRecDepth 100000 in
theorem wakes_at  : SoundAt Try.prog 16 [] (bl true) := by
  refine soundAt_finX (G := [(49, S_kinds), (35, S_between), (36, S_pHeights), (22, S_Convert), (28, S_Corrected), (50, S_steam), (51, S_book), (48, S_ints)]) (X := { R := [(45, S_Wrong)], H := [] }) (L := []) (SoundG.cons kinds_ok (SoundG.cons between_ok (SoundG.cons pHeights_ok (SoundG.cons Convert_ok (SoundG.cons Corrected_ok (SoundG.cons steam_ok (SoundG.cons book_ok (SoundG.cons ints_ok (SoundG.nil _))))))))) (SoundX.of (SoundRL.cons Wrong_okR (SoundRL.nil _)) (SoundHL.nil _)) mixed Try.func16 (show Try.f16.body = some (bodyOf Try.f16) by kernel_rfl) noLoopsS (t := (Tree.need [(0 : Int) ≤ (1 : Int) ∧ (1 : Int) < (↑(4 : Nat) : Int)] (Tree.need [(0 : Int) ≤ (0 : Int) ∧ (0 : Int) < (↑(4 : Nat) : Int)] (Tree.need [(0 : Int) ≤ (1 : Int) ∧ (1 : Int) < (↑(4 : Nat) : Int)] (Tree.need [(0 : Int) ≤ (0 : Int) ∧ (0 : Int) < (↑(4 : Nat) : Int)] (Tree.need [isRec 2 3 (chunk 2 [iI (720 : Int), iI (985 : Int), iI (760 : Int), iI (1000 : Int), iI (800 : Int), iI (1014 : Int)]), 3 ≤ 100000] (Tree.need [isRec 3 1 (chunk 3 [iI (10 : Int), iI (400 : Int), iI (410 : Int)])] (Tree.need [isRec 2 4 (chunk 2 [iI (0 : Int), iI (100 : Int), iI (32 : Int), iI (212 : Int), iI (0 : Int), iI (80 : Int), iI (150 : Int), iI (0 : Int)]), isRec 3 3 (chunk 3 [iI (68 : Int), iI (190 : Int), iI (210 : Int), iI (212 : Int), iI (1000 : Int), iI (1000 : Int), iI (col 0 (chunk 3 [iI (10 : Int), iI (400 : Int), iI (410 : Int)]) 0), iI (col 1 (chunk 3 [iI (10 : Int), iI (400 : Int), iI (410 : Int)]) 0), iI (col 2 (chunk 3 [iI (10 : Int), iI (400 : Int), iI (410 : Int)]) 0)]), 4 ≤ 100000, 3 ≤ 100000] (Tree.branch (hgErr (32 : Int) (212 : Int) (68 : Int) (68 : Int) == (0 : Int)) (Tree.branch ((if hgOk (32 : Int) (212 : Int) (68 : Int) (68 : Int) = true then hgLo (32 : Int) (212 : Int) (68 : Int) (68 : Int) else (0 : Int)) == (197 : Int) && ((if hgOk (32 : Int) (212 : Int) (68 : Int) (68 : Int) = true then hgHi (32 : Int) (212 : Int) (68 : Int) (68 : Int) else (0 : Int)) == (203 : Int) && true)) (Tree.branch (cvE (0 : Int) (100 : Int) (32 : Int) (212 : Int) (20 : Int) (20 : Int) == (0 : Int)) (Tree.branch (cvLo (0 : Int) (100 : Int) (32 : Int) (212 : Int) (20 : Int) (20 : Int) == (67 : Int) && (cvHi (0 : Int) (100 : Int) (32 : Int) (212 : Int) (20 : Int) (20 : Int) == (69 : Int) && true)) (Tree.branch (coE 3 (col 0 (chunk 2 [iI (720 : Int), iI (985 : Int), iI (760 : Int), iI (1000 : Int), iI (800 : Int), iI (1014 : Int)])) (col 1 (chunk 2 [iI (720 : Int), iI (985 : Int), iI (760 : Int), iI (1000 : Int), iI (800 : Int), iI (1014 : Int)])) (0 : Int) (100 : Int) (750 : Int) (770 : Int) (50 : Int) (50 : Int) == (0 : Int)) (Tree.branch (coLo 3 (col 0 (chunk 2 [iI (720 : Int), iI (985 : Int), iI (760 : Int), iI (1000 : Int), iI (800 : Int), iI (1014 : Int)])) (col 1 (chunk 2 [iI (720 : Int), iI (985 : Int), iI (760 : Int), iI (1000 : Int), iI (800 : Int), iI (1014 : Int)])) (0 : Int) (100 : Int) (750 : Int) (770 : Int) (50 : Int) (50 : Int) == (493 : Int) && (coHi 3 (col 0 (chunk 2 [iI (720 : Int), iI (985 : Int), iI (760 : Int), iI (1000 : Int), iI (800 : Int), iI (1014 : Int)])) (col 1 (chunk 2 [iI (720 : Int), iI (985 : Int), iI (760 : Int), iI (1000 : Int), iI (800 : Int), iI (1014 : Int)])) (0 : Int) (100 : Int) (750 : Int) (770 : Int) (50 : Int) (50 : Int) == (507 : Int) && true)) (Tree.branch (wgE 4 3 (col 0 (chunk 2 [iI (0 : Int), iI (100 : Int), iI (32 : Int), iI (212 : Int), iI (0 : Int), iI (80 : Int), iI (150 : Int), iI (0 : Int)])) (col 1 (chunk 2 [iI (0 : Int), iI (100 : Int), iI (32 : Int), iI (212 : Int), iI (0 : Int), iI (80 : Int), iI (150 : Int), iI (0 : Int)])) (col 0 (chunk 3 [iI (68 : Int), iI (190 : Int), iI (210 : Int), iI (212 : Int), iI (1000 : Int), iI (1000 : Int), iI (col 0 (chunk 3 [iI (10 : Int), iI (400 : Int), iI (410 : Int)]) 0), iI (col 1 (chunk 3 [iI (10 : Int), iI (400 : Int), iI (410 : Int)]) 0), iI (col 2 (chunk 3 [iI (10 : Int), iI (400 : Int), iI (410 : Int)]) 0)])) (col 1 (chunk 3 [iI (68 : Int), iI (190 : Int), iI (210 : Int), iI (212 : Int), iI (1000 : Int), iI (1000 : Int), iI (col 0 (chunk 3 [iI (10 : Int), iI (400 : Int), iI (410 : Int)]) 0), iI (col 1 (chunk 3 [iI (10 : Int), iI (400 : Int), iI (410 : Int)]) 0), iI (col 2 (chunk 3 [iI (10 : Int), iI (400 : Int), iI (410 : Int)]) 0)])) (col 2 (chunk 3 [iI (68 : Int), iI (190 : Int), iI (210 : Int), iI (212 : Int), iI (1000 : Int), iI (1000 : Int), iI (col 0 (chunk 3 [iI (10 : Int), iI (400 : Int), iI (410 : Int)]) 0), iI (col 1 (chunk 3 [iI (10 : Int), iI (400 : Int), iI (410 : Int)]) 0), iI (col 2 (chunk 3 [iI (10 : Int), iI (400 : Int), iI (410 : Int)]) 0)])) == (0 : Int)) (Tree.branch (wgN 4 3 (col 0 (chunk 2 [iI (0 : Int), iI (100 : Int), iI (32 : Int), iI (212 : Int), iI (0 : Int), iI (80 : Int), iI (150 : Int), iI (0 : Int)])) (col 1 (chunk 2 [iI (0 : Int), iI (100 : Int), iI (32 : Int), iI (212 : Int), iI (0 : Int), iI (80 : Int), iI (150 : Int), iI (0 : Int)])) (col 0 (chunk 3 [iI (68 : Int), iI (190 : Int), iI (210 : Int), iI (212 : Int), iI (1000 : Int), iI (1000 : Int), iI (col 0 (chunk 3 [iI (10 : Int), iI (400 : Int), iI (410 : Int)]) 0), iI (col 1 (chunk 3 [iI (10 : Int), iI (400 : Int), iI (410 : Int)]) 0), iI (col 2 (chunk 3 [iI (10 : Int), iI (400 : Int), iI (410 : Int)]) 0)])) (col 1 (chunk 3 [iI (68 : Int), iI (190 : Int), iI (210 : Int), iI (212 : Int), iI (1000 : Int), iI (1000 : Int), iI (col 0 (chunk 3 [iI (10 : Int), iI (400 : Int), iI (410 : Int)]) 0), iI (col 1 (chunk 3 [iI (10 : Int), iI (400 : Int), iI (410 : Int)]) 0), iI (col 2 (chunk 3 [iI (10 : Int), iI (400 : Int), iI (410 : Int)]) 0)])) (col 2 (chunk 3 [iI (68 : Int), iI (190 : Int), iI (210 : Int), iI (212 : Int), iI (1000 : Int), iI (1000 : Int), iI (col 0 (chunk 3 [iI (10 : Int), iI (400 : Int), iI (410 : Int)]) 0), iI (col 1 (chunk 3 [iI (10 : Int), iI (400 : Int), iI (410 : Int)]) 0), iI (col 2 (chunk 3 [iI (10 : Int), iI (400 : Int), iI (410 : Int)]) 0)])) == (1 : Int)) (Tree.need [isRec 1 1 fun j => [i (nthI (wgL 4 3 (col 0 (chunk 2 [iI (0 : Int), iI (100 : Int), iI (32 : Int), iI (212 : Int), iI (0 : Int), iI (80 : Int), iI (150 : Int), iI (0 : Int)])) (col 1 (chunk 2 [iI (0 : Int), iI (100 : Int), iI (32 : Int), iI (212 : Int), iI (0 : Int), iI (80 : Int), iI (150 : Int), iI (0 : Int)])) (col 0 (chunk 3 [iI (68 : Int), iI (190 : Int), iI (210 : Int), iI (212 : Int), iI (1000 : Int), iI (1000 : Int), iI (col 0 (chunk 3 [iI (10 : Int), iI (400 : Int), iI (410 : Int)]) 0), iI (col 1 (chunk 3 [iI (10 : Int), iI (400 : Int), iI (410 : Int)]) 0), iI (col 2 (chunk 3 [iI (10 : Int), iI (400 : Int), iI (410 : Int)]) 0)])) (col 1 (chunk 3 [iI (68 : Int), iI (190 : Int), iI (210 : Int), iI (212 : Int), iI (1000 : Int), iI (1000 : Int), iI (col 0 (chunk 3 [iI (10 : Int), iI (400 : Int), iI (410 : Int)]) 0), iI (col 1 (chunk 3 [iI (10 : Int), iI (400 : Int), iI (410 : Int)]) 0), iI (col 2 (chunk 3 [iI (10 : Int), iI (400 : Int), iI (410 : Int)]) 0)])) (col 2 (chunk 3 [iI (68 : Int), iI (190 : Int), iI (210 : Int), iI (212 : Int), iI (1000 : Int), iI (1000 : Int), iI (col 0 (chunk 3 [iI (10 : Int), iI (400 : Int), iI (410 : Int)]) 0), iI (col 1 (chunk 3 [iI (10 : Int), iI (400 : Int), iI (410 : Int)]) 0), iI (col 2 (chunk 3 [iI (10 : Int), iI (400 : Int), iI (410 : Int)]) 0)]))) j)], isRec 1 1 (chunk 1 [iI (2 : Int)]), 1 ≤ 100000] (Tree.leaf (RV.x (Value.bool (decide (1 = 1) && (true && nthI (wgL 4 3 (col 0 (chunk 2 [iI (0 : Int), iI (100 : Int), iI (32 : Int), iI (212 : Int), iI (0 : Int), iI (80 : Int), iI (150 : Int), iI (0 : Int)])) (col 1 (chunk 2 [iI (0 : Int), iI (100 : Int), iI (32 : Int), iI (212 : Int), iI (0 : Int), iI (80 : Int), iI (150 : Int), iI (0 : Int)])) (col 0 (chunk 3 [iI (68 : Int), iI (190 : Int), iI (210 : Int), iI (212 : Int), iI (1000 : Int), iI (1000 : Int), iI (col 0 (chunk 3 [iI (10 : Int), iI (400 : Int), iI (410 : Int)]) 0), iI (col 1 (chunk 3 [iI (10 : Int), iI (400 : Int), iI (410 : Int)]) 0), iI (col 2 (chunk 3 [iI (10 : Int), iI (400 : Int), iI (410 : Int)]) 0)])) (col 1 (chunk 3 [iI (68 : Int), iI (190 : Int), iI (210 : Int), iI (212 : Int), iI (1000 : Int), iI (1000 : Int), iI (col 0 (chunk 3 [iI (10 : Int), iI (400 : Int), iI (410 : Int)]) 0), iI (col 1 (chunk 3 [iI (10 : Int), iI (400 : Int), iI (410 : Int)]) 0), iI (col 2 (chunk 3 [iI (10 : Int), iI (400 : Int), iI (410 : Int)]) 0)])) (col 2 (chunk 3 [iI (68 : Int), iI (190 : Int), iI (210 : Int), iI (212 : Int), iI (1000 : Int), iI (1000 : Int), iI (col 0 (chunk 3 [iI (10 : Int), iI (400 : Int), iI (410 : Int)]) 0), iI (col 1 (chunk 3 [iI (10 : Int), iI (400 : Int), iI (410 : Int)]) 0), iI (col 2 (chunk 3 [iI (10 : Int), iI (400 : Int), iI (410 : Int)]) 0)]))) (nat_lit 0) == col 0 (chunk 1 [iI (2 : Int)]) (nat_lit 0))))))) (Tree.leaf (RV.x (Value.bool false)))) (Tree.leaf (RV.x (Value.bool false)))) (Tree.leaf (RV.x (Value.bool false)))) (Tree.leaf (RV.x (Value.bool false)))) (Tree.leaf (RV.x (Value.bool false)))) (Tree.leaf (RV.x (Value.bool false)))) (Tree.leaf (RV.x (Value.bool false)))) (Tree.leaf (RV.x (Value.bool false)))))))))))) (by kernel_rfl) ?_
  simp only [Tree.sat, allP, true_and, and_true]
  repeat' first | with_reducible apply And.intro | with_reducible intro _
  all_goals first | omega | exact isRec1 _ _ | (intro k hk; rcases (show k = 0 ∨ k = 1 ∨ k = 2 ∨ k = 3 by omega) with rfl | rfl | rfl | rfl <;> first | rfl | omega) | (rename_i h; exact absurd h (by decide +kernel)) | decide +kernel | (show (_ : Bool) = true; decide +kernel)
theorem wakes_ok : SoundSpec Try.prog 16 S_wakes := by
  refine ⟨⟨_, Try.func16, by kernel_rfl, by kernel_rfl⟩, ?_⟩
  intro avs ns res h hn
  unfold S_wakes at h
  split at h
  · cases h
    exact wakes_at 
  · cases h

end Go.Proofs.Ytchcegfhamngkaa
/- Contracts of functions of the program, by the engine Sx: what each call comes to. Printed by a program of this repo (sxgen.py). -/
set_option linter.unusedSimpArgs false
set_option linter.unusedVariables false
namespace Go.Proofs.Ytchcegfhamngkaa
open Go Go.Sx Go.RowKit

theorem sdE_one (p q : Nat → Int) (lo hi : Int) : sdE 1 p q lo hi = hgErr (p 0) (q 0) lo hi := by simp [sdE, allS, allI, hgErr]
theorem isRec_c1 (a b : Int) : isRec 2 1 (chunk 2 [iI a, iI b]) := by
  intro k hk
  obtain rfl : k = 0 := by omega
  rfl
theorem isRec_c2 (a b c d : Int) : isRec 2 2 (chunk 2 [iI a, iI b, iI c, iI d]) := by
  intro k hk
  rcases (show k = 0 ∨ k = 1 by omega) with rfl | rfl <;> rfl

set_option maxRecDepth 100000 in
theorem PointHeights_at (a b lo hi : Int) : SoundAt Try.prog 12 [.agg [i a, i b], .agg [i lo, i hi]] (bl true) := by
  refine soundAt_fin (G := [(41, S_CheckScale), (23, S_lScale), (36, S_pHeights), (19, S_lto), (31, S_rIsScale), (20, S_scaled), (42, S_rHeights), (16, S_wakes)]) (L := []) (SoundG.cons CheckScale_ok (SoundG.cons lScale_ok (SoundG.cons pHeights_ok (SoundG.cons lto_ok (SoundG.cons rIsScale_ok (SoundG.cons scaled_ok (SoundG.cons rHeights_ok (SoundG.cons wakes_ok (SoundG.nil _))))))))) mixed Try.func12 (show Try.f12.body = some (bodyOf Try.f12) by kernel_rfl) noLoops (t := (Tree.branch (!((if scB a b = true then (0 : Int) else (1 : Int)) == (0 : Int)) == scB a b) (Tree.leaf (RV.x (Value.bool false))) (Tree.branch ((if scB a b = true then (0 : Int) else (1 : Int)) != (0 : Int)) (Tree.branch ((if scB a b = true then (0 : Int) else (1 : Int)) != (1 : Int)) (Tree.leaf (RV.x (Value.bool false))) (Tree.need [isRec 2 1 (chunk 2 [iI a, iI b]), 1 ≤ 100000] (Tree.branch (sdE 1 (col 0 (chunk 2 [iI a, iI b])) (col 1 (chunk 2 [iI a, iI b])) lo hi != (0 : Int)) (Tree.branch (hgErr a b lo hi == sdE 1 (col 0 (chunk 2 [iI a, iI b])) (col 1 (chunk 2 [iI a, iI b])) lo hi) (Tree.branch ((if hgOk a b lo hi = true then hgLo a b lo hi else (0 : Int)) == (0 : Int) && ((if hgOk a b lo hi = true then hgHi a b lo hi else (0 : Int)) == (0 : Int) && true)) (Tree.leaf (RV.x (Value.bool true))) (Tree.leaf (RV.x (Value.bool false)))) (Tree.leaf (RV.x (Value.bool false)))) (Tree.branch (hgErr a b lo hi == (0 : Int)) (Tree.need [(-1000 : Int) ≤ a ∧ a ≤ (1000 : Int) ∧ (-1000 : Int) ≤ b ∧ b ≤ (1000 : Int) ∧ a ≠ b, (-1000000 : Int) ≤ lo ∧ lo ≤ hi ∧ hi ≤ (1000000 : Int)] (Tree.branch ((if hgOk a b lo hi = true then hgLo a b lo hi else (0 : Int)) == hgLo a b lo hi && ((if hgOk a b lo hi = true then hgHi a b lo hi else (0 : Int)) == hgHi a b lo hi && true)) (Tree.leaf (RV.x (Value.bool true))) (Tree.leaf (RV.x (Value.bool false))))) (Tree.leaf (RV.x (Value.bool false))))))) (Tree.need [isRec 2 1 (chunk 2 [iI a, iI b]), 1 ≤ 100000] (Tree.branch (sdE 1 (col 0 (chunk 2 [iI a, iI b])) (col 1 (chunk 2 [iI a, iI b])) lo hi != (0 : Int)) (Tree.branch (hgErr a b lo hi == sdE 1 (col 0 (chunk 2 [iI a, iI b])) (col 1 (chunk 2 [iI a, iI b])) lo hi) (Tree.branch ((if hgOk a b lo hi = true then hgLo a b lo hi else (0 : Int)) == (0 : Int) && ((if hgOk a b lo hi = true then hgHi a b lo hi else (0 : Int)) == (0 : Int) && true)) (Tree.leaf (RV.x (Value.bool true))) (Tree.leaf (RV.x (Value.bool false)))) (Tree.leaf (RV.x (Value.bool false)))) (Tree.branch (hgErr a b lo hi == (0 : Int)) (Tree.need [(-1000 : Int) ≤ a ∧ a ≤ (1000 : Int) ∧ (-1000 : Int) ≤ b ∧ b ≤ (1000 : Int) ∧ a ≠ b, (-1000000 : Int) ≤ lo ∧ lo ≤ hi ∧ hi ≤ (1000000 : Int)] (Tree.branch ((if hgOk a b lo hi = true then hgLo a b lo hi else (0 : Int)) == hgLo a b lo hi && ((if hgOk a b lo hi = true then hgHi a b lo hi else (0 : Int)) == hgHi a b lo hi && true)) (Tree.leaf (RV.x (Value.bool true))) (Tree.leaf (RV.x (Value.bool false))))) (Tree.leaf (RV.x (Value.bool false))))))))) (by kernel_rfl) ?_
  have hs : sdE 1 (col 0 (chunk 2 [iI a, iI b])) (col 1 (chunk 2 [iI a, iI b])) lo hi = hgErr a b lo hi := sdE_one _ _ lo hi
  have hr : isRec 2 1 (chunk 2 [iI a, iI b]) := isRec_c1 a b
  cases h1 : scB a b
  · simp [Tree.sat, allP, fitP, valEq, hs, hr, hgErr, hgOk, h1]
  · have e1 := scB_bd h1
    cases h2 : insB (-1000000) lo hi 1000000
    · simp [Tree.sat, allP, fitP, valEq, hs, hr, hgErr, hgOk, h1, h2]
    · have e2 := (insB_iff _ _ _ _).1 h2
      simp [Tree.sat, allP, fitP, valEq, hs, hr, hgErr, hgOk, h1, h2]
      omega

end Go.Proofs.Ytchcegfhamngkaa
/- Contracts of functions of the program, by the engine Sx: what each call comes to. Printed by a program of this repo (sxgen.py). -/
set_option linter.unusedSimpArgs false
set_option linter.unusedVariables false
namespace Go.Proofs.Ytchcegfhamngkaa
open Go Go.Sx Go.RowKit

theorem sdE_two (p q : Nat → Int) (lo hi : Int) : sdE 2 p q lo hi = if scB (p 0) (q 0) && scB (p 1) (q 1) then (if insB (-1000000) lo hi 1000000 then 0 else 2) else 1 := by simp [sdE, allS, allI]
/-- What 'ready' says of two scales. -/
theorem ready_two {p q : Nat → Int} {lo hi : Int} (h : (decide (sdE 2 p q lo hi = 0) && (decide (-400 ≤ lo) && decide (hi ≤ 400))) = true) : scB (p 0) (q 0) = true ∧ scB (p 1) (q 1) = true ∧ -400 ≤ lo ∧ lo ≤ hi ∧ hi ≤ 400 := by
  simp only [Bool.and_eq_true, decide_eq_true_eq] at h
  obtain ⟨h1, h2, h3⟩ := h
  rw [sdE_two] at h1
  cases g1 : scB (p 0) (q 0) <;> cases g2 : scB (p 1) (q 1) <;> simp [g1, g2] at h1
  have := (insB_iff _ _ _ _).1 h1
  exact ⟨rfl, rfl, h2, by omega, h3⟩


theorem cv_cases {a b c d lo hi : Int} (h1 : scB a b = true) (h2 : scB c d = true) (r : -1000000 ≤ lo ∧ lo ≤ hi ∧ hi ≤ 1000000) :
    (cvE a b c d lo hi = 10 ∧ cvLo a b c d lo hi = 0 ∧ cvHi a b c d lo hi = 0 ∧ ¬ (-1000000 ≤ stLo a b c d lo hi ∧ stHi a b c d lo hi ≤ 1000000)) ∨ (cvE a b c d lo hi = 0 ∧ cvLo a b c d lo hi = stLo a b c d lo hi ∧ cvHi a b c d lo hi = stHi a b c d lo hi ∧ -1000000 ≤ stLo a b c d lo hi ∧ stLo a b c d lo hi ≤ stHi a b c d lo hi ∧ stHi a b c d lo hi ≤ 1000000) := by
  have hi' : insB (-1000000) lo hi 1000000 = true := (insB_iff _ _ _ _).2 r
  cases h3 : insB (-1000000) (stLo a b c d lo hi) (stHi a b c d lo hi) 1000000
  · have e : cvE a b c d lo hi = 10 := by simp [cvE, h1, h2, hi', h3]
    have hle := st_le (scB_bd h1) (scB_bd h2) r
    refine .inl ⟨e, by simp [cvLo, e], by simp [cvHi, e], fun hh => ?_⟩
    have := (insB_iff (-1000000) (stLo a b c d lo hi) (stHi a b c d lo hi) 1000000).2 ⟨hh.1, hle, hh.2⟩
    rw [h3] at this
    cases this
  · have e : cvE a b c d lo hi = 0 := by simp [cvE, h1, h2, hi', h3]
    exact .inr ⟨e, by simp [cvLo, e], by simp [cvHi, e], (insB_iff _ _ _ _).1 h3⟩

set_option maxRecDepth 100000 in
theorem PointEnds_at (a b c d lo hi : Int) : SoundAt Try.prog 6 [.agg [i a, i b], .agg [i c, i d], .agg [i lo, i hi]] (bl true) := by
  refine soundAt_fin (G := [(37, S_ready), (23, S_lScale), (22, S_Convert), (19, S_lto), (25, S_rAreReadings), (38, S_rMeets), (16, S_wakes)]) (L := []) (SoundG.cons ready_ok (SoundG.cons lScale_ok (SoundG.cons Convert_ok (SoundG.cons lto_ok (SoundG.cons rAreReadings_ok (SoundG.cons rMeets_ok (SoundG.cons wakes_ok (SoundG.nil _)))))))) mixed Try.func6 (show Try.f6.body = some (bodyOf Try.f6) by kernel_rfl) noLoops (t := (Tree.need [isRec 2 2 (chunk 2 [iI a, iI b, iI c, iI d]), 2 ≤ 100000] (Tree.branch (!(decide (sdE 2 (col 0 (chunk 2 [iI a, iI b, iI c, iI d])) (col 1 (chunk 2 [iI a, iI b, iI c, iI d])) lo hi = (0 : Int)) && (decide ((-400 : Int) ≤ lo) && decide (hi ≤ (400 : Int))))) (Tree.leaf (RV.x (Value.bool true))) (Tree.branch (cvE a b c d lo hi != (0 : Int)) (Tree.branch (cvE a b c d lo hi == (10 : Int)) (Tree.leaf (RV.x (Value.bool true))) (Tree.leaf (RV.x (Value.bool false)))) (Tree.branch (decide (cvLo a b c d lo hi ≤ cvHi a b c d lo hi)) (Tree.branch (insB (-1000000 : Int) (cvLo a b c d lo hi) (cvHi a b c d lo hi) (1000000 : Int)) (Tree.need [(-1000 : Int) ≤ a ∧ a ≤ (1000 : Int) ∧ (-1000 : Int) ≤ b ∧ b ≤ (1000 : Int) ∧ (-1000 : Int) ≤ c ∧ c ≤ (1000 : Int) ∧ (-1000 : Int) ≤ d ∧ d ≤ (1000 : Int), (-1000000 : Int) ≤ lo ∧ lo ≤ hi ∧ hi ≤ (1000000 : Int), (-100000000000 : Int) ≤ cvLo a b c d lo hi ∧ cvLo a b c d lo hi ≤ (100000000000 : Int)] (Tree.branch (meetB c d (cvLo a b c d lo hi) a b lo hi) (Tree.need [(-1000 : Int) ≤ a ∧ a ≤ (1000 : Int) ∧ (-1000 : Int) ≤ b ∧ b ≤ (1000 : Int) ∧ (-1000 : Int) ≤ c ∧ c ≤ (1000 : Int) ∧ (-1000 : Int) ≤ d ∧ d ≤ (1000 : Int), (-1000000 : Int) ≤ lo ∧ lo ≤ hi ∧ hi ≤ (1000000 : Int), (-100000000000 : Int) ≤ cvHi a b c d lo hi ∧ cvHi a b c d lo hi ≤ (100000000000 : Int)] (Tree.branch (meetB c d (cvHi a b c d lo hi) a b lo hi) (Tree.need [inI64 (cvLo a b c d lo hi - (1 : Int))] (Tree.need [(-1000 : Int) ≤ a ∧ a ≤ (1000 : Int) ∧ (-1000 : Int) ≤ b ∧ b ≤ (1000 : Int) ∧ (-1000 : Int) ≤ c ∧ c ≤ (1000 : Int) ∧ (-1000 : Int) ≤ d ∧ d ≤ (1000 : Int), (-1000000 : Int) ≤ lo ∧ lo ≤ hi ∧ hi ≤ (1000000 : Int), (-100000000000 : Int) ≤ cvLo a b c d lo hi - (1 : Int) ∧ cvLo a b c d lo hi - (1 : Int) ≤ (100000000000 : Int)] (Tree.branch (!meetB c d (cvLo a b c d lo hi - (1 : Int)) a b lo hi) (Tree.need [inI64 (cvHi a b c d lo hi + (1 : Int))] (Tree.need [(-1000 : Int) ≤ a ∧ a ≤ (1000 : Int) ∧ (-1000 : Int) ≤ b ∧ b ≤ (1000 : Int) ∧ (-1000 : Int) ≤ c ∧ c ≤ (1000 : Int) ∧ (-1000 : Int) ≤ d ∧ d ≤ (1000 : Int), (-1000000 : Int) ≤ lo ∧ lo ≤ hi ∧ hi ≤ (1000000 : Int), (-100000000000 : Int) ≤ cvHi a b c d lo hi + (1 : Int) ∧ cvHi a b c d lo hi + (1 : Int) ≤ (100000000000 : Int)] (Tree.branch (!meetB c d (cvHi a b c d lo hi + (1 : Int)) a b lo hi) (Tree.leaf (RV.x (Value.bool true))) (Tree.leaf (RV.x (Value.bool false)))))) (Tree.leaf (RV.x (Value.bool false)))))) (Tree.leaf (RV.x (Value.bool false))))) (Tree.leaf (RV.x (Value.bool false))))) (Tree.leaf (RV.x (Value.bool false)))) (Tree.leaf (RV.x (Value.bool false)))))))) (by kernel_rfl) ?_
  have hr : isRec 2 2 (chunk 2 [iI a, iI b, iI c, iI d]) := isRec_c2 a b c d
  simp only [Tree.sat, allP, fitP, valEq, true_and, and_true]
  refine ⟨⟨hr, by omega⟩, fun _ => trivial, fun h0 => ?_⟩
  have h0' := ready_two (p := col 0 (chunk 2 [iI a, iI b, iI c, iI d])) (q := col 1 (chunk 2 [iI a, iI b, iI c, iI d])) (lo := lo) (hi := hi) (by simpa using h0)
  obtain ⟨v1, v2, r1, r2, r3⟩ := h0'
  replace v1 : scB a b = true := v1
  replace v2 : scB c d = true := v2
  clear h0 hr
  have s1 := scB_bd v1
  have s2 := scB_bd v2
  
  have m1 := meet_iff (x := stLo a b c d lo hi) (lo := lo) (hi := hi) s1 s2 (by omega)
  have m2 := meet_iff (x := stHi a b c d lo hi) (lo := lo) (hi := hi) s1 s2 (by omega)
  have m3 := meet_iff (x := stLo a b c d lo hi - 1) (lo := lo) (hi := hi) s1 s2 (by omega)
  have m4 := meet_iff (x := stHi a b c d lo hi + 1) (lo := lo) (hi := hi) s1 s2 (by omega)
  rcases cv_cases v1 v2 (show -1000000 ≤ lo ∧ lo ≤ hi ∧ hi ≤ 1000000 by omega) with ⟨e1, e2, e3, _⟩ | ⟨e1, e2, e3, e4, e5, e6⟩
  · simp [e1]
  · have n1 : meetB c d (stLo a b c d lo hi) a b lo hi = true := m1.2 (by omega)
    have n2 : meetB c d (stHi a b c d lo hi) a b lo hi = true := m2.2 (by omega)
    have n3 : meetB c d (stLo a b c d lo hi - 1) a b lo hi = false := by
      cases h : meetB c d (stLo a b c d lo hi - 1) a b lo hi
      · rfl
      · have := m3.1 h; omega
    have n4 : meetB c d (stHi a b c d lo hi + 1) a b lo hi = false := by
      cases h : meetB c d (stHi a b c d lo hi + 1) a b lo hi
      · rfl
      · have := m4.1 h; omega
    have n5 : insB (-1000000) (stLo a b c d lo hi) (stHi a b c d lo hi) 1000000 = true := (insB_iff _ _ _ _).2 ⟨e4, e5, e6⟩
    clear m1 m2 m3 m4
    simp only [e1, e2, e3, n1, n2, n3, n4, n5, inI64]
    simp [e5]
    omega

set_option maxRecDepth 100000 in
theorem PointBack_at (a b c d lo hi : Int) : SoundAt Try.prog 7 [.agg [i a, i b], .agg [i c, i d], .agg [i lo, i hi]] (bl true) := by
  refine soundAt_fin (G := [(37, S_ready), (23, S_lScale), (22, S_Convert), (19, S_lto), (35, S_between), (16, S_wakes)]) (L := []) (SoundG.cons ready_ok (SoundG.cons lScale_ok (SoundG.cons Convert_ok (SoundG.cons lto_ok (SoundG.cons between_ok (SoundG.cons wakes_ok (SoundG.nil _))))))) mixed Try.func7 (show Try.f7.body = some (bodyOf Try.f7) by kernel_rfl) noLoops (t := (Tree.need [isRec 2 2 (chunk 2 [iI a, iI b, iI c, iI d]), 2 ≤ 100000] (Tree.branch (!(decide (sdE 2 (col 0 (chunk 2 [iI a, iI b, iI c, iI d])) (col 1 (chunk 2 [iI a, iI b, iI c, iI d])) lo hi = (0 : Int)) && (decide ((-400 : Int) ≤ lo) && decide (hi ≤ (400 : Int))))) (Tree.leaf (RV.x (Value.bool true))) (Tree.branch (cvE a b a b lo hi != (0 : Int)) (Tree.leaf (RV.x (Value.bool false))) (Tree.need [inI64 (lo - (1 : Int))] (Tree.need [inI64 (hi + (1 : Int))] (Tree.branch (!(cvLo a b a b lo hi == lo - (1 : Int) && (cvHi a b a b lo hi == hi + (1 : Int) && true))) (Tree.leaf (RV.x (Value.bool false))) (Tree.branch (cvE a b c d lo hi != (0 : Int)) (Tree.branch (cvE a b c d lo hi == (10 : Int)) (Tree.leaf (RV.x (Value.bool true))) (Tree.leaf (RV.x (Value.bool false)))) (Tree.branch (cvE c d a b (cvLo a b c d lo hi) (cvHi a b c d lo hi) == (10 : Int)) (Tree.leaf (RV.x (Value.bool true))) (Tree.branch (cvE c d a b (cvLo a b c d lo hi) (cvHi a b c d lo hi) == (0 : Int)) (Tree.branch (decide (cvLo c d a b (cvLo a b c d lo hi) (cvHi a b c d lo hi) ≤ lo)) (Tree.branch (decide (cvHi c d a b (cvLo a b c d lo hi) (cvHi a b c d lo hi) ≥ hi)) (Tree.leaf (RV.x (Value.bool true))) (Tree.leaf (RV.x (Value.bool false)))) (Tree.leaf (RV.x (Value.bool false)))) (Tree.leaf (RV.x (Value.bool false))))))))))))) (by kernel_rfl) ?_
  have hr : isRec 2 2 (chunk 2 [iI a, iI b, iI c, iI d]) := isRec_c2 a b c d
  simp only [Tree.sat, allP, fitP, valEq, true_and, and_true]
  refine ⟨⟨hr, by omega⟩, fun _ => trivial, fun h0 => ?_⟩
  have h0' := ready_two (p := col 0 (chunk 2 [iI a, iI b, iI c, iI d])) (q := col 1 (chunk 2 [iI a, iI b, iI c, iI d])) (lo := lo) (hi := hi) (by simpa using h0)
  obtain ⟨v1, v2, r1, r2, r3⟩ := h0'
  replace v1 : scB a b = true := v1
  replace v2 : scB c d = true := v2
  clear h0 hr
  have s1 := scB_bd v1
  have s2 := scB_bd v2
  
  obtain ⟨z1, z2⟩ := st_self s1 (show -1000000 ≤ lo ∧ lo ≤ hi ∧ hi ≤ 1000000 by omega)
  rcases cv_cases v1 v1 (show -1000000 ≤ lo ∧ lo ≤ hi ∧ hi ≤ 1000000 by omega) with ⟨_, _, _, f4⟩ | ⟨f1, f2, f3, f4, f5, f6⟩
  · exact absurd ⟨by omega, by omega⟩ f4
  rw [z1] at f2
  rw [z2] at f3
  have t1 : (lo - 1 == lo - 1) = true := by simp
  have t2 : (hi + 1 == hi + 1) = true := by simp
  have i1 : inI64 (lo - 1) := by unfold inI64; omega
  have i2 : inI64 (hi + 1) := by unfold inI64; omega
  rcases cv_cases v1 v2 (show -1000000 ≤ lo ∧ lo ≤ hi ∧ hi ≤ 1000000 by omega) with ⟨e1, e2, e3, _⟩ | ⟨e1, e2, e3, e4, e5, e6⟩
  · simp [e1, f1, f2, f3, i1, i2]
  · obtain ⟨b1, b2⟩ := st_back s1 s2 (show -1000000 ≤ lo ∧ lo ≤ hi ∧ hi ≤ 1000000 by omega) ⟨e4, e6⟩
    rcases cv_cases v2 v1 (show -1000000 ≤ stLo a b c d lo hi ∧ stLo a b c d lo hi ≤ stHi a b c d lo hi ∧ stHi a b c d lo hi ≤ 1000000 by omega) with ⟨g1, g2, g3, _⟩ | ⟨g1, g2, g3, _⟩
    · simp [e1, e2, e3, f1, f2, f3, i1, i2, g1]
    · simp [e1, e2, e3, f1, f2, f3, i1, i2, g1, g2, g3, b1, b2]

set_option maxRecDepth 100000 in
theorem PointTurned_at (a b c d lo hi t : Int) (pre0 : -128 ≤ t ∧ t ≤ 127) : SoundAt Try.prog 11 [.agg [i a, i b], .agg [i c, i d], .agg [i lo, i hi], .x (.int .i8 t)] (bl true) := by
  refine soundAt_fin (G := [(37, S_ready), (23, S_lScale), (22, S_Convert), (19, S_lto), (35, S_between), (40, S_turned), (31, S_rIsScale), (36, S_pHeights), (16, S_wakes)]) (L := []) (SoundG.cons ready_ok (SoundG.cons lScale_ok (SoundG.cons Convert_ok (SoundG.cons lto_ok (SoundG.cons between_ok (SoundG.cons turned_ok (SoundG.cons rIsScale_ok (SoundG.cons pHeights_ok (SoundG.cons wakes_ok (SoundG.nil _)))))))))) mixed Try.func11 (show Try.f11.body = some (bodyOf Try.f11) by kernel_rfl) noLoops (t := (Tree.need [isRec 2 2 (chunk 2 [iI a, iI b, iI c, iI d]), 2 ≤ 100000] (Tree.branch (!(decide (sdE 2 (col 0 (chunk 2 [iI a, iI b, iI c, iI d])) (col 1 (chunk 2 [iI a, iI b, iI c, iI d])) lo hi = (0 : Int)) && (decide ((-400 : Int) ≤ lo) && decide (hi ≤ (400 : Int))))) (Tree.leaf (RV.x (Value.bool true))) (Tree.need [(-1000000 : Int) ≤ a ∧ a ≤ (1000000 : Int) ∧ (-1000000 : Int) ≤ b ∧ b ≤ (1000000 : Int)] (Tree.need [(-1000000 : Int) ≤ c ∧ c ≤ (1000000 : Int) ∧ (-1000000 : Int) ≤ d ∧ d ≤ (1000000 : Int)] (Tree.need [inI64 (-hi)] (Tree.need [inI64 (-lo)] (Tree.branch (cvE a b c d lo hi != cvE (-a) (-b) (-c) (-d) (-hi) (-lo)) (Tree.leaf (RV.x (Value.bool false))) (Tree.branch (cvE a b c d lo hi != (0 : Int)) (Tree.branch (cvE a b c d lo hi != (10 : Int)) (Tree.leaf (RV.x (Value.bool false))) (Tree.need [inI64 (-cvHi (-a) (-b) (-c) (-d) (-hi) (-lo))] (Tree.branch (cvLo a b c d lo hi != -cvHi (-a) (-b) (-c) (-d) (-hi) (-lo)) (Tree.leaf (RV.x (Value.bool false))) (Tree.need [inI64 (-cvLo (-a) (-b) (-c) (-d) (-hi) (-lo))] (Tree.branch (cvHi a b c d lo hi != -cvLo (-a) (-b) (-c) (-d) (-hi) (-lo)) (Tree.leaf (RV.x (Value.bool false))) (Tree.need [inI64 t] (Tree.need [inI64 (a + t)] (Tree.need [inI64 t] (Tree.need [inI64 (b + t)] (Tree.branch (!scB (a + t) (b + t)) (Tree.leaf (RV.x (Value.bool true))) (Tree.need [inI64 t] (Tree.need [inI64 (lo + t)] (Tree.need [inI64 t] (Tree.need [inI64 (hi + t)] (Tree.branch (hgErr a b lo hi == (0 : Int)) (Tree.branch (hgErr (a + t) (b + t) (lo + t) (hi + t) == (0 : Int)) (Tree.branch (((if hgOk a b lo hi = true then hgLo a b lo hi else (0 : Int)) == if hgOk (a + t) (b + t) (lo + t) (hi + t) = true then hgLo (a + t) (b + t) (lo + t) (hi + t) else (0 : Int)) && (((if hgOk a b lo hi = true then hgHi a b lo hi else (0 : Int)) == if hgOk (a + t) (b + t) (lo + t) (hi + t) = true then hgHi (a + t) (b + t) (lo + t) (hi + t) else (0 : Int)) && true)) (Tree.leaf (RV.x (Value.bool true))) (Tree.leaf (RV.x (Value.bool false)))) (Tree.leaf (RV.x (Value.bool false)))) (Tree.leaf (RV.x (Value.bool false)))))))))))))))))) (Tree.need [inI64 (-cvHi (-a) (-b) (-c) (-d) (-hi) (-lo))] (Tree.branch (cvLo a b c d lo hi != -cvHi (-a) (-b) (-c) (-d) (-hi) (-lo)) (Tree.leaf (RV.x (Value.bool false))) (Tree.need [inI64 (-cvLo (-a) (-b) (-c) (-d) (-hi) (-lo))] (Tree.branch (cvHi a b c d lo hi != -cvLo (-a) (-b) (-c) (-d) (-hi) (-lo)) (Tree.leaf (RV.x (Value.bool false))) (Tree.need [inI64 t] (Tree.need [inI64 (a + t)] (Tree.need [inI64 t] (Tree.need [inI64 (b + t)] (Tree.branch (!scB (a + t) (b + t)) (Tree.leaf (RV.x (Value.bool true))) (Tree.need [inI64 t] (Tree.need [inI64 (lo + t)] (Tree.need [inI64 t] (Tree.need [inI64 (hi + t)] (Tree.branch (hgErr a b lo hi == (0 : Int)) (Tree.branch (hgErr (a + t) (b + t) (lo + t) (hi + t) == (0 : Int)) (Tree.branch (((if hgOk a b lo hi = true then hgLo a b lo hi else (0 : Int)) == if hgOk (a + t) (b + t) (lo + t) (hi + t) = true then hgLo (a + t) (b + t) (lo + t) (hi + t) else (0 : Int)) && (((if hgOk a b lo hi = true then hgHi a b lo hi else (0 : Int)) == if hgOk (a + t) (b + t) (lo + t) (hi + t) = true then hgHi (a + t) (b + t) (lo + t) (hi + t) else (0 : Int)) && true)) (Tree.leaf (RV.x (Value.bool true))) (Tree.leaf (RV.x (Value.bool false)))) (Tree.leaf (RV.x (Value.bool false)))) (Tree.leaf (RV.x (Value.bool false)))))))))))))))))))))))))) (by kernel_rfl) ?_
  have hr : isRec 2 2 (chunk 2 [iI a, iI b, iI c, iI d]) := isRec_c2 a b c d
  simp only [Tree.sat, allP, fitP, valEq, true_and, and_true]
  refine ⟨⟨hr, by omega⟩, fun _ => trivial, fun h0 => ?_⟩
  have h0' := ready_two (p := col 0 (chunk 2 [iI a, iI b, iI c, iI d])) (q := col 1 (chunk 2 [iI a, iI b, iI c, iI d])) (lo := lo) (hi := hi) (by simpa using h0)
  obtain ⟨v1, v2, r1, r2, r3⟩ := h0'
  replace v1 : scB a b = true := v1
  replace v2 : scB c d = true := v2
  clear h0 hr
  have s1 := scB_bd v1
  have s2 := scB_bd v2
  
  have w1 : scB (-a) (-b) = true := (scB_iff _ _).2 (by omega)
  have w2 : scB (-c) (-d) = true := (scB_iff _ _).2 (by omega)
  obtain ⟨n1, n2⟩ := st_neg s1 s2 (show -1000000 ≤ lo ∧ lo ≤ hi ∧ hi ≤ 1000000 by omega)
  obtain ⟨k1, k2⟩ := hg_shift (a := a) (b := b) (lo := lo) (hi := hi) (t := t)
  have hE : hgErr a b lo hi = 0 := by
    have : insB (-1000000) lo hi 1000000 = true := (insB_iff _ _ _ _).2 (by omega)
    simp [hgErr, v1, this]
  have hO : hgOk a b lo hi = true := by
    have : insB (-1000000) lo hi 1000000 = true := (insB_iff _ _ _ _).2 (by omega)
    simp [hgOk, v1, this]
  have hi2 : insB (-1000000) (lo + t) (hi + t) 1000000 = true := (insB_iff _ _ _ _).2 (by omega)
  have j1 : inI64 (-hi) := by unfold inI64; omega
  have j2 : inI64 (-lo) := by unfold inI64; omega
  have j3 : inI64 t := by unfold inI64; omega
  have j4 : inI64 (a + t) := by unfold inI64; omega
  have j5 : inI64 (b + t) := by unfold inI64; omega
  have j6 : inI64 (lo + t) := by unfold inI64; omega
  have j7 : inI64 (hi + t) := by unfold inI64; omega
  have p1 : -1000000 ≤ a ∧ a ≤ 1000000 ∧ -1000000 ≤ b ∧ b ≤ 1000000 := by omega
  have p2 : -1000000 ≤ c ∧ c ≤ 1000000 ∧ -1000000 ≤ d ∧ d ≤ 1000000 := by omega
  have key : cvE a b c d lo hi = cvE (-a) (-b) (-c) (-d) (-hi) (-lo) ∧ (cvE a b c d lo hi = 0 ∨ cvE a b c d lo hi = 10) ∧ cvLo a b c d lo hi = -cvHi (-a) (-b) (-c) (-d) (-hi) (-lo) ∧ cvHi a b c d lo hi = -cvLo (-a) (-b) (-c) (-d) (-hi) (-lo) ∧ inI64 (-cvHi (-a) (-b) (-c) (-d) (-hi) (-lo)) ∧ inI64 (-cvLo (-a) (-b) (-c) (-d) (-hi) (-lo)) := by
    rcases cv_cases v1 v2 (show -1000000 ≤ lo ∧ lo ≤ hi ∧ hi ≤ 1000000 by omega) with ⟨e1, e2, e3, e4⟩ | ⟨e1, e2, e3, e4, e5, e6⟩ <;> rcases cv_cases w1 w2 (show -1000000 ≤ -hi ∧ -hi ≤ -lo ∧ -lo ≤ 1000000 by omega) with ⟨g1, g2, g3, g4⟩ | ⟨g1, g2, g3, g4, g5, g6⟩
    · unfold inI64; rw [e1, e2, e3, g1, g2, g3]; omega
    · exact absurd ⟨by omega, by omega⟩ e4
    · exact absurd ⟨by omega, by omega⟩ g4
    · unfold inI64; rw [e1, e2, e3, g1, g2, g3]; omega
  obtain ⟨q1, q2, q3, q4, q5, q6⟩ := key
  have u1 : (cvE a b c d lo hi != cvE (-a) (-b) (-c) (-d) (-hi) (-lo)) = false := by simp [q1]
  have u2 : (cvLo a b c d lo hi != -cvHi (-a) (-b) (-c) (-d) (-hi) (-lo)) = false := by simp [q3]
  have u3 : (cvHi a b c d lo hi != -cvLo (-a) (-b) (-c) (-d) (-hi) (-lo)) = false := by simp [q4]
  rw [u1, u2, u3, hE, hO, k1, k2]
  clear u1 u2 u3 q1 q3 q4 n1 n2 k1 k2 hE
  cases hs : scB (a + t) (b + t)
  · rcases q2 with q2 | q2 <;> simp [q2, q5, q6, j1, j2, j3, j4, j5, p1, p2]
  · have hE2 : hgErr (a + t) (b + t) (lo + t) (hi + t) = 0 := by simp [hgErr, hs, hi2]
    have hO2 : hgOk (a + t) (b + t) (lo + t) (hi + t) = true := by simp [hgOk, hs, hi2]
    rcases q2 with q2 | q2 <;> simp [q2, q5, q6, j1, j2, j3, j4, j5, j6, j7, p1, p2, hE2, hO2]

end Go.Proofs.Ytchcegfhamngkaa
/- Contracts of functions of the program, by the engine Sx: what each call comes to. Printed by a program of this repo (sxgen.py). -/
set_option linter.unusedSimpArgs false
set_option linter.unusedVariables false
namespace Go.Proofs.Ytchcegfhamngkaa
open Go Go.Sx Go.RowKit

theorem th_cases (n : Nat) (a b : Nat → Int) (lo hi : Int) :
    (8 < n ∧ sdE n a b lo hi = 3 ∧ thE n a b lo hi = 3 ∧ thR n a b lo hi = none) ∨
    (n = 0 ∧ (sdE n a b lo hi = 0 ∨ sdE n a b lo hi = 2) ∧ thE n a b lo hi = 1 ∧ thR n a b lo hi = none) ∨
    (0 < n ∧ n ≤ 8 ∧ (sdE n a b lo hi = 1 ∨ sdE n a b lo hi = 2) ∧ thE n a b lo hi = sdE n a b lo hi ∧ thR n a b lo hi = none) ∨
    (0 < n ∧ n ≤ 8 ∧ allS n a b = true ∧ insB (-1000000) lo hi 1000000 = true ∧ sdE n a b lo hi = 0 ∧ thE n a b lo hi = 10 ∧ thR n a b lo hi = none ∧ (rth a b (n - 1) 0 lo hi).1 = false) ∨
    (0 < n ∧ n ≤ 8 ∧ allS n a b = true ∧ insB (-1000000) lo hi 1000000 = true ∧ sdE n a b lo hi = 0 ∧ thE n a b lo hi = 0 ∧ thR n a b lo hi = some (rth a b (n - 1) 0 lo hi).2 ∧ (rth a b (n - 1) 0 lo hi).1 = true) := by
  by_cases h8 : 8 < n
  · refine .inl ⟨h8, by simp [sdE, h8], by simp [thE, h8], by simp [thR, thE, h8]⟩
  by_cases h0 : n = 0
  · subst h0
    refine .inr (.inl ⟨rfl, ?_, by simp [thE], by simp [thR, thE]⟩)
    cases h : insB (-1000000) lo hi 1000000 <;> simp [sdE, allS, allI, h]
  have hn : 0 < n ∧ n ≤ 8 := by omega
  refine .inr (.inr ?_)
  cases hS : allS n a b
  · refine .inl ⟨hn.1, hn.2, ?_, ?_, ?_⟩ <;> simp [sdE, thE, thR, h8, h0, hS]
  cases hI : insB (-1000000) lo hi 1000000
  · refine .inl ⟨hn.1, hn.2, ?_, ?_, ?_⟩ <;> simp [sdE, thE, thR, h8, h0, hS, hI]
  refine .inr ?_
  have t := thr_rth a b (n - 1) 0 lo hi hI
  cases hR : (rth a b (n - 1) 0 lo hi).1
  · rw [hR] at t
    refine .inl ⟨hn.1, hn.2, rfl, rfl, ?_, ?_, ?_, rfl⟩ <;> simp [sdE, thE, thR, h8, h0, hS, hI, t]
  · rw [hR] at t
    refine .inr ⟨hn.1, hn.2, rfl, rfl, ?_, ?_, ?_, rfl⟩ <;> simp [sdE, thE, thR, h8, h0, hS, hI, t]
theorem two_cases (p q : Nat → Int) (lo hi : Int) :
    ((sdE 2 p q lo hi = 1 ∨ sdE 2 p q lo hi = 2) ∧ cvE (p 0) (q 0) (p 1) (q 1) lo hi = sdE 2 p q lo hi ∧ cvLo (p 0) (q 0) (p 1) (q 1) lo hi = 0 ∧ cvHi (p 0) (q 0) (p 1) (q 1) lo hi = 0) ∨
    (sdE 2 p q lo hi = 0 ∧ scB (p 0) (q 0) = true ∧ scB (p 1) (q 1) = true ∧ insB (-1000000) lo hi 1000000 = true ∧ cvE (p 0) (q 0) (p 1) (q 1) lo hi = 10 ∧ cvLo (p 0) (q 0) (p 1) (q 1) lo hi = 0 ∧ cvHi (p 0) (q 0) (p 1) (q 1) lo hi = 0 ∧ insB (-1000000) (stLo (p 0) (q 0) (p 1) (q 1) lo hi) (stHi (p 0) (q 0) (p 1) (q 1) lo hi) 1000000 = false) ∨
    (sdE 2 p q lo hi = 0 ∧ scB (p 0) (q 0) = true ∧ scB (p 1) (q 1) = true ∧ insB (-1000000) lo hi 1000000 = true ∧ cvE (p 0) (q 0) (p 1) (q 1) lo hi = 0 ∧ cvLo (p 0) (q 0) (p 1) (q 1) lo hi = stLo (p 0) (q 0) (p 1) (q 1) lo hi ∧ cvHi (p 0) (q 0) (p 1) (q 1) lo hi = stHi (p 0) (q 0) (p 1) (q 1) lo hi ∧ insB (-1000000) (stLo (p 0) (q 0) (p 1) (q 1) lo hi) (stHi (p 0) (q 0) (p 1) (q 1) lo hi) 1000000 = true) := by
  rw [sdE_two]
  cases h1 : scB (p 0) (q 0)
  · exact .inl (by simp [cvE, cvLo, cvHi, h1])
  cases h2 : scB (p 1) (q 1)
  · exact .inl (by simp [cvE, cvLo, cvHi, h1, h2])
  cases h3 : insB (-1000000) lo hi 1000000
  · exact .inl (by simp [cvE, cvLo, cvHi, h1, h2, h3])
  cases h4 : insB (-1000000) (stLo (p 0) (q 0) (p 1) (q 1) lo hi) (stHi (p 0) (q 0) (p 1) (q 1) lo hi) 1000000
  · exact .inr (.inl (by simp [cvE, cvLo, cvHi, h1, h2, h3, h4]))
  · exact .inr (.inr (by simp [cvE, cvLo, cvHi, h1, h2, h3, h4]))

set_option maxRecDepth 100000 in
theorem PointConverts_at (n : Nat) (a b : Nat → Int) (lo hi : Int) : SoundAt Try.prog 3 [scs n a b, .agg [i lo, i hi]] (bl true) := by
  refine soundAt_fin (G := [(18, S_lScales), (19, S_lto), (17, S_Through), (20, S_scaled), (21, S_rThrough), (23, S_lScale), (22, S_Convert), (24, S_rStands), (25, S_rAreReadings), (16, S_wakes)]) (L := []) (SoundG.cons lScales_ok (SoundG.cons lto_ok (SoundG.cons Through_ok (SoundG.cons scaled_ok (SoundG.cons rThrough_ok (SoundG.cons lScale_ok (SoundG.cons Convert_ok (SoundG.cons rStands_ok (SoundG.cons rAreReadings_ok (SoundG.cons wakes_ok (SoundG.nil _))))))))))) mixed Try.func3 (show Try.f3.body = some (bodyOf Try.f3) by kernel_rfl) noLoops (t := (Tree.branch (decide ((↑n : Int) > (11 : Int))) (Tree.leaf (RV.x (Value.bool true))) (Tree.need [isRec 2 n fun k => [i (a k), i (b k)], n ≤ 100000] (Tree.need [isRec 2 n fun k => [i (a k), i (b k)]] (Tree.need [isRec 2 n fun k => [i (a k), i (b k)], n ≤ 100000] (Tree.branch (sdE n a b lo hi != (3 : Int)) (Tree.branch ((↑n : Int) == (0 : Int)) (Tree.branch ((1 : Int) == (0 : Int)) (Tree.need [isRec 2 n fun k => [i (a k), i (b k)], n ≤ 100000, allS n a b = true, insB (-1000000 : Int) lo hi (1000000 : Int) = true] (Tree.branch (!Prod.fst (rth a b (n - 1) 0 lo hi)) (Tree.branch (thE n a b lo hi != (10 : Int)) (Tree.leaf (RV.x (Value.bool false))) (Tree.branch (!((match thR n a b lo hi with | some p => Prod.fst p | none => (0 : Int)) == (0 : Int) && ((match thR n a b lo hi with | some p => Prod.snd p | none => (0 : Int)) == (0 : Int) && true))) (Tree.leaf (RV.x (Value.bool false))) (Tree.branch (decide ((↑n : Int) < (2 : Int))) (Tree.leaf (RV.x (Value.bool true))) (Tree.need [(0 : Int) ≤ (0 : Int) ∧ (0 : Int) < (↑n : Int)] (Tree.need [(0 : Int) ≤ (1 : Int) ∧ (1 : Int) < (↑n : Int)] (Tree.need [(0 : Int) ≤ (0 : Int) ∧ (0 : Int) ≤ (2 : Int) ∧ (2 : Int) ≤ (↑n : Int)] (Tree.need [isRec 2 2 fun i => [Ytchcegfhamngkaa.i (a (Int.toNat (0 : Int) + i)), Ytchcegfhamngkaa.i (b (Int.toNat (0 : Int) + i))], 2 ≤ 100000] (Tree.branch (sdE 2 (fun i => a (Int.toNat (0 : Int) + i)) (fun i => b (Int.toNat (0 : Int) + i)) lo hi != (0 : Int)) (Tree.branch (cvE (a (Int.toNat (0 : Int))) (b (Int.toNat (0 : Int))) (a (Int.toNat (1 : Int))) (b (Int.toNat (1 : Int))) lo hi == sdE 2 (fun i => a (Int.toNat (0 : Int) + i)) (fun i => b (Int.toNat (0 : Int) + i)) lo hi) (Tree.branch (cvLo (a (Int.toNat (0 : Int))) (b (Int.toNat (0 : Int))) (a (Int.toNat (1 : Int))) (b (Int.toNat (1 : Int))) lo hi == (0 : Int) && (cvHi (a (Int.toNat (0 : Int))) (b (Int.toNat (0 : Int))) (a (Int.toNat (1 : Int))) (b (Int.toNat (1 : Int))) lo hi == (0 : Int) && true)) (Tree.leaf (RV.x (Value.bool true))) (Tree.leaf (RV.x (Value.bool false)))) (Tree.leaf (RV.x (Value.bool false)))) (Tree.need [(0 : Int) ≤ (0 : Int) ∧ (0 : Int) < (↑n : Int)] (Tree.need [(0 : Int) ≤ (1 : Int) ∧ (1 : Int) < (↑n : Int)] (Tree.need [(-1000 : Int) ≤ a (Int.toNat (0 : Int)) ∧ a (Int.toNat (0 : Int)) ≤ (1000 : Int) ∧ (-1000 : Int) ≤ b (Int.toNat (0 : Int)) ∧ b (Int.toNat (0 : Int)) ≤ (1000 : Int) ∧ a (Int.toNat (0 : Int)) ≠ b (Int.toNat (0 : Int)), (-1000 : Int) ≤ a (Int.toNat (1 : Int)) ∧ a (Int.toNat (1 : Int)) ≤ (1000 : Int) ∧ (-1000 : Int) ≤ b (Int.toNat (1 : Int)) ∧ b (Int.toNat (1 : Int)) ≤ (1000 : Int) ∧ a (Int.toNat (1 : Int)) ≠ b (Int.toNat (1 : Int)), (-1000000 : Int) ≤ lo ∧ lo ≤ hi ∧ hi ≤ (1000000 : Int)] (Tree.branch (insB (-1000000 : Int) (stLo (a (Int.toNat (0 : Int))) (b (Int.toNat (0 : Int))) (a (Int.toNat (1 : Int))) (b (Int.toNat (1 : Int))) lo hi) (stHi (a (Int.toNat (0 : Int))) (b (Int.toNat (0 : Int))) (a (Int.toNat (1 : Int))) (b (Int.toNat (1 : Int))) lo hi) (1000000 : Int)) (Tree.branch (cvE (a (Int.toNat (0 : Int))) (b (Int.toNat (0 : Int))) (a (Int.toNat (1 : Int))) (b (Int.toNat (1 : Int))) lo hi == (0 : Int)) (Tree.branch (cvLo (a (Int.toNat (0 : Int))) (b (Int.toNat (0 : Int))) (a (Int.toNat (1 : Int))) (b (Int.toNat (1 : Int))) lo hi == stLo (a (Int.toNat (0 : Int))) (b (Int.toNat (0 : Int))) (a (Int.toNat (1 : Int))) (b (Int.toNat (1 : Int))) lo hi && (cvHi (a (Int.toNat (0 : Int))) (b (Int.toNat (0 : Int))) (a (Int.toNat (1 : Int))) (b (Int.toNat (1 : Int))) lo hi == stHi (a (Int.toNat (0 : Int))) (b (Int.toNat (0 : Int))) (a (Int.toNat (1 : Int))) (b (Int.toNat (1 : Int))) lo hi && true)) (Tree.leaf (RV.x (Value.bool true))) (Tree.leaf (RV.x (Value.bool false)))) (Tree.leaf (RV.x (Value.bool false)))) (Tree.branch (cvE (a (Int.toNat (0 : Int))) (b (Int.toNat (0 : Int))) (a (Int.toNat (1 : Int))) (b (Int.toNat (1 : Int))) lo hi == (10 : Int)) (Tree.branch (cvLo (a (Int.toNat (0 : Int))) (b (Int.toNat (0 : Int))) (a (Int.toNat (1 : Int))) (b (Int.toNat (1 : Int))) lo hi == (0 : Int) && (cvHi (a (Int.toNat (0 : Int))) (b (Int.toNat (0 : Int))) (a (Int.toNat (1 : Int))) (b (Int.toNat (1 : Int))) lo hi == (0 : Int) && true)) (Tree.leaf (RV.x (Value.bool true))) (Tree.leaf (RV.x (Value.bool false)))) (Tree.leaf (RV.x (Value.bool false)))))))))))))))) (Tree.branch (thE n a b lo hi != (1 : Int)) (Tree.leaf (RV.x (Value.bool false))) (Tree.branch (!((match thR n a b lo hi with | some p => Prod.fst p | none => (0 : Int)) == Prod.fst (Prod.snd (rth a b (n - 1) 0 lo hi)) && ((match thR n a b lo hi with | some p => Prod.snd p | none => (0 : Int)) == Prod.snd (Prod.snd (rth a b (n - 1) 0 lo hi)) && true))) (Tree.leaf (RV.x (Value.bool false))) (Tree.branch (decide ((↑n : Int) < (2 : Int))) (Tree.leaf (RV.x (Value.bool true))) (Tree.need [(0 : Int) ≤ (0 : Int) ∧ (0 : Int) < (↑n : Int)] (Tree.need [(0 : Int) ≤ (1 : Int) ∧ (1 : Int) < (↑n : Int)] (Tree.need [(0 : Int) ≤ (0 : Int) ∧ (0 : Int) ≤ (2 : Int) ∧ (2 : Int) ≤ (↑n : Int)] (Tree.need [isRec 2 2 fun i => [Ytchcegfhamngkaa.i (a (Int.toNat (0 : Int) + i)), Ytchcegfhamngkaa.i (b (Int.toNat (0 : Int) + i))], 2 ≤ 100000] (Tree.branch (sdE 2 (fun i => a (Int.toNat (0 : Int) + i)) (fun i => b (Int.toNat (0 : Int) + i)) lo hi != (0 : Int)) (Tree.branch (cvE (a (Int.toNat (0 : Int))) (b (Int.toNat (0 : Int))) (a (Int.toNat (1 : Int))) (b (Int.toNat (1 : Int))) lo hi == sdE 2 (fun i => a (Int.toNat (0 : Int) + i)) (fun i => b (Int.toNat (0 : Int) + i)) lo hi) (Tree.branch (cvLo (a (Int.toNat (0 : Int))) (b (Int.toNat (0 : Int))) (a (Int.toNat (1 : Int))) (b (Int.toNat (1 : Int))) lo hi == (0 : Int) && (cvHi (a (Int.toNat (0 : Int))) (b (Int.toNat (0 : Int))) (a (Int.toNat (1 : Int))) (b (Int.toNat (1 : Int))) lo hi == (0 : Int) && true)) (Tree.leaf (RV.x (Value.bool true))) (Tree.leaf (RV.x (Value.bool false)))) (Tree.leaf (RV.x (Value.bool false)))) (Tree.need [(0 : Int) ≤ (0 : Int) ∧ (0 : Int) < (↑n : Int)] (Tree.need [(0 : Int) ≤ (1 : Int) ∧ (1 : Int) < (↑n : Int)] (Tree.need [(-1000 : Int) ≤ a (Int.toNat (0 : Int)) ∧ a (Int.toNat (0 : Int)) ≤ (1000 : Int) ∧ (-1000 : Int) ≤ b (Int.toNat (0 : Int)) ∧ b (Int.toNat (0 : Int)) ≤ (1000 : Int) ∧ a (Int.toNat (0 : Int)) ≠ b (Int.toNat (0 : Int)), (-1000 : Int) ≤ a (Int.toNat (1 : Int)) ∧ a (Int.toNat (1 : Int)) ≤ (1000 : Int) ∧ (-1000 : Int) ≤ b (Int.toNat (1 : Int)) ∧ b (Int.toNat (1 : Int)) ≤ (1000 : Int) ∧ a (Int.toNat (1 : Int)) ≠ b (Int.toNat (1 : Int)), (-1000000 : Int) ≤ lo ∧ lo ≤ hi ∧ hi ≤ (1000000 : Int)] (Tree.branch (insB (-1000000 : Int) (stLo (a (Int.toNat (0 : Int))) (b (Int.toNat (0 : Int))) (a (Int.toNat (1 : Int))) (b (Int.toNat (1 : Int))) lo hi) (stHi (a (Int.toNat (0 : Int))) (b (Int.toNat (0 : Int))) (a (Int.toNat (1 : Int))) (b (Int.toNat (1 : Int))) lo hi) (1000000 : Int)) (Tree.branch (cvE (a (Int.toNat (0 : Int))) (b (Int.toNat (0 : Int))) (a (Int.toNat (1 : Int))) (b (Int.toNat (1 : Int))) lo hi == (0 : Int)) (Tree.branch (cvLo (a (Int.toNat (0 : Int))) (b (Int.toNat (0 : Int))) (a (Int.toNat (1 : Int))) (b (Int.toNat (1 : Int))) lo hi == stLo (a (Int.toNat (0 : Int))) (b (Int.toNat (0 : Int))) (a (Int.toNat (1 : Int))) (b (Int.toNat (1 : Int))) lo hi && (cvHi (a (Int.toNat (0 : Int))) (b (Int.toNat (0 : Int))) (a (Int.toNat (1 : Int))) (b (Int.toNat (1 : Int))) lo hi == stHi (a (Int.toNat (0 : Int))) (b (Int.toNat (0 : Int))) (a (Int.toNat (1 : Int))) (b (Int.toNat (1 : Int))) lo hi && true)) (Tree.leaf (RV.x (Value.bool true))) (Tree.leaf (RV.x (Value.bool false)))) (Tree.leaf (RV.x (Value.bool false)))) (Tree.branch (cvE (a (Int.toNat (0 : Int))) (b (Int.toNat (0 : Int))) (a (Int.toNat (1 : Int))) (b (Int.toNat (1 : Int))) lo hi == (10 : Int)) (Tree.branch (cvLo (a (Int.toNat (0 : Int))) (b (Int.toNat (0 : Int))) (a (Int.toNat (1 : Int))) (b (Int.toNat (1 : Int))) lo hi == (0 : Int) && (cvHi (a (Int.toNat (0 : Int))) (b (Int.toNat (0 : Int))) (a (Int.toNat (1 : Int))) (b (Int.toNat (1 : Int))) lo hi == (0 : Int) && true)) (Tree.leaf (RV.x (Value.bool true))) (Tree.leaf (RV.x (Value.bool false)))) (Tree.leaf (RV.x (Value.bool false)))))))))))))))))) (Tree.branch (thE n a b lo hi != (1 : Int)) (Tree.leaf (RV.x (Value.bool false))) (Tree.branch (!((match thR n a b lo hi with | some p => Prod.fst p | none => (0 : Int)) == (0 : Int) && ((match thR n a b lo hi with | some p => Prod.snd p | none => (0 : Int)) == (0 : Int) && true))) (Tree.leaf (RV.x (Value.bool false))) (Tree.branch (decide ((↑n : Int) < (2 : Int))) (Tree.leaf (RV.x (Value.bool true))) (Tree.need [(0 : Int) ≤ (0 : Int) ∧ (0 : Int) < (↑n : Int)] (Tree.need [(0 : Int) ≤ (1 : Int) ∧ (1 : Int) < (↑n : Int)] (Tree.need [(0 : Int) ≤ (0 : Int) ∧ (0 : Int) ≤ (2 : Int) ∧ (2 : Int) ≤ (↑n : Int)] (Tree.need [isRec 2 2 fun i => [Ytchcegfhamngkaa.i (a (Int.toNat (0 : Int) + i)), Ytchcegfhamngkaa.i (b (Int.toNat (0 : Int) + i))], 2 ≤ 100000] (Tree.branch (sdE 2 (fun i => a (Int.toNat (0 : Int) + i)) (fun i => b (Int.toNat (0 : Int) + i)) lo hi != (0 : Int)) (Tree.branch (cvE (a (Int.toNat (0 : Int))) (b (Int.toNat (0 : Int))) (a (Int.toNat (1 : Int))) (b (Int.toNat (1 : Int))) lo hi == sdE 2 (fun i => a (Int.toNat (0 : Int) + i)) (fun i => b (Int.toNat (0 : Int) + i)) lo hi) (Tree.branch (cvLo (a (Int.toNat (0 : Int))) (b (Int.toNat (0 : Int))) (a (Int.toNat (1 : Int))) (b (Int.toNat (1 : Int))) lo hi == (0 : Int) && (cvHi (a (Int.toNat (0 : Int))) (b (Int.toNat (0 : Int))) (a (Int.toNat (1 : Int))) (b (Int.toNat (1 : Int))) lo hi == (0 : Int) && true)) (Tree.leaf (RV.x (Value.bool true))) (Tree.leaf (RV.x (Value.bool false)))) (Tree.leaf (RV.x (Value.bool false)))) (Tree.need [(0 : Int) ≤ (0 : Int) ∧ (0 : Int) < (↑n : Int)] (Tree.need [(0 : Int) ≤ (1 : Int) ∧ (1 : Int) < (↑n : Int)] (Tree.need [(-1000 : Int) ≤ a (Int.toNat (0 : Int)) ∧ a (Int.toNat (0 : Int)) ≤ (1000 : Int) ∧ (-1000 : Int) ≤ b (Int.toNat (0 : Int)) ∧ b (Int.toNat (0 : Int)) ≤ (1000 : Int) ∧ a (Int.toNat (0 : Int)) ≠ b (Int.toNat (0 : Int)), (-1000 : Int) ≤ a (Int.toNat (1 : Int)) ∧ a (Int.toNat (1 : Int)) ≤ (1000 : Int) ∧ (-1000 : Int) ≤ b (Int.toNat (1 : Int)) ∧ b (Int.toNat (1 : Int)) ≤ (1000 : Int) ∧ a (Int.toNat (1 : Int)) ≠ b (Int.toNat (1 : Int)), (-1000000 : Int) ≤ lo ∧ lo ≤ hi ∧ hi ≤ (1000000 : Int)] (Tree.branch (insB (-1000000 : Int) (stLo (a (Int.toNat (0 : Int))) (b (Int.toNat (0 : Int))) (a (Int.toNat (1 : Int))) (b (Int.toNat (1 : Int))) lo hi) (stHi (a (Int.toNat (0 : Int))) (b (Int.toNat (0 : Int))) (a (Int.toNat (1 : Int))) (b (Int.toNat (1 : Int))) lo hi) (1000000 : Int)) (Tree.branch (cvE (a (Int.toNat (0 : Int))) (b (Int.toNat (0 : Int))) (a (Int.toNat (1 : Int))) (b (Int.toNat (1 : Int))) lo hi == (0 : Int)) (Tree.branch (cvLo (a (Int.toNat (0 : Int))) (b (Int.toNat (0 : Int))) (a (Int.toNat (1 : Int))) (b (Int.toNat (1 : Int))) lo hi == stLo (a (Int.toNat (0 : Int))) (b (Int.toNat (0 : Int))) (a (Int.toNat (1 : Int))) (b (Int.toNat (1 : Int))) lo hi && (cvHi (a (Int.toNat (0 : Int))) (b (Int.toNat (0 : Int))) (a (Int.toNat (1 : Int))) (b (Int.toNat (1 : Int))) lo hi == stHi (a (Int.toNat (0 : Int))) (b (Int.toNat (0 : Int))) (a (Int.toNat (1 : Int))) (b (Int.toNat (1 : Int))) lo hi && true)) (Tree.leaf (RV.x (Value.bool true))) (Tree.leaf (RV.x (Value.bool false)))) (Tree.leaf (RV.x (Value.bool false)))) (Tree.branch (cvE (a (Int.toNat (0 : Int))) (b (Int.toNat (0 : Int))) (a (Int.toNat (1 : Int))) (b (Int.toNat (1 : Int))) lo hi == (10 : Int)) (Tree.branch (cvLo (a (Int.toNat (0 : Int))) (b (Int.toNat (0 : Int))) (a (Int.toNat (1 : Int))) (b (Int.toNat (1 : Int))) lo hi == (0 : Int) && (cvHi (a (Int.toNat (0 : Int))) (b (Int.toNat (0 : Int))) (a (Int.toNat (1 : Int))) (b (Int.toNat (1 : Int))) lo hi == (0 : Int) && true)) (Tree.leaf (RV.x (Value.bool true))) (Tree.leaf (RV.x (Value.bool false)))) (Tree.leaf (RV.x (Value.bool false))))))))))))))))) (Tree.branch (sdE n a b lo hi == (0 : Int)) (Tree.need [isRec 2 n fun k => [i (a k), i (b k)], n ≤ 100000, allS n a b = true, insB (-1000000 : Int) lo hi (1000000 : Int) = true] (Tree.branch (!Prod.fst (rth a b (n - 1) 0 lo hi)) (Tree.branch (thE n a b lo hi != (10 : Int)) (Tree.leaf (RV.x (Value.bool false))) (Tree.branch (!((match thR n a b lo hi with | some p => Prod.fst p | none => (0 : Int)) == (0 : Int) && ((match thR n a b lo hi with | some p => Prod.snd p | none => (0 : Int)) == (0 : Int) && true))) (Tree.leaf (RV.x (Value.bool false))) (Tree.branch (decide ((↑n : Int) < (2 : Int))) (Tree.leaf (RV.x (Value.bool true))) (Tree.need [(0 : Int) ≤ (0 : Int) ∧ (0 : Int) < (↑n : Int)] (Tree.need [(0 : Int) ≤ (1 : Int) ∧ (1 : Int) < (↑n : Int)] (Tree.need [(0 : Int) ≤ (0 : Int) ∧ (0 : Int) ≤ (2 : Int) ∧ (2 : Int) ≤ (↑n : Int)] (Tree.need [isRec 2 2 fun i => [Ytchcegfhamngkaa.i (a (Int.toNat (0 : Int) + i)), Ytchcegfhamngkaa.i (b (Int.toNat (0 : Int) + i))], 2 ≤ 100000] (Tree.branch (sdE 2 (fun i => a (Int.toNat (0 : Int) + i)) (fun i => b (Int.toNat (0 : Int) + i)) lo hi != (0 : Int)) (Tree.branch (cvE (a (Int.toNat (0 : Int))) (b (Int.toNat (0 : Int))) (a (Int.toNat (1 : Int))) (b (Int.toNat (1 : Int))) lo hi == sdE 2 (fun i => a (Int.toNat (0 : Int) + i)) (fun i => b (Int.toNat (0 : Int) + i)) lo hi) (Tree.branch (cvLo (a (Int.toNat (0 : Int))) (b (Int.toNat (0 : Int))) (a (Int.toNat (1 : Int))) (b (Int.toNat (1 : Int))) lo hi == (0 : Int) && (cvHi (a (Int.toNat (0 : Int))) (b (Int.toNat (0 : Int))) (a (Int.toNat (1 : Int))) (b (Int.toNat (1 : Int))) lo hi == (0 : Int) && true)) (Tree.leaf (RV.x (Value.bool true))) (Tree.leaf (RV.x (Value.bool false)))) (Tree.leaf (RV.x (Value.bool false)))) (Tree.need [(0 : Int) ≤ (0 : Int) ∧ (0 : Int) < (↑n : Int)] (Tree.need [(0 : Int) ≤ (1 : Int) ∧ (1 : Int) < (↑n : Int)] (Tree.need [(-1000 : Int) ≤ a (Int.toNat (0 : Int)) ∧ a (Int.toNat (0 : Int)) ≤ (1000 : Int) ∧ (-1000 : Int) ≤ b (Int.toNat (0 : Int)) ∧ b (Int.toNat (0 : Int)) ≤ (1000 : Int) ∧ a (Int.toNat (0 : Int)) ≠ b (Int.toNat (0 : Int)), (-1000 : Int) ≤ a (Int.toNat (1 : Int)) ∧ a (Int.toNat (1 : Int)) ≤ (1000 : Int) ∧ (-1000 : Int) ≤ b (Int.toNat (1 : Int)) ∧ b (Int.toNat (1 : Int)) ≤ (1000 : Int) ∧ a (Int.toNat (1 : Int)) ≠ b (Int.toNat (1 : Int)), (-1000000 : Int) ≤ lo ∧ lo ≤ hi ∧ hi ≤ (1000000 : Int)] (Tree.branch (insB (-1000000 : Int) (stLo (a (Int.toNat (0 : Int))) (b (Int.toNat (0 : Int))) (a (Int.toNat (1 : Int))) (b (Int.toNat (1 : Int))) lo hi) (stHi (a (Int.toNat (0 : Int))) (b (Int.toNat (0 : Int))) (a (Int.toNat (1 : Int))) (b (Int.toNat (1 : Int))) lo hi) (1000000 : Int)) (Tree.branch (cvE (a (Int.toNat (0 : Int))) (b (Int.toNat (0 : Int))) (a (Int.toNat (1 : Int))) (b (Int.toNat (1 : Int))) lo hi == (0 : Int)) (Tree.branch (cvLo (a (Int.toNat (0 : Int))) (b (Int.toNat (0 : Int))) (a (Int.toNat (1 : Int))) (b (Int.toNat (1 : Int))) lo hi == stLo (a (Int.toNat (0 : Int))) (b (Int.toNat (0 : Int))) (a (Int.toNat (1 : Int))) (b (Int.toNat (1 : Int))) lo hi && (cvHi (a (Int.toNat (0 : Int))) (b (Int.toNat (0 : Int))) (a (Int.toNat (1 : Int))) (b (Int.toNat (1 : Int))) lo hi == stHi (a (Int.toNat (0 : Int))) (b (Int.toNat (0 : Int))) (a (Int.toNat (1 : Int))) (b (Int.toNat (1 : Int))) lo hi && true)) (Tree.leaf (RV.x (Value.bool true))) (Tree.leaf (RV.x (Value.bool false)))) (Tree.leaf (RV.x (Value.bool false)))) (Tree.branch (cvE (a (Int.toNat (0 : Int))) (b (Int.toNat (0 : Int))) (a (Int.toNat (1 : Int))) (b (Int.toNat (1 : Int))) lo hi == (10 : Int)) (Tree.branch (cvLo (a (Int.toNat (0 : Int))) (b (Int.toNat (0 : Int))) (a (Int.toNat (1 : Int))) (b (Int.toNat (1 : Int))) lo hi == (0 : Int) && (cvHi (a (Int.toNat (0 : Int))) (b (Int.toNat (0 : Int))) (a (Int.toNat (1 : Int))) (b (Int.toNat (1 : Int))) lo hi == (0 : Int) && true)) (Tree.leaf (RV.x (Value.bool true))) (Tree.leaf (RV.x (Value.bool false)))) (Tree.leaf (RV.x (Value.bool false)))))))))))))))) (Tree.branch (thE n a b lo hi != sdE n a b lo hi) (Tree.leaf (RV.x (Value.bool false))) (Tree.branch (!((match thR n a b lo hi with | some p => Prod.fst p | none => (0 : Int)) == Prod.fst (Prod.snd (rth a b (n - 1) 0 lo hi)) && ((match thR n a b lo hi with | some p => Prod.snd p | none => (0 : Int)) == Prod.snd (Prod.snd (rth a b (n - 1) 0 lo hi)) && true))) (Tree.leaf (RV.x (Value.bool false))) (Tree.branch (decide ((↑n : Int) < (2 : Int))) (Tree.leaf (RV.x (Value.bool true))) (Tree.need [(0 : Int) ≤ (0 : Int) ∧ (0 : Int) < (↑n : Int)] (Tree.need [(0 : Int) ≤ (1 : Int) ∧ (1 : Int) < (↑n : Int)] (Tree.need [(0 : Int) ≤ (0 : Int) ∧ (0 : Int) ≤ (2 : Int) ∧ (2 : Int) ≤ (↑n : Int)] (Tree.need [isRec 2 2 fun i => [Ytchcegfhamngkaa.i (a (Int.toNat (0 : Int) + i)), Ytchcegfhamngkaa.i (b (Int.toNat (0 : Int) + i))], 2 ≤ 100000] (Tree.branch (sdE 2 (fun i => a (Int.toNat (0 : Int) + i)) (fun i => b (Int.toNat (0 : Int) + i)) lo hi != (0 : Int)) (Tree.branch (cvE (a (Int.toNat (0 : Int))) (b (Int.toNat (0 : Int))) (a (Int.toNat (1 : Int))) (b (Int.toNat (1 : Int))) lo hi == sdE 2 (fun i => a (Int.toNat (0 : Int) + i)) (fun i => b (Int.toNat (0 : Int) + i)) lo hi) (Tree.branch (cvLo (a (Int.toNat (0 : Int))) (b (Int.toNat (0 : Int))) (a (Int.toNat (1 : Int))) (b (Int.toNat (1 : Int))) lo hi == (0 : Int) && (cvHi (a (Int.toNat (0 : Int))) (b (Int.toNat (0 : Int))) (a (Int.toNat (1 : Int))) (b (Int.toNat (1 : Int))) lo hi == (0 : Int) && true)) (Tree.leaf (RV.x (Value.bool true))) (Tree.leaf (RV.x (Value.bool false)))) (Tree.leaf (RV.x (Value.bool false)))) (Tree.need [(0 : Int) ≤ (0 : Int) ∧ (0 : Int) < (↑n : Int)] (Tree.need [(0 : Int) ≤ (1 : Int) ∧ (1 : Int) < (↑n : Int)] (Tree.need [(-1000 : Int) ≤ a (Int.toNat (0 : Int)) ∧ a (Int.toNat (0 : Int)) ≤ (1000 : Int) ∧ (-1000 : Int) ≤ b (Int.toNat (0 : Int)) ∧ b (Int.toNat (0 : Int)) ≤ (1000 : Int) ∧ a (Int.toNat (0 : Int)) ≠ b (Int.toNat (0 : Int)), (-1000 : Int) ≤ a (Int.toNat (1 : Int)) ∧ a (Int.toNat (1 : Int)) ≤ (1000 : Int) ∧ (-1000 : Int) ≤ b (Int.toNat (1 : Int)) ∧ b (Int.toNat (1 : Int)) ≤ (1000 : Int) ∧ a (Int.toNat (1 : Int)) ≠ b (Int.toNat (1 : Int)), (-1000000 : Int) ≤ lo ∧ lo ≤ hi ∧ hi ≤ (1000000 : Int)] (Tree.branch (insB (-1000000 : Int) (stLo (a (Int.toNat (0 : Int))) (b (Int.toNat (0 : Int))) (a (Int.toNat (1 : Int))) (b (Int.toNat (1 : Int))) lo hi) (stHi (a (Int.toNat (0 : Int))) (b (Int.toNat (0 : Int))) (a (Int.toNat (1 : Int))) (b (Int.toNat (1 : Int))) lo hi) (1000000 : Int)) (Tree.branch (cvE (a (Int.toNat (0 : Int))) (b (Int.toNat (0 : Int))) (a (Int.toNat (1 : Int))) (b (Int.toNat (1 : Int))) lo hi == (0 : Int)) (Tree.branch (cvLo (a (Int.toNat (0 : Int))) (b (Int.toNat (0 : Int))) (a (Int.toNat (1 : Int))) (b (Int.toNat (1 : Int))) lo hi == stLo (a (Int.toNat (0 : Int))) (b (Int.toNat (0 : Int))) (a (Int.toNat (1 : Int))) (b (Int.toNat (1 : Int))) lo hi && (cvHi (a (Int.toNat (0 : Int))) (b (Int.toNat (0 : Int))) (a (Int.toNat (1 : Int))) (b (Int.toNat (1 : Int))) lo hi == stHi (a (Int.toNat (0 : Int))) (b (Int.toNat (0 : Int))) (a (Int.toNat (1 : Int))) (b (Int.toNat (1 : Int))) lo hi && true)) (Tree.leaf (RV.x (Value.bool true))) (Tree.leaf (RV.x (Value.bool false)))) (Tree.leaf (RV.x (Value.bool false)))) (Tree.branch (cvE (a (Int.toNat (0 : Int))) (b (Int.toNat (0 : Int))) (a (Int.toNat (1 : Int))) (b (Int.toNat (1 : Int))) lo hi == (10 : Int)) (Tree.branch (cvLo (a (Int.toNat (0 : Int))) (b (Int.toNat (0 : Int))) (a (Int.toNat (1 : Int))) (b (Int.toNat (1 : Int))) lo hi == (0 : Int) && (cvHi (a (Int.toNat (0 : Int))) (b (Int.toNat (0 : Int))) (a (Int.toNat (1 : Int))) (b (Int.toNat (1 : Int))) lo hi == (0 : Int) && true)) (Tree.leaf (RV.x (Value.bool true))) (Tree.leaf (RV.x (Value.bool false)))) (Tree.leaf (RV.x (Value.bool false)))))))))))))))))) (Tree.branch (thE n a b lo hi != sdE n a b lo hi) (Tree.leaf (RV.x (Value.bool false))) (Tree.branch (!((match thR n a b lo hi with | some p => Prod.fst p | none => (0 : Int)) == (0 : Int) && ((match thR n a b lo hi with | some p => Prod.snd p | none => (0 : Int)) == (0 : Int) && true))) (Tree.leaf (RV.x (Value.bool false))) (Tree.branch (decide ((↑n : Int) < (2 : Int))) (Tree.leaf (RV.x (Value.bool true))) (Tree.need [(0 : Int) ≤ (0 : Int) ∧ (0 : Int) < (↑n : Int)] (Tree.need [(0 : Int) ≤ (1 : Int) ∧ (1 : Int) < (↑n : Int)] (Tree.need [(0 : Int) ≤ (0 : Int) ∧ (0 : Int) ≤ (2 : Int) ∧ (2 : Int) ≤ (↑n : Int)] (Tree.need [isRec 2 2 fun i => [Ytchcegfhamngkaa.i (a (Int.toNat (0 : Int) + i)), Ytchcegfhamngkaa.i (b (Int.toNat (0 : Int) + i))], 2 ≤ 100000] (Tree.branch (sdE 2 (fun i => a (Int.toNat (0 : Int) + i)) (fun i => b (Int.toNat (0 : Int) + i)) lo hi != (0 : Int)) (Tree.branch (cvE (a (Int.toNat (0 : Int))) (b (Int.toNat (0 : Int))) (a (Int.toNat (1 : Int))) (b (Int.toNat (1 : Int))) lo hi == sdE 2 (fun i => a (Int.toNat (0 : Int) + i)) (fun i => b (Int.toNat (0 : Int) + i)) lo hi) (Tree.branch (cvLo (a (Int.toNat (0 : Int))) (b (Int.toNat (0 : Int))) (a (Int.toNat (1 : Int))) (b (Int.toNat (1 : Int))) lo hi == (0 : Int) && (cvHi (a (Int.toNat (0 : Int))) (b (Int.toNat (0 : Int))) (a (Int.toNat (1 : Int))) (b (Int.toNat (1 : Int))) lo hi == (0 : Int) && true)) (Tree.leaf (RV.x (Value.bool true))) (Tree.leaf (RV.x (Value.bool false)))) (Tree.leaf (RV.x (Value.bool false)))) (Tree.need [(0 : Int) ≤ (0 : Int) ∧ (0 : Int) < (↑n : Int)] (Tree.need [(0 : Int) ≤ (1 : Int) ∧ (1 : Int) < (↑n : Int)] (Tree.need [(-1000 : Int) ≤ a (Int.toNat (0 : Int)) ∧ a (Int.toNat (0 : Int)) ≤ (1000 : Int) ∧ (-1000 : Int) ≤ b (Int.toNat (0 : Int)) ∧ b (Int.toNat (0 : Int)) ≤ (1000 : Int) ∧ a (Int.toNat (0 : Int)) ≠ b (Int.toNat (0 : Int)), (-1000 : Int) ≤ a (Int.toNat (1 : Int)) ∧ a (Int.toNat (1 : Int)) ≤ (1000 : Int) ∧ (-1000 : Int) ≤ b (Int.toNat (1 : Int)) ∧ b (Int.toNat (1 : Int)) ≤ (1000 : Int) ∧ a (Int.toNat (1 : Int)) ≠ b (Int.toNat (1 : Int)), (-1000000 : Int) ≤ lo ∧ lo ≤ hi ∧ hi ≤ (1000000 : Int)] (Tree.branch (insB (-1000000 : Int) (stLo (a (Int.toNat (0 : Int))) (b (Int.toNat (0 : Int))) (a (Int.toNat (1 : Int))) (b (Int.toNat (1 : Int))) lo hi) (stHi (a (Int.toNat (0 : Int))) (b (Int.toNat (0 : Int))) (a (Int.toNat (1 : Int))) (b (Int.toNat (1 : Int))) lo hi) (1000000 : Int)) (Tree.branch (cvE (a (Int.toNat (0 : Int))) (b (Int.toNat (0 : Int))) (a (Int.toNat (1 : Int))) (b (Int.toNat (1 : Int))) lo hi == (0 : Int)) (Tree.branch (cvLo (a (Int.toNat (0 : Int))) (b (Int.toNat (0 : Int))) (a (Int.toNat (1 : Int))) (b (Int.toNat (1 : Int))) lo hi == stLo (a (Int.toNat (0 : Int))) (b (Int.toNat (0 : Int))) (a (Int.toNat (1 : Int))) (b (Int.toNat (1 : Int))) lo hi && (cvHi (a (Int.toNat (0 : Int))) (b (Int.toNat (0 : Int))) (a (Int.toNat (1 : Int))) (b (Int.toNat (1 : Int))) lo hi == stHi (a (Int.toNat (0 : Int))) (b (Int.toNat (0 : Int))) (a (Int.toNat (1 : Int))) (b (Int.toNat (1 : Int))) lo hi && true)) (Tree.leaf (RV.x (Value.bool true))) (Tree.leaf (RV.x (Value.bool false)))) (Tree.leaf (RV.x (Value.bool false)))) (Tree.branch (cvE (a (Int.toNat (0 : Int))) (b (Int.toNat (0 : Int))) (a (Int.toNat (1 : Int))) (b (Int.toNat (1 : Int))) lo hi == (10 : Int)) (Tree.branch (cvLo (a (Int.toNat (0 : Int))) (b (Int.toNat (0 : Int))) (a (Int.toNat (1 : Int))) (b (Int.toNat (1 : Int))) lo hi == (0 : Int) && (cvHi (a (Int.toNat (0 : Int))) (b (Int.toNat (0 : Int))) (a (Int.toNat (1 : Int))) (b (Int.toNat (1 : Int))) lo hi == (0 : Int) && true)) (Tree.leaf (RV.x (Value.bool true))) (Tree.leaf (RV.x (Value.bool false)))) (Tree.leaf (RV.x (Value.bool false)))))))))))))))))) (Tree.branch (sdE n a b lo hi == (0 : Int)) (Tree.need [isRec 2 n fun k => [i (a k), i (b k)], n ≤ 100000, allS n a b = true, insB (-1000000 : Int) lo hi (1000000 : Int) = true] (Tree.branch (!Prod.fst (rth a b (n - 1) 0 lo hi)) (Tree.branch (thE n a b lo hi != (10 : Int)) (Tree.leaf (RV.x (Value.bool false))) (Tree.branch (!((match thR n a b lo hi with | some p => Prod.fst p | none => (0 : Int)) == (0 : Int) && ((match thR n a b lo hi with | some p => Prod.snd p | none => (0 : Int)) == (0 : Int) && true))) (Tree.leaf (RV.x (Value.bool false))) (Tree.branch (decide ((↑n : Int) < (2 : Int))) (Tree.leaf (RV.x (Value.bool true))) (Tree.need [(0 : Int) ≤ (0 : Int) ∧ (0 : Int) < (↑n : Int)] (Tree.need [(0 : Int) ≤ (1 : Int) ∧ (1 : Int) < (↑n : Int)] (Tree.need [(0 : Int) ≤ (0 : Int) ∧ (0 : Int) ≤ (2 : Int) ∧ (2 : Int) ≤ (↑n : Int)] (Tree.need [isRec 2 2 fun i => [Ytchcegfhamngkaa.i (a (Int.toNat (0 : Int) + i)), Ytchcegfhamngkaa.i (b (Int.toNat (0 : Int) + i))], 2 ≤ 100000] (Tree.branch (sdE 2 (fun i => a (Int.toNat (0 : Int) + i)) (fun i => b (Int.toNat (0 : Int) + i)) lo hi != (0 : Int)) (Tree.branch (cvE (a (Int.toNat (0 : Int))) (b (Int.toNat (0 : Int))) (a (Int.toNat (1 : Int))) (b (Int.toNat (1 : Int))) lo hi == sdE 2 (fun i => a (Int.toNat (0 : Int) + i)) (fun i => b (Int.toNat (0 : Int) + i)) lo hi) (Tree.branch (cvLo (a (Int.toNat (0 : Int))) (b (Int.toNat (0 : Int))) (a (Int.toNat (1 : Int))) (b (Int.toNat (1 : Int))) lo hi == (0 : Int) && (cvHi (a (Int.toNat (0 : Int))) (b (Int.toNat (0 : Int))) (a (Int.toNat (1 : Int))) (b (Int.toNat (1 : Int))) lo hi == (0 : Int) && true)) (Tree.leaf (RV.x (Value.bool true))) (Tree.leaf (RV.x (Value.bool false)))) (Tree.leaf (RV.x (Value.bool false)))) (Tree.need [(0 : Int) ≤ (0 : Int) ∧ (0 : Int) < (↑n : Int)] (Tree.need [(0 : Int) ≤ (1 : Int) ∧ (1 : Int) < (↑n : Int)] (Tree.need [(-1000 : Int) ≤ a (Int.toNat (0 : Int)) ∧ a (Int.toNat (0 : Int)) ≤ (1000 : Int) ∧ (-1000 : Int) ≤ b (Int.toNat (0 : Int)) ∧ b (Int.toNat (0 : Int)) ≤ (1000 : Int) ∧ a (Int.toNat (0 : Int)) ≠ b (Int.toNat (0 : Int)), (-1000 : Int) ≤ a (Int.toNat (1 : Int)) ∧ a (Int.toNat (1 : Int)) ≤ (1000 : Int) ∧ (-1000 : Int) ≤ b (Int.toNat (1 : Int)) ∧ b (Int.toNat (1 : Int)) ≤ (1000 : Int) ∧ a (Int.toNat (1 : Int)) ≠ b (Int.toNat (1 : Int)), (-1000000 : Int) ≤ lo ∧ lo ≤ hi ∧ hi ≤ (1000000 : Int)] (Tree.branch (insB (-1000000 : Int) (stLo (a (Int.toNat (0 : Int))) (b (Int.toNat (0 : Int))) (a (Int.toNat (1 : Int))) (b (Int.toNat (1 : Int))) lo hi) (stHi (a (Int.toNat (0 : Int))) (b (Int.toNat (0 : Int))) (a (Int.toNat (1 : Int))) (b (Int.toNat (1 : Int))) lo hi) (1000000 : Int)) (Tree.branch (cvE (a (Int.toNat (0 : Int))) (b (Int.toNat (0 : Int))) (a (Int.toNat (1 : Int))) (b (Int.toNat (1 : Int))) lo hi == (0 : Int)) (Tree.branch (cvLo (a (Int.toNat (0 : Int))) (b (Int.toNat (0 : Int))) (a (Int.toNat (1 : Int))) (b (Int.toNat (1 : Int))) lo hi == stLo (a (Int.toNat (0 : Int))) (b (Int.toNat (0 : Int))) (a (Int.toNat (1 : Int))) (b (Int.toNat (1 : Int))) lo hi && (cvHi (a (Int.toNat (0 : Int))) (b (Int.toNat (0 : Int))) (a (Int.toNat (1 : Int))) (b (Int.toNat (1 : Int))) lo hi == stHi (a (Int.toNat (0 : Int))) (b (Int.toNat (0 : Int))) (a (Int.toNat (1 : Int))) (b (Int.toNat (1 : Int))) lo hi && true)) (Tree.leaf (RV.x (Value.bool true))) (Tree.leaf (RV.x (Value.bool false)))) (Tree.leaf (RV.x (Value.bool false)))) (Tree.branch (cvE (a (Int.toNat (0 : Int))) (b (Int.toNat (0 : Int))) (a (Int.toNat (1 : Int))) (b (Int.toNat (1 : Int))) lo hi == (10 : Int)) (Tree.branch (cvLo (a (Int.toNat (0 : Int))) (b (Int.toNat (0 : Int))) (a (Int.toNat (1 : Int))) (b (Int.toNat (1 : Int))) lo hi == (0 : Int) && (cvHi (a (Int.toNat (0 : Int))) (b (Int.toNat (0 : Int))) (a (Int.toNat (1 : Int))) (b (Int.toNat (1 : Int))) lo hi == (0 : Int) && true)) (Tree.leaf (RV.x (Value.bool true))) (Tree.leaf (RV.x (Value.bool false)))) (Tree.leaf (RV.x (Value.bool false)))))))))))))))) (Tree.branch (thE n a b lo hi != sdE n a b lo hi) (Tree.leaf (RV.x (Value.bool false))) (Tree.branch (!((match thR n a b lo hi with | some p => Prod.fst p | none => (0 : Int)) == Prod.fst (Prod.snd (rth a b (n - 1) 0 lo hi)) && ((match thR n a b lo hi with | some p => Prod.snd p | none => (0 : Int)) == Prod.snd (Prod.snd (rth a b (n - 1) 0 lo hi)) && true))) (Tree.leaf (RV.x (Value.bool false))) (Tree.branch (decide ((↑n : Int) < (2 : Int))) (Tree.leaf (RV.x (Value.bool true))) (Tree.need [(0 : Int) ≤ (0 : Int) ∧ (0 : Int) < (↑n : Int)] (Tree.need [(0 : Int) ≤ (1 : Int) ∧ (1 : Int) < (↑n : Int)] (Tree.need [(0 : Int) ≤ (0 : Int) ∧ (0 : Int) ≤ (2 : Int) ∧ (2 : Int) ≤ (↑n : Int)] (Tree.need [isRec 2 2 fun i => [Ytchcegfhamngkaa.i (a (Int.toNat (0 : Int) + i)), Ytchcegfhamngkaa.i (b (Int.toNat (0 : Int) + i))], 2 ≤ 100000] (Tree.branch (sdE 2 (fun i => a (Int.toNat (0 : Int) + i)) (fun i => b (Int.toNat (0 : Int) + i)) lo hi != (0 : Int)) (Tree.branch (cvE (a (Int.toNat (0 : Int))) (b (Int.toNat (0 : Int))) (a (Int.toNat (1 : Int))) (b (Int.toNat (1 : Int))) lo hi == sdE 2 (fun i => a (Int.toNat (0 : Int) + i)) (fun i => b (Int.toNat (0 : Int) + i)) lo hi) (Tree.branch (cvLo (a (Int.toNat (0 : Int))) (b (Int.toNat (0 : Int))) (a (Int.toNat (1 : Int))) (b (Int.toNat (1 : Int))) lo hi == (0 : Int) && (cvHi (a (Int.toNat (0 : Int))) (b (Int.toNat (0 : Int))) (a (Int.toNat (1 : Int))) (b (Int.toNat (1 : Int))) lo hi == (0 : Int) && true)) (Tree.leaf (RV.x (Value.bool true))) (Tree.leaf (RV.x (Value.bool false)))) (Tree.leaf (RV.x (Value.bool false)))) (Tree.need [(0 : Int) ≤ (0 : Int) ∧ (0 : Int) < (↑n : Int)] (Tree.need [(0 : Int) ≤ (1 : Int) ∧ (1 : Int) < (↑n : Int)] (Tree.need [(-1000 : Int) ≤ a (Int.toNat (0 : Int)) ∧ a (Int.toNat (0 : Int)) ≤ (1000 : Int) ∧ (-1000 : Int) ≤ b (Int.toNat (0 : Int)) ∧ b (Int.toNat (0 : Int)) ≤ (1000 : Int) ∧ a (Int.toNat (0 : Int)) ≠ b (Int.toNat (0 : Int)), (-1000 : Int) ≤ a (Int.toNat (1 : Int)) ∧ a (Int.toNat (1 : Int)) ≤ (1000 : Int) ∧ (-1000 : Int) ≤ b (Int.toNat (1 : Int)) ∧ b (Int.toNat (1 : Int)) ≤ (1000 : Int) ∧ a (Int.toNat (1 : Int)) ≠ b (Int.toNat (1 : Int)), (-1000000 : Int) ≤ lo ∧ lo ≤ hi ∧ hi ≤ (1000000 : Int)] (Tree.branch (insB (-1000000 : Int) (stLo (a (Int.toNat (0 : Int))) (b (Int.toNat (0 : Int))) (a (Int.toNat (1 : Int))) (b (Int.toNat (1 : Int))) lo hi) (stHi (a (Int.toNat (0 : Int))) (b (Int.toNat (0 : Int))) (a (Int.toNat (1 : Int))) (b (Int.toNat (1 : Int))) lo hi) (1000000 : Int)) (Tree.branch (cvE (a (Int.toNat (0 : Int))) (b (Int.toNat (0 : Int))) (a (Int.toNat (1 : Int))) (b (Int.toNat (1 : Int))) lo hi == (0 : Int)) (Tree.branch (cvLo (a (Int.toNat (0 : Int))) (b (Int.toNat (0 : Int))) (a (Int.toNat (1 : Int))) (b (Int.toNat (1 : Int))) lo hi == stLo (a (Int.toNat (0 : Int))) (b (Int.toNat (0 : Int))) (a (Int.toNat (1 : Int))) (b (Int.toNat (1 : Int))) lo hi && (cvHi (a (Int.toNat (0 : Int))) (b (Int.toNat (0 : Int))) (a (Int.toNat (1 : Int))) (b (Int.toNat (1 : Int))) lo hi == stHi (a (Int.toNat (0 : Int))) (b (Int.toNat (0 : Int))) (a (Int.toNat (1 : Int))) (b (Int.toNat (1 : Int))) lo hi && true)) (Tree.leaf (RV.x (Value.bool true))) (Tree.leaf (RV.x (Value.bool false)))) (Tree.leaf (RV.x (Value.bool false)))) (Tree.branch (cvE (a (Int.toNat (0 : Int))) (b (Int.toNat (0 : Int))) (a (Int.toNat (1 : Int))) (b (Int.toNat (1 : Int))) lo hi == (10 : Int)) (Tree.branch (cvLo (a (Int.toNat (0 : Int))) (b (Int.toNat (0 : Int))) (a (Int.toNat (1 : Int))) (b (Int.toNat (1 : Int))) lo hi == (0 : Int) && (cvHi (a (Int.toNat (0 : Int))) (b (Int.toNat (0 : Int))) (a (Int.toNat (1 : Int))) (b (Int.toNat (1 : Int))) lo hi == (0 : Int) && true)) (Tree.leaf (RV.x (Value.bool true))) (Tree.leaf (RV.x (Value.bool false)))) (Tree.leaf (RV.x (Value.bool false)))))))))))))))))) (Tree.branch (thE n a b lo hi != sdE n a b lo hi) (Tree.leaf (RV.x (Value.bool false))) (Tree.branch (!((match thR n a b lo hi with | some p => Prod.fst p | none => (0 : Int)) == (0 : Int) && ((match thR n a b lo hi with | some p => Prod.snd p | none => (0 : Int)) == (0 : Int) && true))) (Tree.leaf (RV.x (Value.bool false))) (Tree.branch (decide ((↑n : Int) < (2 : Int))) (Tree.leaf (RV.x (Value.bool true))) (Tree.need [(0 : Int) ≤ (0 : Int) ∧ (0 : Int) < (↑n : Int)] (Tree.need [(0 : Int) ≤ (1 : Int) ∧ (1 : Int) < (↑n : Int)] (Tree.need [(0 : Int) ≤ (0 : Int) ∧ (0 : Int) ≤ (2 : Int) ∧ (2 : Int) ≤ (↑n : Int)] (Tree.need [isRec 2 2 fun i => [Ytchcegfhamngkaa.i (a (Int.toNat (0 : Int) + i)), Ytchcegfhamngkaa.i (b (Int.toNat (0 : Int) + i))], 2 ≤ 100000] (Tree.branch (sdE 2 (fun i => a (Int.toNat (0 : Int) + i)) (fun i => b (Int.toNat (0 : Int) + i)) lo hi != (0 : Int)) (Tree.branch (cvE (a (Int.toNat (0 : Int))) (b (Int.toNat (0 : Int))) (a (Int.toNat (1 : Int))) (b (Int.toNat (1 : Int))) lo hi == sdE 2 (fun i => a (Int.toNat (0 : Int) + i)) (fun i => b (Int.toNat (0 : Int) + i)) lo hi) (Tree.branch (cvLo (a (Int.toNat (0 : Int))) (b (Int.toNat (0 : Int))) (a (Int.toNat (1 : Int))) (b (Int.toNat (1 : Int))) lo hi == (0 : Int) && (cvHi (a (Int.toNat (0 : Int))) (b (Int.toNat (0 : Int))) (a (Int.toNat (1 : Int))) (b (Int.toNat (1 : Int))) lo hi == (0 : Int) && true)) (Tree.leaf (RV.x (Value.bool true))) (Tree.leaf (RV.x (Value.bool false)))) (Tree.leaf (RV.x (Value.bool false)))) (Tree.need [(0 : Int) ≤ (0 : Int) ∧ (0 : Int) < (↑n : Int)] (Tree.need [(0 : Int) ≤ (1 : Int) ∧ (1 : Int) < (↑n : Int)] (Tree.need [(-1000 : Int) ≤ a (Int.toNat (0 : Int)) ∧ a (Int.toNat (0 : Int)) ≤ (1000 : Int) ∧ (-1000 : Int) ≤ b (Int.toNat (0 : Int)) ∧ b (Int.toNat (0 : Int)) ≤ (1000 : Int) ∧ a (Int.toNat (0 : Int)) ≠ b (Int.toNat (0 : Int)), (-1000 : Int) ≤ a (Int.toNat (1 : Int)) ∧ a (Int.toNat (1 : Int)) ≤ (1000 : Int) ∧ (-1000 : Int) ≤ b (Int.toNat (1 : Int)) ∧ b (Int.toNat (1 : Int)) ≤ (1000 : Int) ∧ a (Int.toNat (1 : Int)) ≠ b (Int.toNat (1 : Int)), (-1000000 : Int) ≤ lo ∧ lo ≤ hi ∧ hi ≤ (1000000 : Int)] (Tree.branch (insB (-1000000 : Int) (stLo (a (Int.toNat (0 : Int))) (b (Int.toNat (0 : Int))) (a (Int.toNat (1 : Int))) (b (Int.toNat (1 : Int))) lo hi) (stHi (a (Int.toNat (0 : Int))) (b (Int.toNat (0 : Int))) (a (Int.toNat (1 : Int))) (b (Int.toNat (1 : Int))) lo hi) (1000000 : Int)) (Tree.branch (cvE (a (Int.toNat (0 : Int))) (b (Int.toNat (0 : Int))) (a (Int.toNat (1 : Int))) (b (Int.toNat (1 : Int))) lo hi == (0 : Int)) (Tree.branch (cvLo (a (Int.toNat (0 : Int))) (b (Int.toNat (0 : Int))) (a (Int.toNat (1 : Int))) (b (Int.toNat (1 : Int))) lo hi == stLo (a (Int.toNat (0 : Int))) (b (Int.toNat (0 : Int))) (a (Int.toNat (1 : Int))) (b (Int.toNat (1 : Int))) lo hi && (cvHi (a (Int.toNat (0 : Int))) (b (Int.toNat (0 : Int))) (a (Int.toNat (1 : Int))) (b (Int.toNat (1 : Int))) lo hi == stHi (a (Int.toNat (0 : Int))) (b (Int.toNat (0 : Int))) (a (Int.toNat (1 : Int))) (b (Int.toNat (1 : Int))) lo hi && true)) (Tree.leaf (RV.x (Value.bool true))) (Tree.leaf (RV.x (Value.bool false)))) (Tree.leaf (RV.x (Value.bool false)))) (Tree.branch (cvE (a (Int.toNat (0 : Int))) (b (Int.toNat (0 : Int))) (a (Int.toNat (1 : Int))) (b (Int.toNat (1 : Int))) lo hi == (10 : Int)) (Tree.branch (cvLo (a (Int.toNat (0 : Int))) (b (Int.toNat (0 : Int))) (a (Int.toNat (1 : Int))) (b (Int.toNat (1 : Int))) lo hi == (0 : Int) && (cvHi (a (Int.toNat (0 : Int))) (b (Int.toNat (0 : Int))) (a (Int.toNat (1 : Int))) (b (Int.toNat (1 : Int))) lo hi == (0 : Int) && true)) (Tree.leaf (RV.x (Value.bool true))) (Tree.leaf (RV.x (Value.bool false)))) (Tree.leaf (RV.x (Value.bool false))))))))))))))))))))))) (by kernel_rfl) ?_
  have c0 : col 0 (fun k => [i (a k), i (b k)]) = a := rfl
  have c1 : col 1 (fun k => [i (a k), i (b k)]) = b := rfl
  have z0 : Int.toNat 0 = 0 := rfl
  have z1 : Int.toNat 1 = 1 := rfl
  have z2 : Int.toNat 2 = 2 := rfl
  have r0 : ∀ m, isRec 2 m (fun k => [i (a k), i (b k)]) := fun m k _ => rfl
  by_cases h11 : (n : Int) > 11
  · simp [Tree.sat, fitP, valEq, h11]
  have hn : (n : Int) ≤ 11 := by omega
  have hn' : n ≤ 100000 := by omega
  simp only [Tree.sat, allP, fitP, valEq, true_and, and_true, c0, c1, z0, z1, z2, Nat.zero_add, Nat.sub_zero, r0]
  have g11 : decide ((n : Int) > 11) = false := by simpa using h11
  rw [g11]
  rcases th_cases n a b lo hi with ⟨q1, q2, q3, q4⟩ | ⟨q1, q2, q3, q4⟩ | ⟨q1, q0, q2, q3, q4⟩ | ⟨q1, q0, k1, k2, q2, q3, q4, q5⟩ | ⟨q1, q0, k1, k2, q2, q3, q4, q5⟩
  · have y1 : ¬ (n = 0) := by omega
    have y6 : 0 < n := by omega
    have y2 : ¬ ((n : Int) < 2) := by omega
    have y3 : (2 : Int) ≤ n := by omega
    have y4 : (1 : Int) < n := by omega
    have y5 : (0 : Int) < n := by omega
    rcases two_cases a b lo hi with ⟨p1, p2, p3, p4⟩ | ⟨p1, p2, p3, p4, p5, p6, p7, p8⟩ | ⟨p1, p2, p3, p4, p5, p6, p7, p8⟩
    · rcases p1 with p1 | p1 <;> simp [*]
    · have b1 := scB_bd p2; have b2 := scB_bd p3; have b3 := (insB_iff _ _ _ _).1 p4; simp [*]
    · have b1 := scB_bd p2; have b2 := scB_bd p3; have b3 := (insB_iff _ _ _ _).1 p4; simp [*]
  · subst q1
    rcases q2 with q2 | q2 <;> simp [*]
  · have y1 : ¬ (n = 0) := by omega
    have y6 : 0 < n := by omega
    rcases q2 with q2 | q2
    · by_cases n1 : n = 1
      · subst n1
        simp [*]
      have y2 : ¬ ((n : Int) < 2) := by omega
      have y3 : (2 : Int) ≤ n := by omega
      have y4 : (1 : Int) < n := by omega
      have y5 : (0 : Int) < n := by omega
      rcases two_cases a b lo hi with ⟨p1, p2, p3, p4⟩ | ⟨p1, p2, p3, p4, p5, p6, p7, p8⟩ | ⟨p1, p2, p3, p4, p5, p6, p7, p8⟩
      · rcases p1 with p1 | p1 <;> simp [*]
      · have b1 := scB_bd p2; have b2 := scB_bd p3; have b3 := (insB_iff _ _ _ _).1 p4; simp [*]
      · have b1 := scB_bd p2; have b2 := scB_bd p3; have b3 := (insB_iff _ _ _ _).1 p4; simp [*]
    · by_cases n1 : n = 1
      · subst n1
        simp [*]
      have y2 : ¬ ((n : Int) < 2) := by omega
      have y3 : (2 : Int) ≤ n := by omega
      have y4 : (1 : Int) < n := by omega
      have y5 : (0 : Int) < n := by omega
      rcases two_cases a b lo hi with ⟨p1, p2, p3, p4⟩ | ⟨p1, p2, p3, p4, p5, p6, p7, p8⟩ | ⟨p1, p2, p3, p4, p5, p6, p7, p8⟩
      · rcases p1 with p1 | p1 <;> simp [*]
      · have b1 := scB_bd p2; have b2 := scB_bd p3; have b3 := (insB_iff _ _ _ _).1 p4; simp [*]
      · have b1 := scB_bd p2; have b2 := scB_bd p3; have b3 := (insB_iff _ _ _ _).1 p4; simp [*]
  · have y1 : ¬ (n = 0) := by omega
    have y6 : 0 < n := by omega
    by_cases n1 : n = 1
    · subst n1
      simp [*]
    have y2 : ¬ ((n : Int) < 2) := by omega
    have y3 : (2 : Int) ≤ n := by omega
    have y4 : (1 : Int) < n := by omega
    have y5 : (0 : Int) < n := by omega
    rcases two_cases a b lo hi with ⟨p1, p2, p3, p4⟩ | ⟨p1, p2, p3, p4, p5, p6, p7, p8⟩ | ⟨p1, p2, p3, p4, p5, p6, p7, p8⟩
    · rcases p1 with p1 | p1 <;> simp [*]
    · have b1 := scB_bd p2; have b2 := scB_bd p3; have b3 := (insB_iff _ _ _ _).1 p4; simp [*]
    · have b1 := scB_bd p2; have b2 := scB_bd p3; have b3 := (insB_iff _ _ _ _).1 p4; simp [*]
  · have y1 : ¬ (n = 0) := by omega
    have y6 : 0 < n := by omega
    by_cases n1 : n = 1
    · subst n1
      simp [*]
    have y2 : ¬ ((n : Int) < 2) := by omega
    have y3 : (2 : Int) ≤ n := by omega
    have y4 : (1 : Int) < n := by omega
    have y5 : (0 : Int) < n := by omega
    rcases two_cases a b lo hi with ⟨p1, p2, p3, p4⟩ | ⟨p1, p2, p3, p4, p5, p6, p7, p8⟩ | ⟨p1, p2, p3, p4, p5, p6, p7, p8⟩
    · rcases p1 with p1 | p1 <;> simp [*]
    · have b1 := scB_bd p2; have b2 := scB_bd p3; have b3 := (insB_iff _ _ _ _).1 p4; simp [*]
    · have b1 := scB_bd p2; have b2 := scB_bd p3; have b3 := (insB_iff _ _ _ _).1 p4; simp [*]

end Go.Proofs.Ytchcegfhamngkaa
/- Contracts of functions of the program, by the engine Sx: what each call comes to. Printed by a program of this repo (sxgen.py). -/
set_option linter.unusedSimpArgs false
set_option linter.unusedVariables false
namespace Go.Proofs.Ytchcegfhamngkaa
open Go Go.Sx Go.RowKit

theorem catF_l {n k : Nat} {f g : Nat → List AV} {x y : Int} (h : k < n) (hf : f k = [iI x, iI y]) (hg : g 0 = [] ∨ ∃ u v, g 0 = [iI u, iI v]) : catF n f g k = [iI x, iI y] := by
  unfold catF
  rw [show decide (k < n) = true by simp [h], show k - n = 0 by omega, hf]
  rcases hg with hg | ⟨u, v, hg⟩ <;> rw [hg] <;> rfl
theorem catF_r {n k : Nat} {f g : Nat → List AV} {x y : Int} (h : ¬ k < n) (hf : f k = [] ∨ ∃ u v, f k = [iI u, iI v]) (hg : g (k - n) = [iI x, iI y]) : catF n f g k = [iI x, iI y] := by
  unfold catF
  rw [show decide (k < n) = false by simp; omega, hg]
  rcases hf with hf | ⟨u, v, hf⟩ <;> rw [hf] <;> rfl
theorem chunk_out {l : List AV} {k : Nat} (h : 0 < k) (hl : l.length = 2) : chunk 2 l k = [] := by
  unfold chunk
  rw [List.drop_of_length_le (by omega)]
  rfl
theorem chunk_or (x y : Int) (k : Nat) : chunk 2 [iI x, iI y] k = [] ∨ ∃ u v, chunk 2 [iI x, iI y] k = [iI u, iI v] := by
  by_cases h : k = 0
  · subst h; exact .inr ⟨x, y, rfl⟩
  · exact .inl (chunk_out (by omega) rfl)
/-- One number, some, and one. -/
def thA (a : Int) (n : Nat) (p : Nat → Int) (c : Int) (k : Nat) : Int := if k = 0 then a else if k ≤ n then p (k - 1) else c
theorem catAll (a b c d : Int) (n : Nat) (p q : Nat → Int) {k : Nat} (hk : k < 1 + n + 1) : catF (1 + n) (catF 1 (chunk 2 [iI a, iI b]) (fun k => [iI (p k), iI (q k)])) (chunk 2 [iI c, iI d]) k = [iI (thA a n p c k), iI (thA b n q d k)] := by
  unfold thA
  by_cases h0 : k = 0
  · subst h0
    exact catF_l (by omega) (catF_l (by omega) rfl (.inr ⟨_, _, rfl⟩)) (.inr ⟨c, d, rfl⟩)
  by_cases hn : k ≤ n
  · rw [if_neg h0, if_neg h0, if_pos hn, if_pos hn]
    exact catF_l (by omega) (catF_r (by omega) (chunk_or _ _ _) rfl) (.inr ⟨c, d, rfl⟩)
  · rw [if_neg h0, if_neg h0, if_neg hn, if_neg hn]
    refine catF_r (by omega) (.inr ?_) ?_
    · exact ⟨_, _, catF_r (by omega) (chunk_or _ _ _) rfl⟩
    · rw [show k - (1 + n) = 0 by omega]; rfl
theorem thr_bd {a b : Nat → Int} : ∀ (m k : Nat) (lo hi L H : Int), thr a b m k lo hi = some (L, H) → -1000000 ≤ L ∧ H ≤ 1000000
  | 0, k, lo, hi, L, H, h => by
    unfold thr at h
    split at h
    · rename_i hi1
      have := (insB_iff _ _ _ _).1 hi1
      cases h; omega
    · cases h
  | m + 1, k, lo, hi, L, H, h => by
    rw [thr] at h
    split at h
    · exact thr_bd m (k + 1) _ _ L H h
    · cases h
theorem one_ok {a b lo hi : Int} (A B : Nat → Int) (hA : A 0 = a) (hB : B 0 = b) (h : scB a b = true) (r : insB (-1000000) lo hi 1000000 = true) : thE 1 A B lo hi = 0 ∧ thR 1 A B lo hi = some (lo, hi) := by
  have hS : allS 1 A B = true := by simp [allS, allI, hA, hB, h]
  have ht : thr A B 0 0 lo hi = some (lo, hi) := by simp [thr, r]
  have e : thE 1 A B lo hi = 0 := by simp [thE, hS, r, ht]
  exact ⟨e, by simp [thR, e, ht]⟩

set_option maxRecDepth 100000 in
theorem PointThrough_at (a b c d : Int) (n : Nat) (p q : Nat → Int) (lo hi : Int) : SoundAt Try.prog 8 [.agg [i a, i b], .agg [i c, i d], scs n p q, .agg [i lo, i hi]] (bl true) := by
  refine soundAt_fin (G := [(37, S_ready), (23, S_lScale), (17, S_Through), (19, S_lto), (22, S_Convert), (18, S_lScales), (16, S_wakes)]) (L := []) (SoundG.cons ready_ok (SoundG.cons lScale_ok (SoundG.cons Through_ok (SoundG.cons lto_ok (SoundG.cons Convert_ok (SoundG.cons lScales_ok (SoundG.cons wakes_ok (SoundG.nil _)))))))) mixed Try.func8 (show Try.f8.body = some (bodyOf Try.f8) by kernel_rfl) noLoops (t := (Tree.branch (decide ((↑n : Int) > (6 : Int))) (Tree.leaf (RV.x (Value.bool true))) (Tree.need [(1 + n) * 16 ≤ 140737488355328, ∀ (i : Nat), i < n → ∀ (a : AV), a ∈ [Ytchcegfhamngkaa.i (p i), Ytchcegfhamngkaa.i (q i)] → AV.one a = true] (Tree.need [(1 + n + 1) * 16 ≤ 140737488355328, ∀ (i : Nat), i < 1 → ∀ (a : AV), a ∈ chunk 2 [iI c, iI d] i → AV.one a = true] (Tree.need [isRec 2 (1 + n + 1) (catF (1 + n) (catF 1 (chunk 2 [iI a, iI b]) fun k => [i (p k), i (q k)]) (chunk 2 [iI c, iI d])), 1 + n + 1 ≤ 100000] (Tree.branch (!(decide (sdE (1 + n + 1) (col 0 (catF (1 + n) (catF 1 (chunk 2 [iI a, iI b]) fun k => [i (p k), i (q k)]) (chunk 2 [iI c, iI d]))) (col 1 (catF (1 + n) (catF 1 (chunk 2 [iI a, iI b]) fun k => [i (p k), i (q k)]) (chunk 2 [iI c, iI d]))) lo hi = (0 : Int)) && (decide ((-400 : Int) ≤ lo) && decide (hi ≤ (400 : Int))))) (Tree.leaf (RV.x (Value.bool true))) (Tree.need [isRec 2 1 (chunk 2 [iI a, iI b])] (Tree.need [isRec 2 (1 + n + 1) (catF (1 + n) (catF 1 (chunk 2 [iI a, iI b]) fun k => [i (p k), i (q k)]) (chunk 2 [iI c, iI d])), 1 + n + 1 ≤ 100000] (Tree.need [isRec 2 (1 + n + 1) fun k => [i (col 0 (catF (1 + n) (catF 1 (chunk 2 [iI a, iI b]) fun k => [i (p k), i (q k)]) (chunk 2 [iI c, iI d])) k), i (col 1 (catF (1 + n) (catF 1 (chunk 2 [iI a, iI b]) fun k => [i (p k), i (q k)]) (chunk 2 [iI c, iI d])) k)]] (Tree.branch (thE 1 (col 0 (chunk 2 [iI a, iI b])) (col 1 (chunk 2 [iI a, iI b])) lo hi != (0 : Int)) (Tree.leaf (RV.x (Value.bool false))) (Tree.branch (!((match thR 1 (col 0 (chunk 2 [iI a, iI b])) (col 1 (chunk 2 [iI a, iI b])) lo hi with | some p => Prod.fst p | none => (0 : Int)) == lo && ((match thR 1 (col 0 (chunk 2 [iI a, iI b])) (col 1 (chunk 2 [iI a, iI b])) lo hi with | some p => Prod.snd p | none => (0 : Int)) == hi && true))) (Tree.leaf (RV.x (Value.bool false))) (Tree.branch (thE (1 + n + 1) (col 0 (catF (1 + n) (catF 1 (chunk 2 [iI a, iI b]) fun k => [i (p k), i (q k)]) (chunk 2 [iI c, iI d]))) (col 1 (catF (1 + n) (catF 1 (chunk 2 [iI a, iI b]) fun k => [i (p k), i (q k)]) (chunk 2 [iI c, iI d]))) lo hi != (0 : Int)) (Tree.branch (thE (1 + n + 1) (col 0 (catF (1 + n) (catF 1 (chunk 2 [iI a, iI b]) fun k => [i (p k), i (q k)]) (chunk 2 [iI c, iI d]))) (col 1 (catF (1 + n) (catF 1 (chunk 2 [iI a, iI b]) fun k => [i (p k), i (q k)]) (chunk 2 [iI c, iI d]))) lo hi != (10 : Int)) (Tree.leaf (RV.x (Value.bool false))) (Tree.branch (cvE a b c d lo hi != (0 : Int)) (Tree.branch (cvE a b c d lo hi == (10 : Int)) (Tree.branch (thE (1 + n + 1) (col 0 (catF (1 + n) (catF 1 (chunk 2 [iI a, iI b]) fun k => [i (p k), i (q k)]) (chunk 2 [iI c, iI d]))) (col 1 (catF (1 + n) (catF 1 (chunk 2 [iI a, iI b]) fun k => [i (p k), i (q k)]) (chunk 2 [iI c, iI d]))) lo hi == (10 : Int)) (Tree.leaf (RV.x (Value.bool true))) (Tree.leaf (RV.x (Value.bool false)))) (Tree.leaf (RV.x (Value.bool false)))) (Tree.branch (thE (1 + n + 1) (col 0 (catF (1 + n) (catF 1 (chunk 2 [iI a, iI b]) fun k => [i (p k), i (q k)]) (chunk 2 [iI c, iI d]))) (col 1 (catF (1 + n) (catF 1 (chunk 2 [iI a, iI b]) fun k => [i (p k), i (q k)]) (chunk 2 [iI c, iI d]))) lo hi == (10 : Int)) (Tree.leaf (RV.x (Value.bool true))) (Tree.branch (decide ((match thR (1 + n + 1) (col 0 (catF (1 + n) (catF 1 (chunk 2 [iI a, iI b]) fun k => [i (p k), i (q k)]) (chunk 2 [iI c, iI d]))) (col 1 (catF (1 + n) (catF 1 (chunk 2 [iI a, iI b]) fun k => [i (p k), i (q k)]) (chunk 2 [iI c, iI d]))) lo hi with | some p => Prod.fst p | none => (0 : Int)) ≤ cvLo a b c d lo hi)) (Tree.branch (decide ((match thR (1 + n + 1) (col 0 (catF (1 + n) (catF 1 (chunk 2 [iI a, iI b]) fun k => [i (p k), i (q k)]) (chunk 2 [iI c, iI d]))) (col 1 (catF (1 + n) (catF 1 (chunk 2 [iI a, iI b]) fun k => [i (p k), i (q k)]) (chunk 2 [iI c, iI d]))) lo hi with | some p => Prod.snd p | none => (0 : Int)) ≥ cvHi a b c d lo hi)) (Tree.leaf (RV.x (Value.bool true))) (Tree.leaf (RV.x (Value.bool false)))) (Tree.leaf (RV.x (Value.bool false))))))) (Tree.branch (cvE a b c d lo hi != (0 : Int)) (Tree.branch (cvE a b c d lo hi == (10 : Int)) (Tree.branch (thE (1 + n + 1) (col 0 (catF (1 + n) (catF 1 (chunk 2 [iI a, iI b]) fun k => [i (p k), i (q k)]) (chunk 2 [iI c, iI d]))) (col 1 (catF (1 + n) (catF 1 (chunk 2 [iI a, iI b]) fun k => [i (p k), i (q k)]) (chunk 2 [iI c, iI d]))) lo hi == (10 : Int)) (Tree.leaf (RV.x (Value.bool true))) (Tree.leaf (RV.x (Value.bool false)))) (Tree.leaf (RV.x (Value.bool false)))) (Tree.branch (thE (1 + n + 1) (col 0 (catF (1 + n) (catF 1 (chunk 2 [iI a, iI b]) fun k => [i (p k), i (q k)]) (chunk 2 [iI c, iI d]))) (col 1 (catF (1 + n) (catF 1 (chunk 2 [iI a, iI b]) fun k => [i (p k), i (q k)]) (chunk 2 [iI c, iI d]))) lo hi == (10 : Int)) (Tree.leaf (RV.x (Value.bool true))) (Tree.branch (decide ((match thR (1 + n + 1) (col 0 (catF (1 + n) (catF 1 (chunk 2 [iI a, iI b]) fun k => [i (p k), i (q k)]) (chunk 2 [iI c, iI d]))) (col 1 (catF (1 + n) (catF 1 (chunk 2 [iI a, iI b]) fun k => [i (p k), i (q k)]) (chunk 2 [iI c, iI d]))) lo hi with | some p => Prod.fst p | none => (0 : Int)) ≤ cvLo a b c d lo hi)) (Tree.branch (decide ((match thR (1 + n + 1) (col 0 (catF (1 + n) (catF 1 (chunk 2 [iI a, iI b]) fun k => [i (p k), i (q k)]) (chunk 2 [iI c, iI d]))) (col 1 (catF (1 + n) (catF 1 (chunk 2 [iI a, iI b]) fun k => [i (p k), i (q k)]) (chunk 2 [iI c, iI d]))) lo hi with | some p => Prod.snd p | none => (0 : Int)) ≥ cvHi a b c d lo hi)) (Tree.leaf (RV.x (Value.bool true))) (Tree.leaf (RV.x (Value.bool false)))) (Tree.leaf (RV.x (Value.bool false)))))))))))))))))) (by kernel_rfl) ?_
  by_cases h6 : (n : Int) > 6
  · simp [Tree.sat, fitP, valEq, h6]
  have hn : n ≤ 6 := by omega
  have g6 : decide ((n : Int) > 6) = false := by simpa using h6
  have F1 : ∀ k, k < 1 + n + 1 → catF (1 + n) (catF 1 (chunk 2 [iI a, iI b]) (fun k => [i (p k), i (q k)])) (chunk 2 [iI c, iI d]) k = [iI (thA a n p c k), iI (thA b n q d k)] := fun k hk => catAll a b c d n p q hk
  have C0 : col 0 (chunk 2 [iI a, iI b]) 0 = a := rfl
  have C1 : col 1 (chunk 2 [iI a, iI b]) 0 = b := rfl
  have C2 : isRec 2 1 (chunk 2 [iI a, iI b]) := isRec_c1 a b
  have C3 : ∀ k, k < 1 → ∀ x, x ∈ chunk 2 [iI c, iI d] k → AV.one x = true := by
    intro k hk x hx
    obtain rfl : k = 0 := by omega
    rcases (show x = iI c ∨ x = iI d by simpa [chunk] using hx) with rfl | rfl <;> rfl
  have C4 : ∀ (k : Nat), k < n → ∀ x, x ∈ [i (p k), i (q k)] → AV.one x = true := by
    intro k hk x hx
    rcases (show x = i (p k) ∨ x = i (q k) by simpa using hx) with rfl | rfl <;> rfl
  generalize catF (1 + n) (catF 1 (chunk 2 [iI a, iI b]) (fun k => [i (p k), i (q k)])) (chunk 2 [iI c, iI d]) = F at *
  generalize chunk 2 [iI a, iI b] = C at *
  generalize chunk 2 [iI c, iI d] = D at *
  have hF : isRec 2 (1 + n + 1) F := fun k hk => by rw [F1 k hk]; rfl
  have A1 : ∀ k, k < 1 + n + 1 → col 0 F k = thA a n p c k := fun k hk => by unfold col; rw [F1 k hk]; rfl
  have B1 : ∀ k, k < 1 + n + 1 → col 1 F k = thA b n q d k := fun k hk => by unfold col; rw [F1 k hk]; rfl
  have c0 : (col 0 fun k => [i (col 0 F k), i (col 1 F k)]) = col 0 F := rfl
  have c1 : (col 1 fun k => [i (col 0 F k), i (col 1 F k)]) = col 1 F := rfl
  have hG : isRec 2 (1 + n + 1) (fun k => [i (col 0 F k), i (col 1 F k)]) := fun _ _ => rfl
  simp only [Tree.sat, allP, fitP, valEq, true_and, and_true, c0, c1, g6]
  have a0 := A1 0 (by omega)
  have b0 := B1 0 (by omega)
  have an := A1 (n + 1) (by omega)
  have bn := B1 (n + 1) (by omega)
  simp only [thA, if_true, if_neg (show ¬ n + 1 = 0 by omega), if_neg (show ¬ n + 1 ≤ n by omega)] at a0 b0 an bn
  generalize col 0 F = A at *
  generalize col 1 F = B at *
  refine ⟨fun h => absurd h (by decide), fun _ => ⟨⟨by omega, C4⟩, ⟨by omega, C3⟩, ⟨hF, by omega⟩, ?_⟩⟩
  cases hR : (decide (sdE (1 + n + 1) A B lo hi = 0) && (decide (-400 ≤ lo) && decide (hi ≤ 400)))
  · simp
  simp only [Bool.and_eq_true, decide_eq_true_eq] at hR
  obtain ⟨s0, r1, r2⟩ := hR
  rcases th_cases (1 + n + 1) A B lo hi with ⟨q1, q2, q3, q4⟩ | ⟨q1, q2, q3, q4⟩ | ⟨q1, q0, q2, q3, q4⟩ | ⟨q1, q0, k1, k2, q2, q3, q4, q5⟩ | ⟨q1, q0, k1, k2, q2, q3, q4, q5⟩
  · omega
  · omega
  · omega
  · have hS := allI_iff.1 k1
    have v1 := hS 0 (by omega)
    have v2 := hS (n + 1) (by omega)
    simp only [a0, b0, an, bn] at v1 v2
    obtain ⟨o1, o2⟩ := one_ok (col 0 C) (col 1 C) C0 C1 v1 k2
    have r := (insB_iff _ _ _ _).1 k2
    rcases cv_cases v1 v2 r with ⟨e1, e2, e3, _⟩ | ⟨e1, e2, e3, e4, e5, e6⟩
    · simp [hF, hG, C2, o1, o2, q3, q4, e1, e2, e3]; omega
    · simp [hF, hG, C2, o1, o2, q3, q4, e1, e2, e3]; omega
  · have hS := allI_iff.1 k1
    have v1 := hS 0 (by omega)
    have v2 := hS (n + 1) (by omega)
    simp only [a0, b0, an, bn] at v1 v2
    obtain ⟨o1, o2⟩ := one_ok (col 0 C) (col 1 C) C0 C1 v1 k2
    have r := (insB_iff _ _ _ _).1 k2
    have ht : thr A B (n + 1) 0 lo hi = some (rth A B (1 + n + 1 - 1) 0 lo hi).2 := by
      have := q4
      unfold thR at this
      rw [if_pos q3, show 1 + n + 1 - 1 = n + 1 by omega] at this
      rw [show 1 + n + 1 - 1 = n + 1 by omega]
      exact this
    generalize (rth A B (1 + n + 1 - 1) 0 lo hi).2 = LH at *
    obtain ⟨L, H⟩ := LH
    have w := thr_wide (a := A) (b := B) (m := n) (fun j hj => hS j (by omega)) r ht
    rw [a0, b0, an, bn] at w
    have hb : -1000000 ≤ L ∧ H ≤ 1000000 := thr_bd (n + 1) 0 lo hi _ _ ht
    rcases cv_cases v1 v2 r with ⟨e1, e2, e3, e4⟩ | ⟨e1, e2, e3, e4, e5, e6⟩
    · exact absurd ⟨by omega, by omega⟩ e4
    · simp [hF, hG, C2, o1, o2, q3, q4, e1, e2, e3, w.1, w.2]; omega

end Go.Proofs.Ytchcegfhamngkaa
/- Contracts of functions of the program, by the engine Sx: what each call comes to. Printed by a program of this repo (sxgen.py). -/
set_option linter.unusedSimpArgs false
set_option linter.unusedVariables false
namespace Go.Proofs.Ytchcegfhamngkaa
open Go Go.Sx Go.RowKit

theorem tabled_facts {n : Nat} {p q : Nat → Int} {u v : Int} (h : (decide (n ≤ 8) && (itB n p q && insB (p 0) u v (p (n - 1)))) = true) : n ≤ 8 ∧ 2 ≤ n ∧ itB n p q = true ∧ tabB n p q = true ∧ tbE n p q = 0 ∧ (p 0 ≤ u ∧ u ≤ v ∧ v ≤ p (n - 1)) := by
  simp only [Bool.and_eq_true, decide_eq_true_eq] at h
  obtain ⟨h1, h2, h3⟩ := h
  have h4 : tabB n p q = true ∧ 2 ≤ n := by simpa [itB] using h2
  exact ⟨h1, h4.2, h2, h4.1, by simp [tbE, h4.1]; omega, (insB_iff _ _ _ _).1 h3⟩
theorem bl_ok {n : Nat} {p q : Nat → Int} {u v : Int} (h0 : tbE n p q = 0) (hr : p 0 ≤ u ∧ u ≤ v ∧ v ≤ p (n - 1)) : blE n p q u v = 0 ∧ blLo n p q u v = boilI n p q u ∧ blHi n p q u v = boilI n p q v := by
  have e : blE n p q u v = 0 := by simp [blE, h0, (insB_iff _ _ _ _).2 hr]
  exact ⟨e, by simp [blLo, e], by simp [blHi, e]⟩
theorem co_ok {n : Nat} {p q : Nat → Int} {a b u v lo hi : Int} (h0 : tbE n p q = 0) (hs : scB a b = true) (hr : p 0 ≤ u ∧ u ≤ v ∧ v ≤ p (n - 1)) (h : -1000000 ≤ lo ∧ lo ≤ hi ∧ hi ≤ 1000000) :
    coE n p q a b u v lo hi = 0 ∧ coLo n p q a b u v lo hi = crLo a b (boilI n p q u) (boilI n p q v) lo hi ∧ coHi n p q a b u v lo hi = crHi a b (boilI n p q u) (boilI n p q v) lo hi := by
  have e : coE n p q a b u v lo hi = 0 := by simp [coE, h0, hs, (insB_iff _ _ _ _).2 h, (bl_ok h0 hr).1]
  exact ⟨e, by simp [coLo, e], by simp [coHi, e]⟩

set_option maxRecDepth 100000 in
theorem PointWider_at (a b c d : Int) (n : Nat) (p q : Nat → Int) (u v lo hi t : Int) (pre0 : 0 ≤ t ∧ t ≤ 255) : SoundAt Try.prog 9 [.agg [i a, i b], .agg [i c, i d], scs n p q, .agg [i u, i v], .agg [i lo, i hi], .x (.int .u8 t)] (bl true) := by
  refine soundAt_fin (G := [(37, S_ready), (39, S_tabled), (23, S_lScale), (19, S_lto), (22, S_Convert), (27, S_lTable), (28, S_Corrected), (26, S_Boils), (35, S_between), (36, S_pHeights), (16, S_wakes)]) (L := []) (SoundG.cons ready_ok (SoundG.cons tabled_ok (SoundG.cons lScale_ok (SoundG.cons lto_ok (SoundG.cons Convert_ok (SoundG.cons lTable_ok (SoundG.cons Corrected_ok (SoundG.cons Boils_ok (SoundG.cons between_ok (SoundG.cons pHeights_ok (SoundG.cons wakes_ok (SoundG.nil _)))))))))))) mixed Try.func9 (show Try.f9.body = some (bodyOf Try.f9) by kernel_rfl) noLoops (t := (Tree.need [isRec 2 2 (chunk 2 [iI a, iI b, iI c, iI d]), 2 ≤ 100000] (Tree.branch (!(decide (sdE 2 (col 0 (chunk 2 [iI a, iI b, iI c, iI d])) (col 1 (chunk 2 [iI a, iI b, iI c, iI d])) lo hi = (0 : Int)) && (decide ((-400 : Int) ≤ lo) && decide (hi ≤ (400 : Int))))) (Tree.leaf (RV.x (Value.bool true))) (Tree.need [isRec 2 n fun k => [i (p k), i (q k)]] (Tree.branch (!(decide (n ≤ 8) && (itB n p q && insB (p 0) u v (p (n - 1))))) (Tree.leaf (RV.x (Value.bool true))) (Tree.need [inI64 t] (Tree.need [(4 : Int) ≠ (0 : Int)] (Tree.need [inI64 (lo - Int.tmod t (4 : Int))] (Tree.need [inI64 t] (Tree.need [(4 : Int) ≠ (0 : Int), inI64 (Int.tdiv t (4 : Int))] (Tree.need [(4 : Int) ≠ (0 : Int)] (Tree.need [inI64 (hi + Int.tmod (Int.tdiv t (4 : Int)) (4 : Int))] (Tree.need [(0 : Int) ≤ (0 : Int) ∧ (0 : Int) < (↑n : Int)] (Tree.need [inI64 t] (Tree.need [(16 : Int) ≠ (0 : Int), inI64 (Int.tdiv t (16 : Int))] (Tree.need [inI64 (u - Int.tdiv t (16 : Int))] (Tree.need [inI64 ((↑n : Int) - (1 : Int))] (Tree.need [(0 : Int) ≤ (↑n : Int) - (1 : Int) ∧ (↑n : Int) - (1 : Int) < (↑n : Int)] (Tree.need [inI64 t] (Tree.need [(8 : Int) ≠ (0 : Int), inI64 (Int.tdiv t (8 : Int))] (Tree.need [inI64 (v + Int.tdiv t (8 : Int))] (Tree.need [isRec 2 n fun k => [i (p k), i (q k)], n ≤ 100000] (Tree.need [isRec 2 n fun k => [i (p k), i (q k)], n ≤ 100000] (Tree.need [isRec 2 n fun k => [i (p k), i (q k)], n ≤ 100000] (Tree.need [isRec 2 n fun k => [i (p k), i (q k)], n ≤ 100000] (Tree.branch (coE n p q a b u v lo hi != (0 : Int)) (Tree.leaf (RV.x (Value.bool false))) (Tree.branch (coE n p q a b (max (p (Int.toNat (0 : Int))) (u - Int.tdiv t (16 : Int))) (min (p (Int.toNat ((↑n : Int) - (1 : Int)))) (v + Int.tdiv t (8 : Int))) (lo - Int.tmod t (4 : Int)) (hi + Int.tmod (Int.tdiv t (4 : Int)) (4 : Int)) != (0 : Int)) (Tree.leaf (RV.x (Value.bool false))) (Tree.branch (decide (coLo n p q a b (max (p (Int.toNat (0 : Int))) (u - Int.tdiv t (16 : Int))) (min (p (Int.toNat ((↑n : Int) - (1 : Int)))) (v + Int.tdiv t (8 : Int))) (lo - Int.tmod t (4 : Int)) (hi + Int.tmod (Int.tdiv t (4 : Int)) (4 : Int)) > coLo n p q a b u v lo hi)) (Tree.leaf (RV.x (Value.bool false))) (Tree.branch (decide (coHi n p q a b (max (p (Int.toNat (0 : Int))) (u - Int.tdiv t (16 : Int))) (min (p (Int.toNat ((↑n : Int) - (1 : Int)))) (v + Int.tdiv t (8 : Int))) (lo - Int.tmod t (4 : Int)) (hi + Int.tmod (Int.tdiv t (4 : Int)) (4 : Int)) < coHi n p q a b u v lo hi)) (Tree.leaf (RV.x (Value.bool false))) (Tree.branch (cvE a b c d (lo - Int.tmod t (4 : Int)) (hi + Int.tmod (Int.tdiv t (4 : Int)) (4 : Int)) != (0 : Int)) (Tree.branch (cvE a b c d (lo - Int.tmod t (4 : Int)) (hi + Int.tmod (Int.tdiv t (4 : Int)) (4 : Int)) == (10 : Int)) (Tree.branch (cvE a b c d lo hi == (0 : Int)) (Tree.leaf (RV.x (Value.bool true))) (Tree.branch (cvE a b c d lo hi == (10 : Int)) (Tree.leaf (RV.x (Value.bool true))) (Tree.leaf (RV.x (Value.bool false))))) (Tree.leaf (RV.x (Value.bool false)))) (Tree.branch (cvE a b c d lo hi == (0 : Int)) (Tree.branch (decide (cvLo a b c d (lo - Int.tmod t (4 : Int)) (hi + Int.tmod (Int.tdiv t (4 : Int)) (4 : Int)) ≤ cvLo a b c d lo hi)) (Tree.branch (decide (cvHi a b c d (lo - Int.tmod t (4 : Int)) (hi + Int.tmod (Int.tdiv t (4 : Int)) (4 : Int)) ≥ cvHi a b c d lo hi)) (Tree.leaf (RV.x (Value.bool true))) (Tree.leaf (RV.x (Value.bool false)))) (Tree.leaf (RV.x (Value.bool false)))) (Tree.leaf (RV.x (Value.bool false)))))))))))))))))))))))))))))))))) (by kernel_rfl) ?_
  have c0 : (col 0 fun k => [i (p k), i (q k)]) = p := rfl
  have c1 : (col 1 fun k => [i (p k), i (q k)]) = q := rfl
  have r0 : isRec 2 n (fun k => [i (p k), i (q k)]) := fun _ _ => rfl
  have hr : isRec 2 2 (chunk 2 [iI a, iI b, iI c, iI d]) := isRec_c2 a b c d
  simp only [Tree.sat, allP, fitP, valEq, true_and, and_true, c0, c1]
  refine ⟨⟨hr, by omega⟩, fun _ => trivial, fun h0 => ?_⟩
  have h0' := ready_two (p := col 0 (chunk 2 [iI a, iI b, iI c, iI d])) (q := col 1 (chunk 2 [iI a, iI b, iI c, iI d])) (lo := lo) (hi := hi) (by simpa using h0)
  obtain ⟨v1, v2, r1, r2, r3⟩ := h0'
  replace v1 : scB a b = true := v1
  replace v2 : scB c d = true := v2
  clear h0 hr
  have s1 := scB_bd v1
  have s2 := scB_bd v2
  refine ⟨r0, fun _ => trivial, fun h0 => ?_⟩
  obtain ⟨t1, t2, t3, t4, t5, t6⟩ := tabled_facts (by simpa using h0)
  clear h0
  have pre1 : n ≤ 100000 := by omega
  have m4 : Int.tmod t 4 = t % 4 := Int.tmod_eq_emod_of_nonneg pre0.1
  have d4 : Int.tdiv t 4 = t / 4 := Int.tdiv_eq_ediv_of_nonneg pre0.1
  have d16 : Int.tdiv t 16 = t / 16 := Int.tdiv_eq_ediv_of_nonneg pre0.1
  have d8 : Int.tdiv t 8 = t / 8 := Int.tdiv_eq_ediv_of_nonneg pre0.1
  have m44 : Int.tmod (t / 4) 4 = t / 4 % 4 := Int.tmod_eq_emod_of_nonneg (by omega)
  rw [m4, d4, d16, d8, m44]
  have e1 : Int.toNat 0 = 0 := rfl
  have e2 : Int.toNat ((n : Int) - 1) = n - 1 := by omega
  rw [e1, e2]
  have x1 : 0 ≤ t % 4 ∧ t % 4 ≤ 3 := by omega
  have x2 : 0 ≤ t / 4 % 4 ∧ t / 4 % 4 ≤ 3 := by omega
  have x3 : 0 ≤ t / 16 ∧ t / 16 ≤ 15 := by omega
  have x4 : 0 ≤ t / 8 ∧ t / 8 ≤ 31 := by omega
  have x5 : 0 ≤ t / 4 ∧ t / 4 ≤ 63 := by omega
  have iT : inI64 t := by unfold inI64; omega
  clear m4 d4 d16 d8 m44
  generalize t % 4 = y1 at *
  generalize t / 4 % 4 = y2 at *
  generalize t / 16 = y3 at *
  generalize t / 8 = y4 at *
  generalize t / 4 = y5 at *
  have b0 := tab_step t4 (show 0 < n by omega)
  have b1 := tab_step t4 (show n - 1 < n by omega)
  obtain ⟨f1, f2, f3⟩ := co_ok t5 v1 t6 (show -1000000 ≤ lo ∧ lo ≤ hi ∧ hi ≤ 1000000 by omega)
  have hf : p 0 ≤ max (p 0) (u - y3) ∧ max (p 0) (u - y3) ≤ min (p (n - 1)) (v + y4) ∧ min (p (n - 1)) (v + y4) ≤ p (n - 1) := by omega
  obtain ⟨g1, g2, g3⟩ := co_ok t5 v1 hf (show -1000000 ≤ lo - y1 ∧ lo - y1 ≤ hi + y2 ∧ hi + y2 ≤ 1000000 by omega)
  have z0 := boil_spec t2 t4 (x := max (p 0) (u - y3)) (by omega)
  have z1 := boil_mono t2 t4 (x := max (p 0) (u - y3)) (y := u) (by omega) (by omega) (by omega)
  have z2 := boil_mono t2 t4 (x := u) (y := v) (by omega) (by omega) (by omega)
  have z3 := boil_mono t2 t4 (x := v) (y := min (p (n - 1)) (v + y4)) (by omega) (by omega) (by omega)
  have w := cr_mono (lo := lo) (hi := hi) (lo' := lo - y1) (hi' := hi + y2) s1.2.2.2.2 ⟨show 0 ≤ _ by omega, z1, z2, z3⟩ (by omega)
  have w2 := st_mono s1 s2 (lo := lo) (hi := hi) (lo' := lo - y1) (hi' := hi + y2) (by omega) (by omega)
  have h4 : (4 : Int) ≠ 0 := by decide
  have i1 : inI64 (lo - y1) := by unfold inI64; omega
  have i2 : inI64 (hi + y2) := by unfold inI64; omega
  have i3 : inI64 (u - y3) := by unfold inI64; omega
  have i4 : inI64 (v + y4) := by unfold inI64; omega
  have i5 : inI64 y3 := by unfold inI64; omega
  have i6 : inI64 y4 := by unfold inI64; omega
  have i7 : inI64 y5 := by unfold inI64; omega
  have i8 : inI64 ((n : Int) - 1) := by unfold inI64; omega
  have j1 : (0 : Int) ≤ (n : Int) - 1 := by omega
  have j2 : (0 : Int) < (n : Int) := by omega
  have j3 : (n : Int) - 1 < (n : Int) := by omega
  have j4 : ¬ coLo n p q a b (max (p 0) (u - y3)) (min (p (n - 1)) (v + y4)) (lo - y1) (hi + y2) > coLo n p q a b u v lo hi := by rw [f2, g2]; omega
  have j5 : ¬ coHi n p q a b (max (p 0) (u - y3)) (min (p (n - 1)) (v + y4)) (lo - y1) (hi + y2) < coHi n p q a b u v lo hi := by rw [f3, g3]; omega
  have k1 : decide (coLo n p q a b (max (p 0) (u - y3)) (min (p (n - 1)) (v + y4)) (lo - y1) (hi + y2) > coLo n p q a b u v lo hi) = false := decide_eq_false j4
  have k2 : decide (coHi n p q a b (max (p 0) (u - y3)) (min (p (n - 1)) (v + y4)) (lo - y1) (hi + y2) < coHi n p q a b u v lo hi) = false := decide_eq_false j5
  rw [k1, k2, f1, g1]
  have hR : -1000000 ≤ lo - y1 ∧ lo - y1 ≤ hi + y2 ∧ hi + y2 ≤ 1000000 := by omega
  clear f1 f2 f3 g1 g2 g3 z0 z1 z2 z3 w j4 j5 k1 k2 hf b0 b1 x1 x2 x3 x4 x5
  rcases cv_cases v1 v2 (show -1000000 ≤ lo ∧ lo ≤ hi ∧ hi ≤ 1000000 by omega) with ⟨e1, e2, e3, e4⟩ | ⟨e1, e2, e3, e4, e5, e6⟩ <;> rcases cv_cases v1 v2 hR with ⟨k1, k2, k3, k4⟩ | ⟨k1, k2, k3, k4, k5, k6⟩
  · simp [r0, pre1, iT, i1, i2, i3, i4, i5, i6, i7, i8, j1, j2, j3, e1, k1]; omega
  · exact absurd ⟨by omega, by omega⟩ e4
  · simp [r0, pre1, iT, i1, i2, i3, i4, i5, i6, i7, i8, j1, j2, j3, e1, k1]; omega
  · simp [r0, pre1, iT, i1, i2, i3, i4, i5, i6, i7, i8, j1, j2, j3, e1, k1, e2, e3, k2, k3, w2.1, w2.2]; omega

set_option maxRecDepth 100000 in
theorem PointPressure_at (a b : Int) (n : Nat) (p q : Nat → Int) (u v lo hi : Int) : SoundAt Try.prog 10 [.agg [i a, i b], scs n p q, .agg [i u, i v], .agg [i lo, i hi]] (bl true) := by
  refine soundAt_fin (G := [(37, S_ready), (39, S_tabled), (23, S_lScale), (19, S_lto), (22, S_Convert), (27, S_lTable), (28, S_Corrected), (26, S_Boils), (35, S_between), (36, S_pHeights), (16, S_wakes)]) (L := []) (SoundG.cons ready_ok (SoundG.cons tabled_ok (SoundG.cons lScale_ok (SoundG.cons lto_ok (SoundG.cons Convert_ok (SoundG.cons lTable_ok (SoundG.cons Corrected_ok (SoundG.cons Boils_ok (SoundG.cons between_ok (SoundG.cons pHeights_ok (SoundG.cons wakes_ok (SoundG.nil _)))))))))))) mixed Try.func10 (show Try.f10.body = some (bodyOf Try.f10) by kernel_rfl) noLoops (t := (Tree.need [isRec 2 1 (chunk 2 [iI a, iI b]), 1 ≤ 100000] (Tree.branch (!(decide (sdE 1 (col 0 (chunk 2 [iI a, iI b])) (col 1 (chunk 2 [iI a, iI b])) lo hi = (0 : Int)) && (decide ((-400 : Int) ≤ lo) && decide (hi ≤ (400 : Int))))) (Tree.leaf (RV.x (Value.bool true))) (Tree.need [isRec 2 n fun k => [i (p k), i (q k)]] (Tree.branch (!(decide (n ≤ 8) && (itB n p q && insB (p 0) u v (p (n - 1))))) (Tree.leaf (RV.x (Value.bool true))) (Tree.need [isRec 2 n fun k => [i (p k), i (q k)], n ≤ 100000] (Tree.need [isRec 2 n fun k => [i (p k), i (q k)], n ≤ 100000] (Tree.need [isRec 2 n fun k => [i (p k), i (q k)], n ≤ 100000] (Tree.need [isRec 2 n fun k => [i (p k), i (q k)], n ≤ 100000] (Tree.need [isRec 2 n fun k => [i (p k), i (q k)], n ≤ 100000] (Tree.need [isRec 2 n fun k => [i (p k), i (q k)], n ≤ 100000] (Tree.branch (blE n p q u u != (0 : Int)) (Tree.leaf (RV.x (Value.bool false))) (Tree.branch (blE n p q v v != (0 : Int)) (Tree.leaf (RV.x (Value.bool false))) (Tree.branch (blE n p q u v != (0 : Int)) (Tree.leaf (RV.x (Value.bool false))) (Tree.branch (blLo n p q u u != blHi n p q u u) (Tree.leaf (RV.x (Value.bool false))) (Tree.branch (blLo n p q v v != blHi n p q v v) (Tree.leaf (RV.x (Value.bool false))) (Tree.branch (decide (blLo n p q u u > blLo n p q v v)) (Tree.leaf (RV.x (Value.bool false))) (Tree.branch (!(blLo n p q u v == blLo n p q u u && (blHi n p q u v == blLo n p q v v && true))) (Tree.leaf (RV.x (Value.bool false))) (Tree.need [(0 : Int) ≤ (0 : Int) ∧ (0 : Int) < (↑n : Int)] (Tree.branch (decide (blLo n p q u u < q (Int.toNat (0 : Int)))) (Tree.leaf (RV.x (Value.bool false))) (Tree.need [inI64 ((↑n : Int) - (1 : Int))] (Tree.need [(0 : Int) ≤ (↑n : Int) - (1 : Int) ∧ (↑n : Int) - (1 : Int) < (↑n : Int)] (Tree.branch (decide (blHi n p q v v > q (Int.toNat ((↑n : Int) - (1 : Int))))) (Tree.leaf (RV.x (Value.bool false))) (Tree.need [isRec 2 2 (chunk 2 [iI (700 : Int), iI (940 : Int), iI (760 : Int), iI (1000 : Int)]), 2 ≤ 100000] (Tree.branch (hgErr a b lo hi == (0 : Int)) (Tree.branch (coE 2 (col 0 (chunk 2 [iI (700 : Int), iI (940 : Int), iI (760 : Int), iI (1000 : Int)])) (col 1 (chunk 2 [iI (700 : Int), iI (940 : Int), iI (760 : Int), iI (1000 : Int)])) a b (760 : Int) (760 : Int) lo hi == (0 : Int)) (Tree.branch ((if hgOk a b lo hi = true then hgLo a b lo hi else (0 : Int)) == coLo 2 (col 0 (chunk 2 [iI (700 : Int), iI (940 : Int), iI (760 : Int), iI (1000 : Int)])) (col 1 (chunk 2 [iI (700 : Int), iI (940 : Int), iI (760 : Int), iI (1000 : Int)])) a b (760 : Int) (760 : Int) lo hi && ((if hgOk a b lo hi = true then hgHi a b lo hi else (0 : Int)) == coHi 2 (col 0 (chunk 2 [iI (700 : Int), iI (940 : Int), iI (760 : Int), iI (1000 : Int)])) (col 1 (chunk 2 [iI (700 : Int), iI (940 : Int), iI (760 : Int), iI (1000 : Int)])) a b (760 : Int) (760 : Int) lo hi && true)) (Tree.leaf (RV.x (Value.bool true))) (Tree.leaf (RV.x (Value.bool false)))) (Tree.leaf (RV.x (Value.bool false)))) (Tree.leaf (RV.x (Value.bool false)))))))))))))))))))))))))))) (by kernel_rfl) ?_
  have c0 : (col 0 fun k => [i (p k), i (q k)]) = p := rfl
  have c1 : (col 1 fun k => [i (p k), i (q k)]) = q := rfl
  have r0 : isRec 2 n (fun k => [i (p k), i (q k)]) := fun _ _ => rfl
  have hr : isRec 2 1 (chunk 2 [iI a, iI b]) := isRec_c1 a b
  have e0 : sdE 1 (col 0 (chunk 2 [iI a, iI b])) (col 1 (chunk 2 [iI a, iI b])) lo hi = hgErr a b lo hi := sdE_one _ _ lo hi
  have hE : isRec 2 2 (chunk 2 [iI 700, iI 940, iI 760, iI 1000]) := isRec_c2 _ _ _ _
  have p0 : col 0 (chunk 2 [iI 700, iI 940, iI 760, iI 1000]) 0 = 700 := rfl
  have p1 : col 0 (chunk 2 [iI 700, iI 940, iI 760, iI 1000]) 1 = 760 := rfl
  have q0 : col 1 (chunk 2 [iI 700, iI 940, iI 760, iI 1000]) 0 = 940 := rfl
  have q1 : col 1 (chunk 2 [iI 700, iI 940, iI 760, iI 1000]) 1 = 1000 := rfl
  generalize col 0 (chunk 2 [iI 700, iI 940, iI 760, iI 1000]) = ep at *
  generalize col 1 (chunk 2 [iI 700, iI 940, iI 760, iI 1000]) = eq at *
  simp only [Tree.sat, allP, fitP, valEq, true_and, and_true, c0, c1, e0]
  refine ⟨⟨hr, by omega⟩, fun _ => trivial, fun h0 => ?_⟩
  have h0' : hgErr a b lo hi = 0 ∧ -400 ≤ lo ∧ hi ≤ 400 := by simpa using h0
  obtain ⟨v0, r1, r3⟩ := h0'
  clear h0 hr
  have v1 : scB a b = true := by
    cases h : scB a b
    · simp [hgErr, h] at v0
    · rfl
  have v2 : insB (-1000000) lo hi 1000000 = true := by
    cases h : insB (-1000000) lo hi 1000000
    · simp [hgErr, v1, h] at v0
    · rfl
  have r2 := (insB_iff _ _ _ _).1 v2
  have s1 := scB_bd v1
  refine ⟨r0, fun _ => trivial, fun h0 => ?_⟩
  obtain ⟨t1, t2, t3, t4, t5, t6⟩ := tabled_facts (by simpa using h0)
  clear h0
  obtain ⟨f1, f2, f3⟩ := bl_ok t5 (show p 0 ≤ u ∧ u ≤ u ∧ u ≤ p (n - 1) by omega)
  obtain ⟨g1, g2, g3⟩ := bl_ok t5 (show p 0 ≤ v ∧ v ≤ v ∧ v ≤ p (n - 1) by omega)
  obtain ⟨k1, k2, k3⟩ := bl_ok t5 t6
  have z0 := boil_spec t2 t4 (x := u) (by omega)
  have z1 := boil_spec t2 t4 (x := v) (by omega)
  have z2 := boil_mono t2 t4 (x := u) (y := v) (by omega) (by omega) (by omega)
  have et : tabB 2 ep eq = true := by
    refine allI_iff.2 (fun j hj => ?_)
    rcases (show j = 0 ∨ j = 1 by omega) with rfl | rfl <;> simp [stepB, bt, p0, p1, q0, q1]
  have eb : tbE 2 ep eq = 0 := by simp [tbE, et]
  have es : segI 2 ep 760 = 0 := by
    unfold segI
    exact fstI_eq (by omega) (by simp [p1]) (fun j hj => by omega)
  have ei : boilI 2 ep eq 760 = 1000 := by
    unfold boilI boilAt
    rw [es, p0, show 0 + 1 = 1 from rfl, p1, q0, q1]
    decide
  obtain ⟨d1, d2, d3⟩ := co_ok eb v1 (u := 760) (v := 760) (show ep 0 ≤ 760 ∧ (760 : Int) ≤ 760 ∧ 760 ≤ ep (2 - 1) by rw [p0, show 2 - 1 = 1 from rfl, p1]; omega) r2
  rw [ei] at d2 d3
  have ce := cr_even (a := a) (b := b) (lo := lo) (hi := hi)
  have hO : hgOk a b lo hi = true := by simp [hgOk, v1, v2]
  have e1 : Int.toNat 0 = 0 := rfl
  have e2 : Int.toNat ((n : Int) - 1) = n - 1 := by omega
  rw [e1, e2, f1, f2, f3, g1, g2, g3, k1, k2, k3, d1, d2, d3, ce.1, ce.2, v0, hO]
  have n1 : ¬ boilI n p q u > boilI n p q v := by omega
  have n2 : ¬ boilI n p q u < q 0 := by omega
  have n3 : ¬ boilI n p q v > q (n - 1) := by omega
  have i8 : inI64 ((n : Int) - 1) := by unfold inI64; omega
  simp [r0, n1, n2, n3, i8, hE]
  omega

end Go.Proofs.Ytchcegfhamngkaa
/- Contracts of functions of the program, by the engine Sx: what each call comes to. Printed by a program of this repo (sxgen.py). -/
set_option linter.unusedSimpArgs false
set_option linter.unusedVariables false
namespace Go.Proofs.Ytchcegfhamngkaa
open Go Go.Sx Go.RowKit

/-- One entry more; entries turned; of some numbers so many are not as p says. -/
def exI (n : Nat) (f : Nat → Int) (x : Int) (j : Nat) : Int := if j < n then f j else x
def tuN (M k j : Nat) : Nat := if j < M - k then k + j else j - (M - k)
def tuI (M k : Nat) (f : Nat → Int) (j : Nat) : Int := f (tuN M k j)
def cnt (p : Nat → Bool) (n : Nat) : Nat := (wrL p n).length
/-- Is a number among the first ones of a list? The numbers that are not in a list. -/
def memI (l : List Int) (x : Int) : Nat → Bool
  | 0 => false
  | k + 1 => memI l x k || (nthI l k == x)
def seL (w : List Int) : Nat → List Int
  | 0 => []
  | k + 1 => if memI w k w.length then seL w k else seL w k ++ [(k : Int)]
def selI (f : Nat → Int) (S : List Int) (j : Nat) : Int := f (nthI S j).toNat


theorem cnt_succ (p : Nat → Bool) (n : Nat) : cnt p (n + 1) = cnt p n + (if p n then 0 else 1) := by
  unfold cnt
  show (wrL p (n + 1)).length = _
  cases h : p n <;> simp [wrL, h]
theorem cnt_congr {p q : Nat → Bool} : ∀ {n : Nat}, (∀ j, j < n → p j = q j) → cnt p n = cnt q n
  | 0, _ => rfl
  | n + 1, h => by rw [cnt_succ, cnt_succ, cnt_congr (fun j hj => h j (by omega)), h n (by omega)]
theorem cnt_split (p : Nat → Bool) (a : Nat) : ∀ b, cnt p (a + b) = cnt p a + cnt (fun j => p (a + j)) b
  | 0 => by simp [cnt, wrL]
  | b + 1 => by
    rw [← Nat.add_assoc, cnt_succ, cnt_succ, cnt_split p a b]
    omega
theorem cnt_turn (q : Nat → Bool) {M k : Nat} (hk : k ≤ M) : cnt (fun j => q (tuN M k j)) M = cnt q M := by
  have h1 := cnt_split (fun j => q (tuN M k j)) (M - k) k
  rw [show M - k + k = M by omega] at h1
  have h2 := cnt_split q k (M - k)
  rw [show k + (M - k) = M by omega] at h2
  rw [h1, h2]
  have e1 : cnt (fun j => q (tuN M k j)) (M - k) = cnt (fun j => q (k + j)) (M - k) := cnt_congr fun j hj => by
    show q (tuN M k j) = q (k + j)
    unfold tuN
    rw [if_pos hj]
  have e2 : cnt (fun j => q (tuN M k (M - k + j))) k = cnt q k := cnt_congr fun j hj => by
    show q (tuN M k (M - k + j)) = q j
    unfold tuN
    rw [if_neg (by omega), show M - k + j - (M - k) = j by omega]
  rw [e1, e2]
  omega
theorem tuN_lt {M k j : Nat} (hj : j < M) (hk : k ≤ M) : tuN M k j < M := by
  unfold tuN
  split <;> omega
theorem tuN_onto {M k i : Nat} (hi : i < M) (hk : k ≤ M) : ∃ j, j < M ∧ tuN M k j = i := by
  rcases (show i < k ∨ k ≤ i by omega) with h | h
  · refine ⟨M - k + i, by omega, ?_⟩
    unfold tuN
    rw [if_neg (by omega)]
    omega
  · refine ⟨i - k, by omega, ?_⟩
    unfold tuN
    rw [if_pos (by omega)]
    omega
theorem cnt_le (p : Nat → Bool) (n : Nat) : cnt p n ≤ n := wrL_len p n
theorem wrL_mem {p : Nat → Bool} {x : Int} : ∀ {n : Nat}, x ∈ wrL p n ↔ ∃ k : Nat, k < n ∧ x = k ∧ p k = false
  | 0 => by simp [wrL]
  | n + 1 => by
    have ih := wrL_mem (p := p) (x := x) (n := n)
    cases h : p n with
    | true =>
      rw [show wrL p (n + 1) = wrL p n by simp [wrL, h], ih]
      constructor
      · rintro ⟨k, h1, h2, h3⟩
        exact ⟨k, by omega, h2, h3⟩
      · rintro ⟨k, h1, h2, h3⟩
        rcases (show k < n ∨ k = n by omega) with h4 | rfl
        · exact ⟨k, h4, h2, h3⟩
        · rw [h] at h3; cases h3
    | false =>
      rw [show wrL p (n + 1) = wrL p n ++ [(n : Int)] by simp [wrL, h], List.mem_append, ih, List.mem_singleton]
      constructor
      · rintro (⟨k, h1, h2, h3⟩ | rfl)
        · exact ⟨k, by omega, h2, h3⟩
        · exact ⟨n, by omega, rfl, h⟩
      · rintro ⟨k, h1, h2, h3⟩
        rcases (show k < n ∨ k = n by omega) with h4 | rfl
        · exact .inl ⟨k, h4, h2, h3⟩
        · exact .inr h2
theorem wrL_congr {p q : Nat → Bool} : ∀ {n : Nat}, (∀ j, j < n → p j = q j) → wrL p n = wrL q n
  | 0, _ => rfl
  | n + 1, h => by
    have h1 := h n (by omega)
    have ih := wrL_congr (p := p) (q := q) (n := n) (fun j hj => h j (by omega))
    cases h2 : p n with
    | true =>
      rw [h2] at h1
      rw [show wrL p (n + 1) = wrL p n by simp [wrL, h2], show wrL q (n + 1) = wrL q n by simp [wrL, ← h1], ih]
    | false =>
      rw [h2] at h1
      rw [show wrL p (n + 1) = wrL p n ++ [(n : Int)] by simp [wrL, h2], show wrL q (n + 1) = wrL q n ++ [(n : Int)] by simp [wrL, ← h1], ih]
theorem memI_iff {l : List Int} {x : Int} : ∀ {k : Nat}, memI l x k = true ↔ ∃ j, j < k ∧ nthI l j = x
  | 0 => by simp [memI]
  | k + 1 => by
    have ih := memI_iff (l := l) (x := x) (k := k)
    simp only [memI, Bool.or_eq_true, ih, beq_iff_eq]
    constructor
    · rintro (⟨j, h1, h2⟩ | h)
      · exact ⟨j, by omega, h2⟩
      · exact ⟨k, by omega, h⟩
    · rintro ⟨j, h1, h2⟩
      rcases (show j < k ∨ j = k by omega) with h3 | rfl
      · exact .inl ⟨j, h3, h2⟩
      · exact .inr h2
theorem memI_mem {l : List Int} {x : Int} : memI l x l.length = true ↔ x ∈ l := by
  rw [memI_iff, List.mem_iff_getElem]
  constructor
  · rintro ⟨j, h1, h2⟩
    exact ⟨j, h1, by rw [← h2]; simp [nthI, List.getD, h1]⟩
  · rintro ⟨j, h1, h2⟩
    exact ⟨j, h1, by rw [← h2]; simp [nthI, List.getD, h1]⟩
theorem seL_wr (p : Nat → Bool) (M : Nat) : ∀ k, k ≤ M → seL (wrL p M) k = wrL (fun j => !p j) k
  | 0, _ => rfl
  | k + 1, hk => by
    have ih := seL_wr p M k (by omega)
    have hm : memI (wrL p M) k (wrL p M).length = !p k := by
      rw [Bool.eq_iff_iff, memI_mem, wrL_mem]
      constructor
      · rintro ⟨j, _, h2, h3⟩
        have : j = k := by omega
        rw [← this, h3]
        rfl
      · intro h
        exact ⟨k, by omega, rfl, by simpa using h⟩
    show (if memI (wrL p M) k (wrL p M).length then seL (wrL p M) k else seL (wrL p M) k ++ [(k : Int)]) = _
    rw [hm, ih]
    cases h : p k <;> simp [wrL, h]
theorem cnt_not (p : Nat → Bool) : ∀ n, cnt (fun j => !p j) n + cnt p n = n
  | 0 => rfl
  | n + 1 => by
    have := cnt_not p n
    rw [cnt_succ, cnt_succ]
    cases p n <;> simp <;> omega
theorem bst_min (L : Nat → Nat) : ∀ n j, j < n → L (bst L n) ≤ L j
  | 0, j, hj => absurd hj (Nat.not_lt_zero _)
  | n + 1, j, hj => by
    have ih := bst_min L n
    show L (if L n < L (bst L n) then n else bst L n) ≤ L j
    rcases (show j < n ∨ j = n by omega) with h | rfl
    · have := ih j h
      split <;> omega
    · split <;> omega
theorem bst_congr {L K : Nat → Nat} : ∀ {n : Nat}, (∀ j, j < n → L j = K j) → bst L n = bst K n
  | 0, _ => rfl
  | n + 1, h => by
    have ih := bst_congr (L := L) (K := K) (n := n) (fun j hj => h j (by omega))
    show (if L n < L (bst L n) then n else bst L n) = (if K n < K (bst K n) then n else bst K n)
    rw [ih, h n (by omega)]
    rcases Nat.eq_zero_or_pos n with h0 | h0
    · subst h0
      show (if K 0 < L 0 then 0 else 0) = (if K 0 < K 0 then 0 else 0)
      split <;> split <;> rfl
    · rw [h _ (by have := (bst_lt K n).2 h0; omega)]

end Go.Proofs.Ytchcegfhamngkaa
/- Contracts of functions of the program, by the engine Sx: what each call comes to. Printed by a program of this repo (sxgen.py). -/
set_option linter.unusedSimpArgs false
set_option linter.unusedVariables false
namespace Go.Proofs.Ytchcegfhamngkaa
open Go Go.Sx Go.RowKit

theorem cnt_zero {p : Nat → Bool} : ∀ {n : Nat}, (∀ j, j < n → p j = true) → cnt p n = 0
  | 0, _ => rfl
  | n + 1, h => by rw [cnt_succ, cnt_zero (fun j hj => h j (by omega)), h n (by omega)]; rfl
theorem dd_iff {n m : Nat} {a b r u v : Nat → Int} : ddE n m a b r u v = 0 ↔ n ≤ 8 ∧ m ≤ 12 ∧ allS n a b = true ∧ allI (fun k => enB (r k) (u k) (v k)) m = true := by
  unfold ddE
  constructor
  · intro h
    split at h
    · omega
    · split at h
      · split at h
        · rename_i h1 h2 h3
          exact ⟨by omega, by omega, h2, h3⟩
        · omega
      · omega
  · rintro ⟨h1, h2, h3, h4⟩
    rw [if_neg (by omega), if_pos h3, if_pos h4]
theorem jW_eq {n m : Nat} {a b r u v : Nat → Int} (h : ddE n m a b r u v = 0) {j : Nat} (hj : j < n) : jW n m a b r u v j = wrL (fun k => exB (a j) (b j) (r k) (u k) (v k)) m := by
  unfold jW
  rw [if_pos ⟨h, hj⟩]
theorem jW_len {n m : Nat} {a b r u v : Nat → Int} (h : ddE n m a b r u v = 0) {j : Nat} (hj : j < n) : (jW n m a b r u v j).length = cnt (fun k => exB (a j) (b j) (r k) (u k) (v k)) m := by rw [jW_eq h hj]; rfl
theorem kd_mem {n m : Nat} {a b r u v : Nat → Int} (h : ddE n m a b r u v = 0) {x : Int} : x ∈ kdL n m a b r u v ↔ ∃ j : Nat, j < n ∧ x = j ∧ cnt (fun k => exB (a j) (b j) (r k) (u k) (v k)) m = 0 := by
  unfold kdL
  rw [if_pos h, wrL_mem]
  constructor
  · rintro ⟨j, h1, h2, h3⟩
    refine ⟨j, h1, h2, ?_⟩
    rw [← jW_len h h1]
    simpa [kdB] using h3
  · rintro ⟨j, h1, h2, h3⟩
    refine ⟨j, h1, h2, ?_⟩
    rw [← jW_len h h1] at h3
    simp [kdB, h3]
theorem wg_all {n m : Nat} {a b r u v : Nat → Int} (h : ddE n m a b r u v = 0) (hn : 1 ≤ n) : wgE n m a b r u v = 0 ∧ wgN n m a b r u v = (wgS n m a b r u v : Int) ∧ wgS n m a b r u v < n ∧ wgL n m a b r u v = wrL (fun k => exB (a (wgS n m a b r u v)) (b (wgS n m a b r u v)) (r k) (u k) (v k)) m ∧ (∀ j, j < n → (wgL n m a b r u v).length ≤ cnt (fun k => exB (a j) (b j) (r k) (u k) (v k)) m) := by
  have e : wgE n m a b r u v = 0 := by unfold wgE; rw [if_pos h, if_neg (by omega)]
  have hS : wgS n m a b r u v < n := (bst_lt _ n).2 (by omega)
  have hL : wgL n m a b r u v = wrL (fun k => exB (a (wgS n m a b r u v)) (b (wgS n m a b r u v)) (r k) (u k) (v k)) m := by
    unfold wgL
    rw [if_pos e, jW_eq h hS]
  refine ⟨e, by unfold wgN; rw [if_pos e], hS, hL, fun j hj => ?_⟩
  have := bst_min (fun j => (jW n m a b r u v j).length) n j hj
  rw [jW_len h hj] at this
  have h2 : (wgL n m a b r u v).length = (jW n m a b r u v (wgS n m a b r u v)).length := by rw [hL, jW_eq h hS]
  rw [h2]
  exact this
section
variable {n m k : Nat} {a b r u v : Nat → Int} {rr uu vv : Int}
theorem ex_lt {f : Nat → Int} {x : Int} {j : Nat} (h : j < m) : exI m f x j = f j := if_pos h
theorem di_dd (hx : ddE n (m + 1) a b (exI m r rr) (exI m u uu) (exI m v vv) = 0) (hk : k < m + 1) : ddE n m a b r u v = 0 ∧ ddE n (m + 1) a b (tuI (m + 1) k (exI m r rr)) (tuI (m + 1) k (exI m u uu)) (tuI (m + 1) k (exI m v vv)) = 0 := by
  obtain ⟨h1, h2, h3, h4⟩ := dd_iff.1 hx
  refine ⟨dd_iff.2 ⟨h1, by omega, h3, allI_iff.2 fun j hj => ?_⟩, dd_iff.2 ⟨h1, h2, h3, allI_iff.2 fun j hj => ?_⟩⟩
  · have := allI_iff.1 h4 j (by omega)
    rw [ex_lt hj, ex_lt hj, ex_lt hj] at this
    exact this
  · exact allI_iff.1 h4 (tuN (m + 1) k j) (tuN_lt hj (by omega))
theorem di_turn (j : Nat) (hk : k < m + 1) : cnt (fun i => exB (a j) (b j) (tuI (m + 1) k (exI m r rr) i) (tuI (m + 1) k (exI m u uu) i) (tuI (m + 1) k (exI m v vv) i)) (m + 1) = cnt (fun i => exB (a j) (b j) (exI m r rr i) (exI m u uu i) (exI m v vv i)) (m + 1) :=
  cnt_turn (fun i => exB (a j) (b j) (exI m r rr i) (exI m u uu i) (exI m v vv i)) (by omega)
theorem di_less (j : Nat) : cnt (fun i => exB (a j) (b j) (r i) (u i) (v i)) m ≤ cnt (fun i => exB (a j) (b j) (exI m r rr i) (exI m u uu i) (exI m v vv i)) (m + 1) := by
  rw [cnt_succ]
  have : cnt (fun i => exB (a j) (b j) (r i) (u i) (v i)) m = cnt (fun i => exB (a j) (b j) (exI m r rr i) (exI m u uu i) (exI m v vv i)) m := cnt_congr fun i hi => by
    show _ = exB (a j) (b j) (exI m r rr i) (exI m u uu i) (exI m v vv i)
    rw [ex_lt hi, ex_lt hi, ex_lt hi]
  omega
theorem di_kd (hx : ddE n (m + 1) a b (exI m r rr) (exI m u uu) (exI m v vv) = 0) (hk : k < m + 1) : kdL n (m + 1) a b (tuI (m + 1) k (exI m r rr)) (tuI (m + 1) k (exI m u uu)) (tuI (m + 1) k (exI m v vv)) = kdL n (m + 1) a b (exI m r rr) (exI m u uu) (exI m v vv) := by
  have hy := (di_dd (k := k) hx hk).2
  unfold kdL
  rw [if_pos hx, if_pos hy]
  refine wrL_congr fun j hj => ?_
  unfold kdB
  rw [jW_len hx hj, jW_len hy hj, di_turn j hk]
theorem di_wg (hx : ddE n (m + 1) a b (exI m r rr) (exI m u uu) (exI m v vv) = 0) (hk : k < m + 1) (hn : 1 ≤ n) : wgS n (m + 1) a b (tuI (m + 1) k (exI m r rr)) (tuI (m + 1) k (exI m u uu)) (tuI (m + 1) k (exI m v vv)) = wgS n (m + 1) a b (exI m r rr) (exI m u uu) (exI m v vv) ∧
    (wgL n (m + 1) a b (tuI (m + 1) k (exI m r rr)) (tuI (m + 1) k (exI m u uu)) (tuI (m + 1) k (exI m v vv))).length = (wgL n (m + 1) a b (exI m r rr) (exI m u uu) (exI m v vv)).length ∧ (wgL n m a b r u v).length ≤ (wgL n (m + 1) a b (exI m r rr) (exI m u uu) (exI m v vv)).length := by
  obtain ⟨hd, hy⟩ := di_dd (k := k) hx hk
  obtain ⟨x1, x2, x3, x4, x5⟩ := wg_all hx hn
  obtain ⟨y1, y2, y3, y4, y5⟩ := wg_all hy hn
  obtain ⟨d1, d2, d3, d4, d5⟩ := wg_all hd hn
  have e : wgS n (m + 1) a b (tuI (m + 1) k (exI m r rr)) (tuI (m + 1) k (exI m u uu)) (tuI (m + 1) k (exI m v vv)) = wgS n (m + 1) a b (exI m r rr) (exI m u uu) (exI m v vv) := bst_congr fun j hj => by
    show (jW n (m + 1) a b _ _ _ j).length = (jW n (m + 1) a b _ _ _ j).length
    rw [jW_len hx hj, jW_len hy hj, di_turn j hk]
  refine ⟨e, ?_, ?_⟩
  · rw [x4, y4, e]
    exact di_turn _ hk
  · have h1 := d5 _ x3
    have h2 := di_less (m := m) (a := a) (b := b) (r := r) (u := u) (v := v) (rr := rr) (uu := uu) (vv := vv) (wgS n (m + 1) a b (exI m r rr) (exI m u uu) (exI m v vv))
    rw [x4]
    exact Nat.le_trans h1 h2
theorem di_pos (hx : ddE n (m + 1) a b (exI m r rr) (exI m u uu) (exI m v vv) = 0) (hn : 1 ≤ n) : 0 < (kdL n (m + 1) a b (exI m r rr) (exI m u uu) (exI m v vv)).length ↔ (wgL n (m + 1) a b (exI m r rr) (exI m u uu) (exI m v vv)).length = 0 := by
  obtain ⟨x1, x2, x3, x4, x5⟩ := wg_all hx hn
  constructor
  · intro h
    obtain ⟨x, hm⟩ := List.exists_mem_of_length_pos h
    obtain ⟨j, h1, h2, h3⟩ := (kd_mem hx).1 hm
    have := x5 j h1
    omega
  · intro h
    have : ((wgS n (m + 1) a b (exI m r rr) (exI m u uu) (exI m v vv) : Nat) : Int) ∈ kdL n (m + 1) a b (exI m r rr) (exI m u uu) (exI m v vv) := (kd_mem hx).2 ⟨_, x3, rfl, by
      rw [x4] at h
      exact h⟩
    exact List.length_pos_of_mem this
theorem nthI_mem {l : List Int} {j : Nat} (h : j < l.length) : nthI l j ∈ l := by
  have : nthI l j = l[j] := by simp [nthI, List.getD, h]
  rw [this]
  exact List.getElem_mem h
theorem di_has (hx : ddE n (m + 1) a b (exI m r rr) (exI m u uu) (exI m v vv) = 0) {q : Nat} (hq : q < (kdL n (m + 1) a b (exI m r rr) (exI m u uu) (exI m v vv)).length) : memI (kdL n m a b r u v) (nthI (kdL n (m + 1) a b (exI m r rr) (exI m u uu) (exI m v vv)) q) (kdL n m a b r u v).length = true := by
  obtain ⟨hd, _⟩ := di_dd (k := 0) hx (by omega)
  rw [memI_mem, kd_mem hd]
  obtain ⟨j, h1, h2, h3⟩ := (kd_mem hx).1 (nthI_mem hq)
  refine ⟨j, h1, h2, ?_⟩
  have := di_less (m := m) (a := a) (b := b) (r := r) (u := u) (v := v) (rr := rr) (uu := uu) (vv := vv) j
  omega
theorem di_rest (hx : ddE n (m + 1) a b (exI m r rr) (exI m u uu) (exI m v vv) = 0) (hn : 1 ≤ n) {W S0 : List Int} {S : Nat} (hW : W = wgL n (m + 1) a b (exI m r rr) (exI m u uu) (exI m v vv)) (hS : S = wgS n (m + 1) a b (exI m r rr) (exI m u uu) (exI m v vv)) (h0 : S0 = seL W (m + 1)) {a' b' r' u' v' : Nat → Int} (ha : a' 0 = a S) (hb : b' 0 = b S) (hr : ∀ j, j < S0.length → r' j = selI (exI m r rr) S0 j ∧ u' j = selI (exI m u uu) S0 j ∧ v' j = selI (exI m v vv) S0 j) :
    S0.length + W.length = m + 1 ∧ ddE 1 S0.length a' b' r' u' v' = 0 ∧ kdL 1 S0.length a' b' r' u' v' = [0] := by
  obtain ⟨x1, x2, x3, x4, x5⟩ := wg_all hx hn
  obtain ⟨q1, q2, q3, q4⟩ := dd_iff.1 hx
  rw [← hS, ← hW] at x4
  rw [← hS] at x3
  have e0 : S0 = wrL (fun j => !exB (a S) (b S) (exI m r rr j) (exI m u uu j) (exI m v vv j)) (m + 1) := by
    rw [h0, x4, seL_wr _ _ _ (Nat.le_refl _)]
  have hl : S0.length + W.length = m + 1 := by
    rw [e0, x4]
    exact cnt_not (fun j => exB (a S) (b S) (exI m r rr j) (exI m u uu j) (exI m v vv j)) (m + 1)
  have hin : ∀ j, j < S0.length → ∃ i : Nat, i < m + 1 ∧ nthI S0 j = i ∧ exB (a S) (b S) (exI m r rr i) (exI m u uu i) (exI m v vv i) = true := by
    intro j hj
    have h1 := nthI_mem hj
    rw [e0, wrL_mem] at h1
    obtain ⟨i, h2, h3, h4⟩ := h1
    rw [← e0] at h3
    exact ⟨i, h2, h3, by simpa using h4⟩
  have hd : ddE 1 S0.length a' b' r' u' v' = 0 := by
    refine dd_iff.2 ⟨by omega, by omega, ?_, allI_iff.2 fun j hj => ?_⟩
    · refine allI_iff.2 fun j hj => ?_
      obtain rfl : j = 0 := by omega
      rw [ha, hb]
      exact allI_iff.1 q3 S x3
    · obtain ⟨i, h1, h2, h3⟩ := hin j hj
      obtain ⟨g1, g2, g3⟩ := hr j hj
      rw [g1, g2, g3]
      unfold selI
      rw [h2, Int.toNat_natCast]
      exact allI_iff.1 q4 i h1
  refine ⟨hl, hd, ?_⟩
  have hz : cnt (fun i => exB (a' 0) (b' 0) (r' i) (u' i) (v' i)) S0.length = 0 := cnt_zero fun j hj => by
    obtain ⟨i, h1, h2, h3⟩ := hin j hj
    obtain ⟨g1, g2, g3⟩ := hr j hj
    show exB (a' 0) (b' 0) (r' j) (u' j) (v' j) = true
    rw [ha, hb, g1, g2, g3]
    unfold selI
    rw [h2, Int.toNat_natCast]
    exact h3
  have hk : kdB 1 S0.length a' b' r' u' v' 0 = false := by
    unfold kdB
    rw [jW_len hd (by omega), hz]
    rfl
  unfold kdL
  rw [if_pos hd]
  simp [wrL, hk]
end

end Go.Proofs.Ytchcegfhamngkaa
/- Contracts of functions of the program, by the engine Sx: what each call comes to. Printed by a program of this repo (sxgen.py). -/
set_option linter.unusedSimpArgs false
set_option linter.unusedVariables false
namespace Go.Proofs.Ytchcegfhamngkaa
open Go Go.Sx Go.RowKit

theorem nthI_snoc (l : List Int) (x : Int) (j : Nat) : nthI (l ++ [x]) j = if j < l.length then nthI l j else nthI [x] (j - l.length) := by
  unfold nthI
  rw [List.getD_eq_getElem?_getD, List.getElem?_append]
  split <;> rfl
theorem catI {S : List Int} {a b c : Nat → Int} {x : Nat} {j : Nat} (h : j < S.length + 1) : catF S.length (fun j => [i (selI a S j), i (selI b S j), i (selI c S j)]) (chunk 3 [i (a x), i (b x), i (c x)]) j = [i (selI a (S ++ [(x : Int)]) j), i (selI b (S ++ [(x : Int)]) j), i (selI c (S ++ [(x : Int)]) j)] := by
  unfold selI
  rw [nthI_snoc]
  show mergeL (decide (j < S.length)) _ (chunk 3 [i (a x), i (b x), i (c x)] (j - S.length)) = _
  rw [show j - S.length = if j < S.length then 0 else 0 by split <;> omega, ite_self]
  by_cases hj : j < S.length
  · rw [decide_eq_true hj, if_pos hj]; rfl
  · rw [decide_eq_false hj, if_neg hj, show nthI [(x : Int)] 0 = x from rfl, Int.toNat_natCast]; rfl
theorem seL_len (w : List Int) : ∀ k, (seL w k).length ≤ k
  | 0 => Nat.le_refl _
  | k + 1 => by
    have := seL_len w k
    unfold seL
    split
    · omega
    · rw [List.length_append]; simp; omega
theorem memI_succ (l : List Int) (x : Int) (k : Nat) : memI l x (k + 1) = (memI l x k || (nthI l k == x)) := rfl

noncomputable def E_bl (n : Nat) (a b : Nat → Int) (M : Nat) (R U V : Nat → Int) (A B W : List Int) (N : Int) : St := (some { σ := mkS 276 [(0, scs n a b), (9, ens M R U V), (12, inl A), (14, inl B), (21, i N), (22, inl W)], m := [], nx := 901 } : Option St).getD { σ := [], m := [], nx := 0 }
noncomputable def B_bl : Code := loopBody (loopAt (bodyOf Try.f14) 0)
noncomputable def inv_bl (n : Nat) (a b : Nat → Int) (M : Nat) (R U V : Nat → Int) (A B W : List Int) (N : Int) (q : Nat) : St := { σ := ovrS [(27, i q)] (E_bl n a b M R U V A B W N).σ, m := (E_bl n a b M R U V A B W N).m, nx := (E_bl n a b M R U V A B W N).nx }
noncomputable def out_bl (n : Nat) (a b : Nat → Int) (M : Nat) (R U V : Nat → Int) (A B W : List Int) (N : Int) (q : Nat) : AEx → Option St := fun ex => match ex with
  | .exit 0 => some { σ := ovrS [] (E_bl n a b M R U V A B W N).σ, m := (E_bl n a b M R U V A B W N).m, nx := (E_bl n a b M R U V A B W N).nx }
  | .ret => some { σ := ovrS [(8, .lit false)] (E_bl n a b M R U V A B W N).σ, m := (E_bl n a b M R U V A B W N).m, nx := (E_bl n a b M R U V A B W N).nx }
  | _ => none
noncomputable def T_bl (n : Nat) (a b : Nat → Int) (M : Nat) (R U V : Nat → Int) (A B W : List Int) (N : Int) : CT := .branch (allI (fun j => memI A (nthI B j) A.length) B.length) (.leaf (.exit 0, ( out_bl n a b M R U V A B W N 0 (.exit 0)).getD (E_bl n a b M R U V A B W N))) (.leaf (.ret, ( out_bl n a b M R U V A B W N 0 .ret).getD (E_bl n a b M R U V A B W N)))
noncomputable def LS_bl (n : Nat) (a b : Nat → Int) (M : Nat) (R U V : Nat → Int) (A B W : List Int) (N : Int) : LSpec := normSp [] (sumL (inv_bl n a b M R U V A B W N (0)) (T_bl n a b M R U V A B W N))
noncomputable def E_bi (n : Nat) (a b : Nat → Int) (M : Nat) (R U V : Nat → Int) (A B W : List Int) (N : Int) (q : Nat) : St := (some { σ := mkS 276 [(0, scs n a b), (9, ens M R U V), (12, inl A), (14, inl B), (21, i N), (22, inl W), (27, i q)], m := [], nx := 901 } : Option St).getD { σ := [], m := [], nx := 0 }
noncomputable def B_bi : Code := (loopBody (loopAt (loopBody (loopAt (bodyOf Try.f14) 0)) 0))
noncomputable def inv_bi (n : Nat) (a b : Nat → Int) (M : Nat) (R U V : Nat → Int) (A B W : List Int) (N : Int) (q : Nat) (o : Nat) : St := { σ := ovrS [(28, bl (memI A (nthI B q) o)), (29, i o)] (E_bi n a b M R U V A B W N q).σ, m := (E_bi n a b M R U V A B W N q).m, nx := (E_bi n a b M R U V A B W N q).nx }
noncomputable def out_bi (n : Nat) (a b : Nat → Int) (M : Nat) (R U V : Nat → Int) (A B W : List Int) (N : Int) (q : Nat) (o : Nat) : AEx → Option St := fun ex => match ex with
  | .exit 2 => some { σ := ovrS [(28, bl (memI A (nthI B q) A.length))] (E_bi n a b M R U V A B W N q).σ, m := (E_bi n a b M R U V A B W N q).m, nx := (E_bi n a b M R U V A B W N q).nx }
  | _ => none
noncomputable def T_bi (n : Nat) (a b : Nat → Int) (M : Nat) (R U V : Nat → Int) (A B W : List Int) (N : Int) (q : Nat) : CT := .leaf (.exit 2, ( out_bi n a b M R U V A B W N q 0 (.exit 2)).getD (E_bi n a b M R U V A B W N q))
noncomputable def LS_bi (n : Nat) (a b : Nat → Int) (M : Nat) (R U V : Nat → Int) (A B W : List Int) (N : Int) (q : Nat) : LSpec := normSp [] (sumL (inv_bi n a b M R U V A B W N q (0)) (T_bi n a b M R U V A B W N q))
set_option maxRecDepth 100000 in
theorem bi_ls (n : Nat) (a b : Nat → Int) (M : Nat) (R U V : Nat → Int) (A B W : List Int) (N : Int) (q : Nat) (pre0 : A.length ≤ 100000) (pre1 : B.length ≤ 100000) (pre2 : W.length ≤ 100000) (pre3 : M ≤ 100000) (pre4 : q < B.length) : LSound Try.prog (.loop B_bi) (LS_bi n a b M R U V A B W N q) := by
  refine loop_roundsX [] (E := { R := [], H := [] }) (G := []) (L := []) (SoundG.nil _) (SoundX.of (SoundRL.nil _) (SoundHL.nil _)) mixed noLoops (X := Nat) (inv_bi n a b M R U V A B W N q) (fun o => o ≤ A.length) (fun o => A.length - o) (out_bi n a b M R U V A B W N q) (x0 := 0) (by simp) ?_ ?_ ?_
  · rintro o
    kernel_rfl
  · rintro o y E h
    unfold out_bi at h
    split at h
    · cases h; kernel_rfl
    · cases h
  · rintro Q hQ o hx
    refine ⟨(o + 1), ?_⟩
    have e : roundX Try.prog [] { R := [], H := [] } [] [] B_bi (inv_bi n a b M R U V A B W N q o) (inv_bi n a b M R U V A B W N q ((o + 1))) (out_bi n a b M R U V A B W N q o) = (Tree.branch (decide ((↑o : Int) < (↑(List.length A) : Int))) (Tree.branch (memI A (nthI B q) o) (Tree.need [inI64 ((↑o : Int) + (1 : Int))] (Tree.need [(AV.lst 2 n fun k => [iI (a k), iI (b k)]) = AV.lst 2 n fun k => [iI (a k), iI (b k)], (AV.lst 3 M fun k => [iI (R k), iI (U k), iI (V k)]) = AV.lst 3 M fun k => [iI (R k), iI (U k), iI (V k)], (AV.lst 1 (List.length A) fun j => [iI (nthI A j)]) = AV.lst 1 (List.length A) fun j => [iI (nthI A j)], (AV.lst 1 (List.length B) fun j => [iI (nthI B j)]) = AV.lst 1 (List.length B) fun j => [iI (nthI B j)], N = N, (AV.lst 1 (List.length W) fun j => [iI (nthI W j)]) = AV.lst 1 (List.length W) fun j => [iI (nthI W j)], (↑q : Int) = (↑q : Int), true = memI A (nthI B q) (o + 1), (↑o : Int) + (1 : Int) = (↑(o + 1) : Int)] (Tree.leaf AEx.normal))) (Tree.need [(0 : Int) ≤ (↑o : Int) ∧ (↑o : Int) < (↑(List.length A) : Int)] (Tree.need [(0 : Int) ≤ (↑q : Int) ∧ (↑q : Int) < (↑(List.length B) : Int)] (Tree.need [inI64 ((↑o : Int) + (1 : Int))] (Tree.need [(AV.lst 2 n fun k => [iI (a k), iI (b k)]) = AV.lst 2 n fun k => [iI (a k), iI (b k)], (AV.lst 3 M fun k => [iI (R k), iI (U k), iI (V k)]) = AV.lst 3 M fun k => [iI (R k), iI (U k), iI (V k)], (AV.lst 1 (List.length A) fun j => [iI (nthI A j)]) = AV.lst 1 (List.length A) fun j => [iI (nthI A j)], (AV.lst 1 (List.length B) fun j => [iI (nthI B j)]) = AV.lst 1 (List.length B) fun j => [iI (nthI B j)], N = N, (AV.lst 1 (List.length W) fun j => [iI (nthI W j)]) = AV.lst 1 (List.length W) fun j => [iI (nthI W j)], (↑q : Int) = (↑q : Int), (nthI A o == nthI B q) = memI A (nthI B q) (o + 1), (↑o : Int) + (1 : Int) = (↑(o + 1) : Int)] (Tree.leaf AEx.normal)))))) (Tree.need [(AV.lst 2 n fun k => [iI (a k), iI (b k)]) = AV.lst 2 n fun k => [iI (a k), iI (b k)], (AV.lst 3 M fun k => [iI (R k), iI (U k), iI (V k)]) = AV.lst 3 M fun k => [iI (R k), iI (U k), iI (V k)], (AV.lst 1 (List.length A) fun j => [iI (nthI A j)]) = AV.lst 1 (List.length A) fun j => [iI (nthI A j)], (AV.lst 1 (List.length B) fun j => [iI (nthI B j)]) = AV.lst 1 (List.length B) fun j => [iI (nthI B j)], N = N, (AV.lst 1 (List.length W) fun j => [iI (nthI W j)]) = AV.lst 1 (List.length W) fun j => [iI (nthI W j)], (↑q : Int) = (↑q : Int), memI A (nthI B q) o = memI A (nthI B q) (List.length A)] (Tree.leaf (AEx.exit 2)))) := by kernel_rfl
    rw [e]
    simp only [T_bi, out_bi, Tree.sat, Option.getD_some] at hQ
    have ms := memI_succ A (nthI B q) o
    simp only [Tree.sat, allP, fitP, fitL, valEq, inI64, true_and, and_true, decide_eq_true_eq, decide_eq_false_iff_not, Int.toNat_natCast]
    clear e
    refine ⟨fun h => ⟨fun h2 => ?_, fun h2 => ?_⟩, fun h => ?_⟩
    · rw [ms, h2, Bool.true_or]
      (repeat' first | with_reducible apply And.intro | with_reducible intro _)
      all_goals first | exact True.intro | omega | with_reducible rfl | rfl
    · rw [ms, h2, Bool.false_or]
      (repeat' first | with_reducible apply And.intro | with_reducible intro _)
      all_goals first | exact True.intro | omega | with_reducible rfl | rfl
    · obtain rfl : o = A.length := by omega
      (repeat' first | with_reducible apply And.intro | with_reducible intro _)
      all_goals first | exact True.intro | omega | with_reducible rfl | (rename_i E hE; cases hE; exact hQ) | rfl

set_option maxRecDepth 100000 in
theorem bl_ls (n : Nat) (a b : Nat → Int) (M : Nat) (R U V : Nat → Int) (A B W : List Int) (N : Int) (pre0 : A.length ≤ 100000) (pre1 : B.length ≤ 100000) (pre2 : W.length ≤ 100000) (pre3 : M ≤ 100000) : LSound Try.prog (.loop B_bl) (LS_bl n a b M R U V A B W N) := by
  refine loop_roundsX [] (E := { R := [], H := [] }) (G := []) (L := [depSp 27 (fun k => needSp [k < B.length] (LS_bi n a b M R U V A B W N k))]) (SoundG.nil _) (SoundX.of (SoundRL.nil _) (SoundHL.nil _)) mixed (one_loop (fun cj hcj => by
    have e : loopAt B_bl 0 = some (.loop B_bi) := by kernel_rfl
    rw [e] at hcj; cases hcj
    exact depSp_sound (fun k => needSp_sound (ps := [k < B.length]) (fun h => bi_ls n a b M R U V A B W N k pre0 pre1 pre2 pre3 h)))) (X := Nat) (inv_bl n a b M R U V A B W N) (fun q => q ≤ B.length ∧ ∀ j, j < q → memI A (nthI B j) A.length = true) (fun q => B.length - q) (out_bl n a b M R U V A B W N) (x0 := 0) ⟨by omega, fun j h1 => by omega⟩ ?_ ?_ ?_
  · rintro q
    kernel_rfl
  · rintro q y E h
    unfold out_bl at h
    split at h
    · cases h; kernel_rfl
    · cases h; kernel_rfl
    · cases h
  · rintro Q hQ q hx
    refine ⟨(q + 1), ?_⟩
    have e : roundX Try.prog [] { R := [], H := [] } [depSp 27 (fun k => needSp [k < B.length] (LS_bi n a b M R U V A B W N k))] [] B_bl (inv_bl n a b M R U V A B W N q) (inv_bl n a b M R U V A B W N ((q + 1))) (out_bl n a b M R U V A B W N q) = (Tree.branch (decide ((↑q : Int) < (↑(List.length B) : Int))) (Tree.need [q < List.length B] (Tree.need [(AV.lst 2 n fun k => [iI (a k), iI (b k)]) = AV.lst 2 n fun k => [iI (a k), iI (b k)], (AV.lst 3 M fun k => [iI (R k), iI (U k), iI (V k)]) = AV.lst 3 M fun k => [iI (R k), iI (U k), iI (V k)], (AV.lst 1 (List.length A) fun j => [iI (nthI A j)]) = AV.lst 1 (List.length A) fun j => [iI (nthI A j)], (AV.lst 1 (List.length B) fun j => [iI (nthI B j)]) = AV.lst 1 (List.length B) fun j => [iI (nthI B j)], N = N, (AV.lst 1 (List.length W) fun j => [iI (nthI W j)]) = AV.lst 1 (List.length W) fun j => [iI (nthI W j)], (↑q : Int) = (↑q : Int), false = memI A (nthI B q) 0, (0 : Int) = (↑(0 : Nat) : Int)] (Tree.branch (!memI A (nthI B q) (List.length A)) (Tree.need [(AV.lst 2 n fun k => [iI (a k), iI (b k)]) = AV.lst 2 n fun k => [iI (a k), iI (b k)], AV.lit false = AV.lit false, (AV.lst 3 M fun k => [iI (R k), iI (U k), iI (V k)]) = AV.lst 3 M fun k => [iI (R k), iI (U k), iI (V k)], (AV.lst 1 (List.length A) fun j => [iI (nthI A j)]) = AV.lst 1 (List.length A) fun j => [iI (nthI A j)], (AV.lst 1 (List.length B) fun j => [iI (nthI B j)]) = AV.lst 1 (List.length B) fun j => [iI (nthI B j)], N = N, (AV.lst 1 (List.length W) fun j => [iI (nthI W j)]) = AV.lst 1 (List.length W) fun j => [iI (nthI W j)]] (Tree.leaf AEx.ret)) (Tree.need [inI64 ((↑q : Int) + (1 : Int))] (Tree.need [(AV.lst 2 n fun k => [iI (a k), iI (b k)]) = AV.lst 2 n fun k => [iI (a k), iI (b k)], (AV.lst 3 M fun k => [iI (R k), iI (U k), iI (V k)]) = AV.lst 3 M fun k => [iI (R k), iI (U k), iI (V k)], (AV.lst 1 (List.length A) fun j => [iI (nthI A j)]) = AV.lst 1 (List.length A) fun j => [iI (nthI A j)], (AV.lst 1 (List.length B) fun j => [iI (nthI B j)]) = AV.lst 1 (List.length B) fun j => [iI (nthI B j)], N = N, (AV.lst 1 (List.length W) fun j => [iI (nthI W j)]) = AV.lst 1 (List.length W) fun j => [iI (nthI W j)], (↑q : Int) + (1 : Int) = (↑(q + 1) : Int)] (Tree.leaf AEx.normal)))))) (Tree.need [(AV.lst 2 n fun k => [iI (a k), iI (b k)]) = AV.lst 2 n fun k => [iI (a k), iI (b k)], (AV.lst 3 M fun k => [iI (R k), iI (U k), iI (V k)]) = AV.lst 3 M fun k => [iI (R k), iI (U k), iI (V k)], (AV.lst 1 (List.length A) fun j => [iI (nthI A j)]) = AV.lst 1 (List.length A) fun j => [iI (nthI A j)], (AV.lst 1 (List.length B) fun j => [iI (nthI B j)]) = AV.lst 1 (List.length B) fun j => [iI (nthI B j)], N = N, (AV.lst 1 (List.length W) fun j => [iI (nthI W j)]) = AV.lst 1 (List.length W) fun j => [iI (nthI W j)]] (Tree.leaf (AEx.exit 0)))) := by kernel_rfl
    rw [e]
    simp only [T_bl, out_bl, Tree.sat, Option.getD_some] at hQ
    obtain ⟨x1, x2⟩ := hx
    have hbad : q < B.length → memI A (nthI B q) A.length = false → allI (fun j => memI A (nthI B j) A.length) B.length = false := by
      intro h1 h2
      rw [← Bool.not_eq_true]
      intro h3
      have := allI_iff.1 h3 q h1
      rw [h2] at this
      cases this
    have hend : ¬ q < B.length → allI (fun j => memI A (nthI B j) A.length) B.length = true := fun h => allI_iff.2 fun j hj => x2 j (by omega)
    have hgood : memI A (nthI B q) A.length = true → ∀ j, j < q + 1 → memI A (nthI B j) A.length = true := by
      intro h1 j h3
      rcases (show j = q ∨ j < q by omega) with rfl | h
      · exact h1
      · exact x2 j h
    simp only [Tree.sat, allP, fitP, fitL, valEq, inI64, true_and, and_true, decide_eq_true_eq, decide_eq_false_iff_not, Int.toNat_natCast]
    clear e
    refine ⟨fun h => ?_, fun h => ?_⟩
    · have hq : q < B.length := by omega
      (repeat' first | with_reducible apply And.intro | with_reducible intro _)
      all_goals first | exact True.intro | omega | with_reducible rfl | (rename_i hm E hE; cases hE; exact hQ.2 (hbad hq (by simpa using hm))) | (rename_i hm j hj; exact hgood (by simpa using hm) j hj) | rfl
    · intro E hE
      cases hE
      exact hQ.1 (hend (by omega))

noncomputable def E_rl (n : Nat) (a b : Nat → Int) (M : Nat) (R U V : Nat → Int) (A B W : List Int) (N : Int) : St := (some { σ := mkS 276 [(0, scs n a b), (9, ens M R U V), (12, inl A), (14, inl B), (21, i N), (22, inl W)], m := [], nx := 901 } : Option St).getD { σ := [], m := [], nx := 0 }
noncomputable def B_rl : Code := loopBody (loopAt (bodyOf Try.f14) 1)
noncomputable def inv_rl (n : Nat) (a b : Nat → Int) (M : Nat) (R U V : Nat → Int) (A B W : List Int) (N : Int) (q : Nat) : St := { σ := ovrS [(30, .row 900), (31, i q)] (E_rl n a b M R U V A B W N).σ, m := [(900, .row 88 3 (seL W q).length (fun j => [i (selI R (seL W q) j), i (selI U (seL W q) j), i (selI V (seL W q) j)]))], nx := (E_rl n a b M R U V A B W N).nx }
noncomputable def out_rl (n : Nat) (a b : Nat → Int) (M : Nat) (R U V : Nat → Int) (A B W : List Int) (N : Int) (q : Nat) : AEx → Option St := fun ex => match ex with
  | .exit 4 => some { σ := ovrS [(30, .row 900)] (E_rl n a b M R U V A B W N).σ, m := [(900, .row 88 3 (seL W M).length (fun j => [i (selI R (seL W M) j), i (selI U (seL W M) j), i (selI V (seL W M) j)]))], nx := (E_rl n a b M R U V A B W N).nx }
  | _ => none
noncomputable def T_rl (n : Nat) (a b : Nat → Int) (M : Nat) (R U V : Nat → Int) (A B W : List Int) (N : Int) : CT := .leaf (.exit 4, ( out_rl n a b M R U V A B W N 0 (.exit 4)).getD (E_rl n a b M R U V A B W N))
noncomputable def LS_rl (n : Nat) (a b : Nat → Int) (M : Nat) (R U V : Nat → Int) (A B W : List Int) (N : Int) : LSpec := normSp [(.slot 30, 900, 88, 3)] (sumL (inv_rl n a b M R U V A B W N (0)) (T_rl n a b M R U V A B W N))
noncomputable def E_ri (n : Nat) (a b : Nat → Int) (M : Nat) (R U V : Nat → Int) (A B W : List Int) (N : Int) (q : Nat) : St := (some { σ := mkS 276 [(0, scs n a b), (9, ens M R U V), (12, inl A), (14, inl B), (21, i N), (22, inl W), (30, .row 900), (31, i q)], m := [], nx := 901 } : Option St).getD { σ := [], m := [], nx := 0 }
noncomputable def B_ri : Code := (loopBody (loopAt (loopBody (loopAt (bodyOf Try.f14) 1)) 0))
noncomputable def inv_ri (n : Nat) (a b : Nat → Int) (M : Nat) (R U V : Nat → Int) (A B W : List Int) (N : Int) (q : Nat) (o : Nat) : St := { σ := ovrS [(32, bl (memI W q o)), (33, i o)] (E_ri n a b M R U V A B W N q).σ, m := [(900, .row 88 3 (seL W q).length (fun j => [i (selI R (seL W q) j), i (selI U (seL W q) j), i (selI V (seL W q) j)]))], nx := (E_ri n a b M R U V A B W N q).nx }
noncomputable def out_ri (n : Nat) (a b : Nat → Int) (M : Nat) (R U V : Nat → Int) (A B W : List Int) (N : Int) (q : Nat) (o : Nat) : AEx → Option St := fun ex => match ex with
  | .exit 6 => some { σ := ovrS [(32, bl (memI W q W.length))] (E_ri n a b M R U V A B W N q).σ, m := [(900, .row 88 3 (seL W q).length (fun j => [i (selI R (seL W q) j), i (selI U (seL W q) j), i (selI V (seL W q) j)]))], nx := (E_ri n a b M R U V A B W N q).nx }
  | _ => none
noncomputable def T_ri (n : Nat) (a b : Nat → Int) (M : Nat) (R U V : Nat → Int) (A B W : List Int) (N : Int) (q : Nat) : CT := .leaf (.exit 6, ( out_ri n a b M R U V A B W N q 0 (.exit 6)).getD (E_ri n a b M R U V A B W N q))
noncomputable def LS_ri (n : Nat) (a b : Nat → Int) (M : Nat) (R U V : Nat → Int) (A B W : List Int) (N : Int) (q : Nat) : LSpec := normSp [] (sumL (inv_ri n a b M R U V A B W N q (0)) (T_ri n a b M R U V A B W N q))
set_option maxRecDepth 100000 in
theorem ri_ls (n : Nat) (a b : Nat → Int) (M : Nat) (R U V : Nat → Int) (A B W : List Int) (N : Int) (q : Nat) (pre0 : A.length ≤ 100000) (pre1 : B.length ≤ 100000) (pre2 : W.length ≤ 100000) (pre3 : M ≤ 100000) (pre4 : q < M) : LSound Try.prog (.loop B_ri) (LS_ri n a b M R U V A B W N q) := by
  refine loop_roundsX [] (E := { R := [], H := [] }) (G := []) (L := []) (SoundG.nil _) (SoundX.of (SoundRL.nil _) (SoundHL.nil _)) mixed noLoops (X := Nat) (inv_ri n a b M R U V A B W N q) (fun o => o ≤ W.length) (fun o => W.length - o) (out_ri n a b M R U V A B W N q) (x0 := 0) (by simp) ?_ ?_ ?_
  · rintro o
    kernel_rfl
  · rintro o y E h
    unfold out_ri at h
    split at h
    · cases h; kernel_rfl
    · cases h
  · rintro Q hQ o hx
    refine ⟨(o + 1), ?_⟩
    have e : roundX Try.prog [] { R := [], H := [] } [] [] B_ri (inv_ri n a b M R U V A B W N q o) (inv_ri n a b M R U V A B W N q ((o + 1))) (out_ri n a b M R U V A B W N q o) = (Tree.branch (decide ((↑o : Int) < (↑(List.length W) : Int))) (Tree.branch (memI W (↑q : Int) o) (Tree.need [inI64 ((↑o : Int) + (1 : Int))] (Tree.need [(AV.lst 2 n fun k => [iI (a k), iI (b k)]) = AV.lst 2 n fun k => [iI (a k), iI (b k)], (AV.lst 3 M fun k => [iI (R k), iI (U k), iI (V k)]) = AV.lst 3 M fun k => [iI (R k), iI (U k), iI (V k)], (AV.lst 1 (List.length A) fun j => [iI (nthI A j)]) = AV.lst 1 (List.length A) fun j => [iI (nthI A j)], (AV.lst 1 (List.length B) fun j => [iI (nthI B j)]) = AV.lst 1 (List.length B) fun j => [iI (nthI B j)], N = N, (AV.lst 1 (List.length W) fun j => [iI (nthI W j)]) = AV.lst 1 (List.length W) fun j => [iI (nthI W j)], AV.row 900 = AV.row 900, (↑q : Int) = (↑q : Int), true = memI W (↑q : Int) (o + 1), (↑o : Int) + (1 : Int) = (↑(o + 1) : Int), List.length (seL W q) = List.length (seL W q), ∀ (i : Nat), i < List.length (seL W q) → [Ytchcegfhamngkaa.i (selI R (seL W q) i), Ytchcegfhamngkaa.i (selI U (seL W q) i), Ytchcegfhamngkaa.i (selI V (seL W q) i)] = [Ytchcegfhamngkaa.i (selI R (seL W q) i), Ytchcegfhamngkaa.i (selI U (seL W q) i), Ytchcegfhamngkaa.i (selI V (seL W q) i)]] (Tree.leaf AEx.normal))) (Tree.need [(0 : Int) ≤ (↑o : Int) ∧ (↑o : Int) < (↑(List.length W) : Int)] (Tree.need [inI64 ((↑o : Int) + (1 : Int))] (Tree.need [(AV.lst 2 n fun k => [iI (a k), iI (b k)]) = AV.lst 2 n fun k => [iI (a k), iI (b k)], (AV.lst 3 M fun k => [iI (R k), iI (U k), iI (V k)]) = AV.lst 3 M fun k => [iI (R k), iI (U k), iI (V k)], (AV.lst 1 (List.length A) fun j => [iI (nthI A j)]) = AV.lst 1 (List.length A) fun j => [iI (nthI A j)], (AV.lst 1 (List.length B) fun j => [iI (nthI B j)]) = AV.lst 1 (List.length B) fun j => [iI (nthI B j)], N = N, (AV.lst 1 (List.length W) fun j => [iI (nthI W j)]) = AV.lst 1 (List.length W) fun j => [iI (nthI W j)], AV.row 900 = AV.row 900, (↑q : Int) = (↑q : Int), (nthI W o == (↑q : Int)) = memI W (↑q : Int) (o + 1), (↑o : Int) + (1 : Int) = (↑(o + 1) : Int), List.length (seL W q) = List.length (seL W q), ∀ (i : Nat), i < List.length (seL W q) → [Ytchcegfhamngkaa.i (selI R (seL W q) i), Ytchcegfhamngkaa.i (selI U (seL W q) i), Ytchcegfhamngkaa.i (selI V (seL W q) i)] = [Ytchcegfhamngkaa.i (selI R (seL W q) i), Ytchcegfhamngkaa.i (selI U (seL W q) i), Ytchcegfhamngkaa.i (selI V (seL W q) i)]] (Tree.leaf AEx.normal))))) (Tree.need [(AV.lst 2 n fun k => [iI (a k), iI (b k)]) = AV.lst 2 n fun k => [iI (a k), iI (b k)], (AV.lst 3 M fun k => [iI (R k), iI (U k), iI (V k)]) = AV.lst 3 M fun k => [iI (R k), iI (U k), iI (V k)], (AV.lst 1 (List.length A) fun j => [iI (nthI A j)]) = AV.lst 1 (List.length A) fun j => [iI (nthI A j)], (AV.lst 1 (List.length B) fun j => [iI (nthI B j)]) = AV.lst 1 (List.length B) fun j => [iI (nthI B j)], N = N, (AV.lst 1 (List.length W) fun j => [iI (nthI W j)]) = AV.lst 1 (List.length W) fun j => [iI (nthI W j)], AV.row 900 = AV.row 900, (↑q : Int) = (↑q : Int), memI W (↑q : Int) o = memI W (↑q : Int) (List.length W), List.length (seL W q) = List.length (seL W q), ∀ (i : Nat), i < List.length (seL W q) → [Ytchcegfhamngkaa.i (selI R (seL W q) i), Ytchcegfhamngkaa.i (selI U (seL W q) i), Ytchcegfhamngkaa.i (selI V (seL W q) i)] = [Ytchcegfhamngkaa.i (selI R (seL W q) i), Ytchcegfhamngkaa.i (selI U (seL W q) i), Ytchcegfhamngkaa.i (selI V (seL W q) i)]] (Tree.leaf (AEx.exit 6)))) := by kernel_rfl
    rw [e]
    simp only [T_ri, out_ri, Tree.sat, Option.getD_some] at hQ
    have ms := memI_succ W q o
    simp only [Tree.sat, allP, fitP, fitL, valEq, inI64, true_and, and_true, decide_eq_true_eq, decide_eq_false_iff_not, Int.toNat_natCast]
    clear e
    refine ⟨fun h => ⟨fun h2 => ?_, fun h2 => ?_⟩, fun h => ?_⟩
    · rw [ms, h2, Bool.true_or]
      (repeat' first | with_reducible apply And.intro | with_reducible intro _)
      all_goals first | exact True.intro | omega | with_reducible rfl | rfl
    · rw [ms, h2, Bool.false_or]
      (repeat' first | with_reducible apply And.intro | with_reducible intro _)
      all_goals first | exact True.intro | omega | with_reducible rfl | rfl
    · obtain rfl : o = W.length := by omega
      (repeat' first | with_reducible apply And.intro | with_reducible intro _)
      all_goals first | exact True.intro | omega | with_reducible rfl | (rename_i E hE; cases hE; exact hQ) | rfl

set_option maxRecDepth 100000 in
theorem rl_ls (n : Nat) (a b : Nat → Int) (M : Nat) (R U V : Nat → Int) (A B W : List Int) (N : Int) (pre0 : A.length ≤ 100000) (pre1 : B.length ≤ 100000) (pre2 : W.length ≤ 100000) (pre3 : M ≤ 100000) : LSound Try.prog (.loop B_rl) (LS_rl n a b M R U V A B W N) := by
  refine loop_roundsX [(.slot 30, 900, 88, 3)] (E := { R := [], H := [] }) (G := []) (L := [depSp 31 (fun k => needSp [k < M] (LS_ri n a b M R U V A B W N k))]) (SoundG.nil _) (SoundX.of (SoundRL.nil _) (SoundHL.nil _)) mixed (one_loop (fun cj hcj => by
    have e : loopAt B_rl 0 = some (.loop B_ri) := by kernel_rfl
    rw [e] at hcj; cases hcj
    exact depSp_sound (fun k => needSp_sound (ps := [k < M]) (fun h => ri_ls n a b M R U V A B W N k pre0 pre1 pre2 pre3 h)))) (X := Nat) (inv_rl n a b M R U V A B W N) (fun q => q ≤ M) (fun q => M - q) (out_rl n a b M R U V A B W N) (x0 := 0) (by simp) ?_ ?_ ?_
  · rintro q
    kernel_rfl
  · rintro q y E h
    unfold out_rl at h
    split at h
    · cases h; kernel_rfl
    · cases h
  · rintro Q hQ q hx
    refine ⟨(q + 1), ?_⟩
    have e : roundX Try.prog [] { R := [], H := [] } [depSp 31 (fun k => needSp [k < M] (LS_ri n a b M R U V A B W N k))] [(.slot 30, 900, 88, 3)] B_rl (inv_rl n a b M R U V A B W N q) (inv_rl n a b M R U V A B W N ((q + 1))) (out_rl n a b M R U V A B W N q) = (Tree.branch (decide ((↑q : Int) < (↑M : Int))) (Tree.need [q < M] (Tree.need [(AV.lst 2 n fun k => [iI (a k), iI (b k)]) = AV.lst 2 n fun k => [iI (a k), iI (b k)], (AV.lst 3 M fun k => [iI (R k), iI (U k), iI (V k)]) = AV.lst 3 M fun k => [iI (R k), iI (U k), iI (V k)], (AV.lst 1 (List.length A) fun j => [iI (nthI A j)]) = AV.lst 1 (List.length A) fun j => [iI (nthI A j)], (AV.lst 1 (List.length B) fun j => [iI (nthI B j)]) = AV.lst 1 (List.length B) fun j => [iI (nthI B j)], N = N, (AV.lst 1 (List.length W) fun j => [iI (nthI W j)]) = AV.lst 1 (List.length W) fun j => [iI (nthI W j)], AV.row 900 = AV.row 900, (↑q : Int) = (↑q : Int), false = memI W (↑q : Int) 0, (0 : Int) = (↑(0 : Nat) : Int), List.length (seL W q) = List.length (seL W q), ∀ (i : Nat), i < List.length (seL W q) → [Ytchcegfhamngkaa.i (selI R (seL W q) i), Ytchcegfhamngkaa.i (selI U (seL W q) i), Ytchcegfhamngkaa.i (selI V (seL W q) i)] = [Ytchcegfhamngkaa.i (selI R (seL W q) i), Ytchcegfhamngkaa.i (selI U (seL W q) i), Ytchcegfhamngkaa.i (selI V (seL W q) i)]] (Tree.branch (!memI W (↑q : Int) (List.length W)) (Tree.need [(0 : Int) ≤ (↑q : Int) ∧ (↑q : Int) < (↑M : Int)] (Tree.need [(List.length (seL W q) + 1) * 24 ≤ 140737488355328, ∀ (i : Nat), i < 1 → ∀ (a : AV), a ∈ chunk 3 [iI (R q), iI (U q), iI (V q)] i → AV.one a = true] (Tree.need [inI64 ((↑q : Int) + (1 : Int))] (Tree.need [(AV.lst 2 n fun k => [iI (a k), iI (b k)]) = AV.lst 2 n fun k => [iI (a k), iI (b k)], (AV.lst 3 M fun k => [iI (R k), iI (U k), iI (V k)]) = AV.lst 3 M fun k => [iI (R k), iI (U k), iI (V k)], (AV.lst 1 (List.length A) fun j => [iI (nthI A j)]) = AV.lst 1 (List.length A) fun j => [iI (nthI A j)], (AV.lst 1 (List.length B) fun j => [iI (nthI B j)]) = AV.lst 1 (List.length B) fun j => [iI (nthI B j)], N = N, (AV.lst 1 (List.length W) fun j => [iI (nthI W j)]) = AV.lst 1 (List.length W) fun j => [iI (nthI W j)], AV.row 900 = AV.row 900, (↑q : Int) + (1 : Int) = (↑(q + 1) : Int), List.length (seL W q) + 1 = List.length (seL W (q + 1)), ∀ (i : Nat), i < List.length (seL W (q + 1)) → catF (List.length (seL W q)) (fun j => [Ytchcegfhamngkaa.i (selI R (seL W q) j), Ytchcegfhamngkaa.i (selI U (seL W q) j), Ytchcegfhamngkaa.i (selI V (seL W q) j)]) (chunk 3 [iI (R q), iI (U q), iI (V q)]) i = [Ytchcegfhamngkaa.i (selI R (seL W (q + 1)) i), Ytchcegfhamngkaa.i (selI U (seL W (q + 1)) i), Ytchcegfhamngkaa.i (selI V (seL W (q + 1)) i)]] (Tree.leaf AEx.normal))))) (Tree.need [inI64 ((↑q : Int) + (1 : Int))] (Tree.need [(AV.lst 2 n fun k => [iI (a k), iI (b k)]) = AV.lst 2 n fun k => [iI (a k), iI (b k)], (AV.lst 3 M fun k => [iI (R k), iI (U k), iI (V k)]) = AV.lst 3 M fun k => [iI (R k), iI (U k), iI (V k)], (AV.lst 1 (List.length A) fun j => [iI (nthI A j)]) = AV.lst 1 (List.length A) fun j => [iI (nthI A j)], (AV.lst 1 (List.length B) fun j => [iI (nthI B j)]) = AV.lst 1 (List.length B) fun j => [iI (nthI B j)], N = N, (AV.lst 1 (List.length W) fun j => [iI (nthI W j)]) = AV.lst 1 (List.length W) fun j => [iI (nthI W j)], AV.row 900 = AV.row 900, (↑q : Int) + (1 : Int) = (↑(q + 1) : Int), List.length (seL W q) = List.length (seL W (q + 1)), ∀ (i : Nat), i < List.length (seL W (q + 1)) → [Ytchcegfhamngkaa.i (selI R (seL W q) i), Ytchcegfhamngkaa.i (selI U (seL W q) i), Ytchcegfhamngkaa.i (selI V (seL W q) i)] = [Ytchcegfhamngkaa.i (selI R (seL W (q + 1)) i), Ytchcegfhamngkaa.i (selI U (seL W (q + 1)) i), Ytchcegfhamngkaa.i (selI V (seL W (q + 1)) i)]] (Tree.leaf AEx.normal)))))) (Tree.need [(AV.lst 2 n fun k => [iI (a k), iI (b k)]) = AV.lst 2 n fun k => [iI (a k), iI (b k)], (AV.lst 3 M fun k => [iI (R k), iI (U k), iI (V k)]) = AV.lst 3 M fun k => [iI (R k), iI (U k), iI (V k)], (AV.lst 1 (List.length A) fun j => [iI (nthI A j)]) = AV.lst 1 (List.length A) fun j => [iI (nthI A j)], (AV.lst 1 (List.length B) fun j => [iI (nthI B j)]) = AV.lst 1 (List.length B) fun j => [iI (nthI B j)], N = N, (AV.lst 1 (List.length W) fun j => [iI (nthI W j)]) = AV.lst 1 (List.length W) fun j => [iI (nthI W j)], AV.row 900 = AV.row 900, List.length (seL W q) = List.length (seL W M), ∀ (i : Nat), i < List.length (seL W M) → [Ytchcegfhamngkaa.i (selI R (seL W q) i), Ytchcegfhamngkaa.i (selI U (seL W q) i), Ytchcegfhamngkaa.i (selI V (seL W q) i)] = [Ytchcegfhamngkaa.i (selI R (seL W M) i), Ytchcegfhamngkaa.i (selI U (seL W M) i), Ytchcegfhamngkaa.i (selI V (seL W M) i)]] (Tree.leaf (AEx.exit 4)))) := by kernel_rfl
    rw [e]
    simp only [T_rl, out_rl, Tree.sat, Option.getD_some] at hQ
    have hs : seL W (q + 1) = if memI W q W.length then seL W q else seL W q ++ [(q : Int)] := rfl
    have hl := seL_len W q
    simp only [Tree.sat, allP, fitP, fitL, valEq, inI64, true_and, and_true, decide_eq_true_eq, decide_eq_false_iff_not, Int.toNat_natCast]
    clear e
    refine ⟨fun h => ?_, fun h => ?_⟩
    · have hq : q < M := by omega
      refine ⟨hq, ⟨rfl, rfl, fun _ _ => True.intro⟩, fun h2 => ?_, fun h2 => ?_⟩
      rotate_left
      · have h2' : memI W q W.length = true := by simpa using h2
        rw [if_pos h2'] at hs
        rw [hs]
        (repeat' first | with_reducible apply And.intro | with_reducible intro _)
        all_goals first | exact True.intro | omega | with_reducible rfl | rfl
      · have h2' : ¬ memI W q W.length = true := by simpa using h2
        rw [if_neg h2'] at hs
        rw [hs, List.length_append]
        (repeat' first | with_reducible apply And.intro | with_reducible intro _)
        all_goals first | exact True.intro | omega | with_reducible rfl | exact one_of (by assumption) (by simp [AV.one, Value.oneCell']) | exact catI (by assumption) | rfl
    · obtain rfl : q = M := by omega
      (repeat' first | with_reducible apply And.intro | with_reducible intro _)
      all_goals first | exact True.intro | omega | with_reducible rfl | (rename_i E hE; cases hE; exact hQ) | rfl


theorem mrg3 (c : Bool) (x y z x' y' z' : Int) : mergeL c [iI x, iI y, iI z] [iI x', iI y', iI z'] = if c then [iI x, iI y, iI z] else [iI x', iI y', iI z'] := by cases c <;> rfl
theorem cat03 (r u v : Nat → Int) (j : Nat) : catF 0 (fun _ => []) (fun k => [i (r k), i (u k), i (v k)]) j = [i (r j), i (u j), i (v j)] := by
  show mergeL (decide (j < 0)) [] [i (r (j - 0)), i (u (j - 0)), i (v (j - 0))] = _
  rw [show decide (j < 0) = false by simp]
  rfl
theorem catE3 {m j : Nat} {r u v : Nat → Int} {x y z : Int} (h : j < m + 1) : catF (0 + m) (catF 0 (fun _ => []) fun k => [i (r k), i (u k), i (v k)]) (chunk 3 [i x, i y, i z]) j = [i (exI m r x j), i (exI m u y j), i (exI m v z j)] := by
  show mergeL (decide (j < 0 + m)) (catF 0 (fun _ => []) (fun k => [i (r k), i (u k), i (v k)]) j) (chunk 3 [i x, i y, i z] (j - (0 + m))) = _
  rw [cat03, show j - (0 + m) = 0 by omega]
  unfold exI
  by_cases hj : j < m
  · rw [decide_eq_true (by omega), if_pos hj, if_pos hj, if_pos hj]; rfl
  · rw [decide_eq_false (by omega), if_neg hj, if_neg hj, if_neg hj]; rfl
theorem catT3 {M K j : Nat} {r u v : Nat → Int} : catF (0 + (M - K)) (catF 0 (fun _ => []) fun q => [i (r (K + q)), i (u (K + q)), i (v (K + q))]) (fun q => [i (r (Int.toNat 0 + q)), i (u (Int.toNat 0 + q)), i (v (Int.toNat 0 + q))]) j = [i (tuI M K r j), i (tuI M K u j), i (tuI M K v j)] := by
  show mergeL (decide (j < 0 + (M - K))) (catF 0 (fun _ => []) (fun q => [i (r (K + q)), i (u (K + q)), i (v (K + q))]) j) [i (r (Int.toNat 0 + (j - (0 + (M - K))))), i (u (Int.toNat 0 + (j - (0 + (M - K))))), i (v (Int.toNat 0 + (j - (0 + (M - K)))))] = _
  rw [cat03 (fun q => r (K + q)) (fun q => u (K + q)) (fun q => v (K + q)) j, show Int.toNat 0 + (j - (0 + (M - K))) = j - (M - K) by simp]
  unfold tuI tuN
  by_cases hj : j < M - K
  · rw [decide_eq_true (by omega), if_pos hj]; rfl
  · rw [decide_eq_false (by omega), if_neg hj]; rfl
theorem ones3 (x y z : Int) : ∀ a ∈ [i x, i y, i z], AV.one a = true := by
  intro a ha
  rcases (show a = i x ∨ a = i y ∨ a = i z by simpa using ha) with rfl | rfl | rfl <;> rfl


theorem two_loopsN {P : Program} {c : Code} {s0 s1 : LSpec} (h0 : ∀ cj, loopAt c 0 = some cj → LSoundN P cj s0) (h1 : ∀ cj, loopAt c 1 = some cj → LSoundN P cj s1) :
    ∀ j cj, loopAt c j = some cj → ∀ sp, [s0, s1][j]? = some sp → LSoundN P cj sp := by
  intro j cj hj sp hsp
  match j with
  | 0 => simp at hsp; subst hsp; exact h0 cj hj
  | 1 => simp at hsp; subst hsp; exact h1 cj hj
  | j + 2 => simp at hsp


def S_diaried2 : Sx.Spec := fun l => match l with
  | [.lst 2 n f, .lst 3 m g] => some ([isRec 2 n f, isRec 3 m g], i (ddE n m (col 0 f) (col 1 f) (col 0 g) (col 1 g) (col 2 g)))
  | _ => none

set_option maxRecDepth 100000 in
theorem diaried2_at (n m : Nat) (a b r u v : Nat → Int) : SoundAt Try.prog 46 [scs n a b, ens m r u v] (i (ddE n m a b r u v)) := by
  refine soundAt_fin (G := [(20, S_scaled), (75, S_rIsEntry)]) (L := [needSp [m ≤ 100000, n ≤ 8] (LS_dd n m a b r u v)]) (SoundG.cons scaled_ok (SoundG.cons rIsEntry_ok (SoundG.nil _))) mixed Try.func46 (show Try.f46.body = some (bodyOf Try.f46) by kernel_rfl) (one_loop (fun cj hcj => by
    have e : loopAt (bodyOf Try.f46) 0 = some (.loop B_dd) := by kernel_rfl
    rw [e] at hcj; cases hcj
    exact needSp_sound (fun h => dd_ls n m a b r u v h.1 h.2))) (t := (Tree.branch (decide ((↑n : Int) > (8 : Int))) (Tree.leaf (RV.x (Value.int IntKind.i64 (3 : Int)))) (Tree.branch (decide ((↑m : Int) > (12 : Int))) (Tree.leaf (RV.x (Value.int IntKind.i64 (3 : Int)))) (Tree.need [isRec 2 n fun k => [i (a k), i (b k)], n ≤ 100000] (Tree.branch (sdE n a b (0 : Int) (0 : Int) != (0 : Int)) (Tree.leaf (RV.x (Value.int IntKind.i64 (sdE n a b (0 : Int) (0 : Int))))) (Tree.need [m ≤ 100000, n ≤ 8] (Tree.need [(AV.lst 2 n fun k => [iI (a k), iI (b k)]) = AV.lst 2 n fun k => [iI (a k), iI (b k)], (AV.lst 3 m fun k => [iI (r k), iI (u k), iI (v k)]) = AV.lst 3 m fun k => [iI (r k), iI (u k), iI (v k)], sdE n a b (0 : Int) (0 : Int) = sdE n a b (0 : Int) (0 : Int), (0 : Int) = (↑(0 : Nat) : Int)] (Tree.branch (allI (fun k => enB (r k) (u k) (v k)) m) (Tree.leaf (RV.x (Value.int IntKind.i64 (0 : Int)))) (Tree.leaf (RV.x (Value.int IntKind.i64 (2 : Int)))))))))))) (by kernel_rfl) ?_
  simp only [Tree.sat, allP, fitP, fitL, valEq, inI64, true_and, and_true, decide_eq_true_eq, decide_eq_false_iff_not, Int.natCast_zero, Int.toNat_natCast, col20, col21, col30, col31, col32, ddE]
  refine ⟨fun h => ?_, fun h => ⟨fun h2 => ?_, fun h2 => ⟨⟨isRec2 n a b, by omega⟩, fun h3 => ?_, fun h3 => ?_⟩⟩⟩
  · rw [if_pos (by omega)]
  · rw [if_pos (by omega)]
  · rw [if_neg (by omega)]
    have e : ¬ 8 < n := by omega
    cases hA : allS n a b
    · simp [sdE, e, hA]
    · simp [sdE, e, hA, insB] at h3
  · rw [if_neg (by omega)]
    have e : ¬ 8 < n := by omega
    cases hA : allS n a b
    · simp [sdE, e, hA] at h3
    · refine ⟨⟨by omega, by omega⟩, fun h4 => ?_, fun h4 => ?_⟩
      · simp [h4]
      · simp [h4]


theorem diaried2_ok : SoundSpec Try.prog 46 S_diaried2 := by
  refine ⟨⟨_, Try.func46, by kernel_rfl, by kernel_rfl⟩, ?_⟩
  intro avs ns res h hn
  unfold S_diaried2 at h
  split at h
  · rename_i n f m g
    cases h
    have hr : isRec 2 n f := hn _ (by simp)
    have hr2 : isRec 3 m g := hn _ (by simp)
    exact (diaried2_at n m (col 0 f) (col 1 f) (col 0 g) (col 1 g) (col 2 g)).same (.cons (.lst 2 n _ _ hr) (.cons (.lst 3 m _ _ hr2) .nil))
  · cases h

noncomputable def K2_PointDiaries (n m : Nat) (a b r u v : Nat → Int) (rr uu vv by_ : Int) : St := { σ := mkS 276 [(0, scs n a b), (1, ens m r u v), (9, ens (m + 1) (exI m r rr) (exI m u uu) (exI m v vv)), (11, .row 901)], m := [(901, .row 88 3 (m + 1) (fun k => [i ((tuI (m + 1) (by_.tmod ((m + 1 : Nat) : Int)).toNat (exI m r rr)) k), i ((tuI (m + 1) (by_.tmod ((m + 1 : Nat) : Int)).toNat (exI m u uu)) k), i ((tuI (m + 1) (by_.tmod ((m + 1 : Nat) : Int)).toNat (exI m v vv)) k)]))], nx := 4000 }
noncomputable def K1_PointDiaries (n m : Nat) (a b r u v : Nat → Int) (rr uu vv by_ : Int) : St := { σ := mkS 276 [(0, scs n a b), (1, ens m r u v), (3, .x (.int .u8 by_)), (9, ens (m + 1) (exI m r rr) (exI m u uu) (exI m v vv))], m := [], nx := 3000 }
noncomputable def K0_PointDiaries (n m : Nat) (a b r u v : Nat → Int) (rr uu vv by_ : Int) : St := { σ := mkS 276 [(0, scs n a b), (1, ens m r u v), (3, .x (.int .u8 by_)), (9, .row 900)], m := [(900, .row 88 3 (m + 1) (fun k => [i ((exI m r rr) k), i ((exI m u uu) k), i ((exI m v vv) k)]))], nx := 2000 }
set_option maxRecDepth 100000 in
theorem PointDiaries_at (n m : Nat) (a b r u v : Nat → Int) (rr uu vv by_ : Int) (pre0 : m * 24 ≤ 140737488351232) (pre1 : 0 ≤ by_ ∧ by_ ≤ 255) : SoundAt Try.prog 14 [scs n a b, ens m r u v, .agg [i rr, i uu, i vv], .x (.int .u8 by_)] (bl true) := by
  have hG : SoundG Try.prog [(46, S_diaried2), (18, S_lScales), (44, S_lDiary), (43, S_Kinds), (48, S_ints), (16, S_wakes), (23, S_lScale)] := (SoundG.cons diaried2_ok (SoundG.cons lScales_ok (SoundG.cons lDiary_ok (SoundG.cons Kinds_ok (SoundG.cons ints_ok (SoundG.cons wakes_ok (SoundG.cons lScale_ok (SoundG.nil _))))))))
  have hX : ∀ cx, SoundX Try.prog { R := [(45, S_Wrong)], H := [] } cx := (SoundX.of (SoundRL.cons Wrong_okR (SoundRL.nil _)) (SoundHL.nil _))
  have hmix : Try.prog.follows .mixedOrders = true := mixed
  refine soundAt_cutE (L := [needSp [(kdL n m a b r u v).length ≤ 100000, (kdL n (m + 1) a b (exI m r rr) (exI m u uu) (exI m v vv)).length ≤ 100000, (wgL n (m + 1) a b (exI m r rr) (exI m u uu) (exI m v vv)).length ≤ 100000, m + 1 ≤ 100000] (LS_bl n a b (m + 1) (exI m r rr) (exI m u uu) (exI m v vv) (kdL n m a b r u v) (kdL n (m + 1) a b (exI m r rr) (exI m u uu) (exI m v vv)) (wgL n (m + 1) a b (exI m r rr) (exI m u uu) (exI m v vv)) (wgN n (m + 1) a b (exI m r rr) (exI m u uu) (exI m v vv))), needSp [(kdL n m a b r u v).length ≤ 100000, (kdL n (m + 1) a b (exI m r rr) (exI m u uu) (exI m v vv)).length ≤ 100000, (wgL n (m + 1) a b (exI m r rr) (exI m u uu) (exI m v vv)).length ≤ 100000, m + 1 ≤ 100000] (LS_rl n a b (m + 1) (exI m r rr) (exI m u uu) (exI m v vv) (kdL n m a b r u v) (kdL n (m + 1) a b (exI m r rr) (exI m u uu) (exI m v vv)) (wgL n (m + 1) a b (exI m r rr) (exI m u uu) (exI m v vv)) (wgN n (m + 1) a b (exI m r rr) (exI m u uu) (exI m v vv)))]) Try.func14 (show Try.f14.body = some (bodyOf Try.f14) by kernel_rfl) (fun cx => (codeK_ev (N := [(.slot 9, 900, 88, 3)]) (s2 := K0_PointDiaries n m a b r u v rr uu vv by_) hG (hX cx) hmix (codeK_ev (N := [(.slot 9, 900, 0, 0)]) (s2 := K1_PointDiaries n m a b r u v rr uu vv by_) hG (hX cx) hmix (codeK_ev (N := [(.slot 11, 901, 88, 3)]) (s2 := K2_PointDiaries n m a b r u v rr uu vv by_) hG (hX cx) hmix (codeX_ev hG (hX cx) hmix) (by kernel_rfl) 3) (by kernel_rfl) 0) (by kernel_rfl) 2)) (two_loopsN (fun cj hcj => by
    have e : loopAt (bodyOf Try.f14) 0 = some (.loop B_bl) := by kernel_rfl
    rw [e] at hcj; cases hcj
    exact (needSp_sound (ps := [(kdL n m a b r u v).length ≤ 100000, (kdL n (m + 1) a b (exI m r rr) (exI m u uu) (exI m v vv)).length ≤ 100000, (wgL n (m + 1) a b (exI m r rr) (exI m u uu) (exI m v vv)).length ≤ 100000, m + 1 ≤ 100000]) (fun h => bl_ls n a b (m + 1) (exI m r rr) (exI m u uu) (exI m v vv) (kdL n m a b r u v) (kdL n (m + 1) a b (exI m r rr) (exI m u uu) (exI m v vv)) (wgL n (m + 1) a b (exI m r rr) (exI m u uu) (exI m v vv)) (wgN n (m + 1) a b (exI m r rr) (exI m u uu) (exI m v vv)) h.1 h.2.1 h.2.2.1 h.2.2.2)).N) (fun cj hcj => by
    have e : loopAt (bodyOf Try.f14) 1 = some (.loop B_rl) := by kernel_rfl
    rw [e] at hcj; cases hcj
    exact (needSp_sound (ps := [(kdL n m a b r u v).length ≤ 100000, (kdL n (m + 1) a b (exI m r rr) (exI m u uu) (exI m v vv)).length ≤ 100000, (wgL n (m + 1) a b (exI m r rr) (exI m u uu) (exI m v vv)).length ≤ 100000, m + 1 ≤ 100000]) (fun h => rl_ls n a b (m + 1) (exI m r rr) (exI m u uu) (exI m v vv) (kdL n m a b r u v) (kdL n (m + 1) a b (exI m r rr) (exI m u uu) (exI m v vv)) (wgL n (m + 1) a b (exI m r rr) (exI m u uu) (exI m v vv)) (wgN n (m + 1) a b (exI m r rr) (exI m u uu) (exI m v vv)) h.1 h.2.1 h.2.2.1 h.2.2.2)).N)) (t := (Tree.need [(0 + m) * 24 ≤ 140737488355328, ∀ (i : Nat), i < m → ∀ (a : AV), a ∈ [Ytchcegfhamngkaa.i (r i), Ytchcegfhamngkaa.i (u i), Ytchcegfhamngkaa.i (v i)] → AV.one a = true] (Tree.need [(0 + m + 1) * 24 ≤ 140737488355328, ∀ (i : Nat), i < 1 → ∀ (a : AV), a ∈ chunk 3 [iI rr, iI uu, iI vv] i → AV.one a = true] (Tree.need [(AV.lst 2 n fun k => [iI (a k), iI (b k)]) = AV.lst 2 n fun k => [iI (a k), iI (b k)], (AV.lst 3 m fun k => [iI (r k), iI (u k), iI (v k)]) = AV.lst 3 m fun k => [iI (r k), iI (u k), iI (v k)], by_ = by_, AV.row 900 = AV.row 900, 0 + m + 1 = m + 1, ∀ (i : Nat), i < m + 1 → catF (0 + m) (catF 0 (fun x => []) fun k => [Ytchcegfhamngkaa.i (r k), Ytchcegfhamngkaa.i (u k), Ytchcegfhamngkaa.i (v k)]) (chunk 3 [iI rr, iI uu, iI vv]) i = [Ytchcegfhamngkaa.i (exI m r rr i), Ytchcegfhamngkaa.i (exI m u uu i), Ytchcegfhamngkaa.i (exI m v vv i)]] (Tree.need [(AV.lst 2 n fun k => [iI (a k), iI (b k)]) = AV.lst 2 n fun k => [iI (a k), iI (b k)], (AV.lst 3 m fun k => [iI (r k), iI (u k), iI (v k)]) = AV.lst 3 m fun k => [iI (r k), iI (u k), iI (v k)], by_ = by_, (AV.lst 3 (m + 1) fun k => [iI (exI m r rr k), iI (exI m u uu k), iI (exI m v vv k)]) = AV.lst 3 (m + 1) fun k => [iI (exI m r rr k), iI (exI m u uu k), iI (exI m v vv k)]] (Tree.branch ((↑n : Int) == (0 : Int)) (Tree.leaf (RV.x (Value.bool true))) (Tree.branch (decide ((↑m : Int) > (11 : Int))) (Tree.leaf (RV.x (Value.bool true))) (Tree.need [isRec 2 n fun k => [i (a k), i (b k)], isRec 3 (m + 1) fun k => [i (exI m r rr k), i (exI m u uu k), i (exI m v vv k)]] (Tree.branch (ddE n (m + 1) a b (exI m r rr) (exI m u uu) (exI m v vv) != (0 : Int)) (Tree.leaf (RV.x (Value.bool true))) (Tree.need [inI64 by_] (Tree.need [(↑(m + 1) : Int) ≠ (0 : Int)] (Tree.need [(0 : Int) ≤ Int.tmod by_ (↑(m + 1) : Int) ∧ Int.tmod by_ (↑(m + 1) : Int) ≤ (↑(m + 1) : Int) ∧ (↑(m + 1) : Int) ≤ (↑(m + 1) : Int)] (Tree.need [(0 + (m + 1 - Int.toNat (Int.tmod by_ (↑(m + 1) : Int)))) * 24 ≤ 140737488355328, ∀ (i : Nat), i < m + 1 - Int.toNat (Int.tmod by_ (↑(m + 1) : Int)) → ∀ (a : AV), a ∈ [Ytchcegfhamngkaa.i (exI m r rr (Int.toNat (Int.tmod by_ (↑(m + 1) : Int)) + i)), Ytchcegfhamngkaa.i (exI m u uu (Int.toNat (Int.tmod by_ (↑(m + 1) : Int)) + i)), Ytchcegfhamngkaa.i (exI m v vv (Int.toNat (Int.tmod by_ (↑(m + 1) : Int)) + i))] → AV.one a = true] (Tree.need [(0 : Int) ≤ (0 : Int) ∧ (0 : Int) ≤ Int.tmod by_ (↑(m + 1) : Int) ∧ Int.tmod by_ (↑(m + 1) : Int) ≤ (↑(m + 1) : Int)] (Tree.need [(0 + (m + 1 - Int.toNat (Int.tmod by_ (↑(m + 1) : Int))) + (Int.toNat (Int.tmod by_ (↑(m + 1) : Int)) - Int.toNat (0 : Int))) * 24 ≤ 140737488355328, ∀ (i : Nat), i < Int.toNat (Int.tmod by_ (↑(m + 1) : Int)) - Int.toNat (0 : Int) → ∀ (a : AV), a ∈ [Ytchcegfhamngkaa.i (exI m r rr (Int.toNat (0 : Int) + i)), Ytchcegfhamngkaa.i (exI m u uu (Int.toNat (0 : Int) + i)), Ytchcegfhamngkaa.i (exI m v vv (Int.toNat (0 : Int) + i))] → AV.one a = true] (Tree.need [(AV.lst 2 n fun k => [iI (a k), iI (b k)]) = AV.lst 2 n fun k => [iI (a k), iI (b k)], (AV.lst 3 m fun k => [iI (r k), iI (u k), iI (v k)]) = AV.lst 3 m fun k => [iI (r k), iI (u k), iI (v k)], (AV.lst 3 (m + 1) fun k => [iI (exI m r rr k), iI (exI m u uu k), iI (exI m v vv k)]) = AV.lst 3 (m + 1) fun k => [iI (exI m r rr k), iI (exI m u uu k), iI (exI m v vv k)], AV.row 901 = AV.row 901, 0 + (m + 1 - Int.toNat (Int.tmod by_ (↑(m + 1) : Int))) + (Int.toNat (Int.tmod by_ (↑(m + 1) : Int)) - Int.toNat (0 : Int)) = m + 1, ∀ (i : Nat), i < m + 1 → catF (0 + (m + 1 - Int.toNat (Int.tmod by_ (↑(m + 1) : Int)))) (catF 0 (fun x => []) fun i => [Ytchcegfhamngkaa.i (exI m r rr (Int.toNat (Int.tmod by_ (↑(m + 1) : Int)) + i)), Ytchcegfhamngkaa.i (exI m u uu (Int.toNat (Int.tmod by_ (↑(m + 1) : Int)) + i)), Ytchcegfhamngkaa.i (exI m v vv (Int.toNat (Int.tmod by_ (↑(m + 1) : Int)) + i))]) (fun i => [Ytchcegfhamngkaa.i (exI m r rr (Int.toNat (0 : Int) + i)), Ytchcegfhamngkaa.i (exI m u uu (Int.toNat (0 : Int) + i)), Ytchcegfhamngkaa.i (exI m v vv (Int.toNat (0 : Int) + i))]) i = [Ytchcegfhamngkaa.i (tuI (m + 1) (Int.toNat (Int.tmod by_ (↑(m + 1) : Int))) (exI m r rr) i), Ytchcegfhamngkaa.i (tuI (m + 1) (Int.toNat (Int.tmod by_ (↑(m + 1) : Int))) (exI m u uu) i), Ytchcegfhamngkaa.i (tuI (m + 1) (Int.toNat (Int.tmod by_ (↑(m + 1) : Int))) (exI m v vv) i)]] (Tree.need [isRec 2 n fun k => [i (a k), i (b k)], n ≤ 100000] (Tree.need [isRec 3 m fun k => [i (r k), i (u k), i (v k)], m ≤ 100000] (Tree.need [isRec 2 n fun k => [i (a k), i (b k)], isRec 3 m fun k => [i (r k), i (u k), i (v k)], n ≤ 100000, m ≤ 100000] (Tree.need [isRec 2 n fun k => [i (a k), i (b k)], n ≤ 100000] (Tree.need [isRec 3 (m + 1) fun k => [i (exI m r rr k), i (exI m u uu k), i (exI m v vv k)], m + 1 ≤ 100000] (Tree.need [isRec 2 n fun k => [i (a k), i (b k)], isRec 3 (m + 1) fun k => [i (exI m r rr k), i (exI m u uu k), i (exI m v vv k)], n ≤ 100000, m + 1 ≤ 100000] (Tree.need [isRec 2 n fun k => [i (a k), i (b k)], n ≤ 100000] (Tree.need [isRec 3 (m + 1) fun k => [i (tuI (m + 1) (Int.toNat (Int.tmod by_ (↑(m + 1) : Int))) (exI m r rr) k), i (tuI (m + 1) (Int.toNat (Int.tmod by_ (↑(m + 1) : Int))) (exI m u uu) k), i (tuI (m + 1) (Int.toNat (Int.tmod by_ (↑(m + 1) : Int))) (exI m v vv) k)], m + 1 ≤ 100000] (Tree.need [isRec 2 n fun k => [i (a k), i (b k)], isRec 3 (m + 1) fun k => [i (tuI (m + 1) (Int.toNat (Int.tmod by_ (↑(m + 1) : Int))) (exI m r rr) k), i (tuI (m + 1) (Int.toNat (Int.tmod by_ (↑(m + 1) : Int))) (exI m u uu) k), i (tuI (m + 1) (Int.toNat (Int.tmod by_ (↑(m + 1) : Int))) (exI m v vv) k)], n ≤ 100000, m + 1 ≤ 100000] (Tree.need [isRec 2 n fun k => [i (a k), i (b k)], n ≤ 100000] (Tree.need [isRec 3 m fun k => [i (r k), i (u k), i (v k)], m ≤ 100000] (Tree.need [isRec 2 n fun k => [i (a k), i (b k)], isRec 3 m fun k => [i (r k), i (u k), i (v k)], n ≤ 100000, m ≤ 100000] (Tree.need [isRec 2 n fun k => [i (a k), i (b k)], n ≤ 100000] (Tree.need [isRec 3 (m + 1) fun k => [i (exI m r rr k), i (exI m u uu k), i (exI m v vv k)], m + 1 ≤ 100000] (Tree.need [isRec 2 n fun k => [i (a k), i (b k)], isRec 3 (m + 1) fun k => [i (exI m r rr k), i (exI m u uu k), i (exI m v vv k)], n ≤ 100000, m + 1 ≤ 100000] (Tree.need [isRec 2 n fun k => [i (a k), i (b k)], n ≤ 100000] (Tree.need [isRec 3 (m + 1) fun k => [i (tuI (m + 1) (Int.toNat (Int.tmod by_ (↑(m + 1) : Int))) (exI m r rr) k), i (tuI (m + 1) (Int.toNat (Int.tmod by_ (↑(m + 1) : Int))) (exI m u uu) k), i (tuI (m + 1) (Int.toNat (Int.tmod by_ (↑(m + 1) : Int))) (exI m v vv) k)], m + 1 ≤ 100000] (Tree.need [isRec 2 n fun k => [i (a k), i (b k)], isRec 3 (m + 1) fun k => [i (tuI (m + 1) (Int.toNat (Int.tmod by_ (↑(m + 1) : Int))) (exI m r rr) k), i (tuI (m + 1) (Int.toNat (Int.tmod by_ (↑(m + 1) : Int))) (exI m u uu) k), i (tuI (m + 1) (Int.toNat (Int.tmod by_ (↑(m + 1) : Int))) (exI m v vv) k)], n ≤ 100000, m + 1 ≤ 100000] (Tree.branch (ddE n m a b r u v != (0 : Int)) (Tree.leaf (RV.x (Value.bool false))) (Tree.branch (ddE n (m + 1) a b (exI m r rr) (exI m u uu) (exI m v vv) != (0 : Int)) (Tree.leaf (RV.x (Value.bool false))) (Tree.branch (ddE n (m + 1) a b (tuI (m + 1) (Int.toNat (Int.tmod by_ (↑(m + 1) : Int))) (exI m r rr)) (tuI (m + 1) (Int.toNat (Int.tmod by_ (↑(m + 1) : Int))) (exI m u uu)) (tuI (m + 1) (Int.toNat (Int.tmod by_ (↑(m + 1) : Int))) (exI m v vv)) != (0 : Int)) (Tree.leaf (RV.x (Value.bool false))) (Tree.branch (wgE n m a b r u v != (0 : Int)) (Tree.leaf (RV.x (Value.bool false))) (Tree.branch (wgE n (m + 1) a b (exI m r rr) (exI m u uu) (exI m v vv) != (0 : Int)) (Tree.leaf (RV.x (Value.bool false))) (Tree.branch (wgE n (m + 1) a b (tuI (m + 1) (Int.toNat (Int.tmod by_ (↑(m + 1) : Int))) (exI m r rr)) (tuI (m + 1) (Int.toNat (Int.tmod by_ (↑(m + 1) : Int))) (exI m u uu)) (tuI (m + 1) (Int.toNat (Int.tmod by_ (↑(m + 1) : Int))) (exI m v vv)) != (0 : Int)) (Tree.leaf (RV.x (Value.bool false))) (Tree.need [isRec 1 (List.length (kdL n (m + 1) a b (exI m r rr) (exI m u uu) (exI m v vv))) fun j => [i (nthI (kdL n (m + 1) a b (exI m r rr) (exI m u uu) (exI m v vv)) j)], isRec 1 (List.length (kdL n (m + 1) a b (tuI (m + 1) (Int.toNat (Int.tmod by_ (↑(m + 1) : Int))) (exI m r rr)) (tuI (m + 1) (Int.toNat (Int.tmod by_ (↑(m + 1) : Int))) (exI m u uu)) (tuI (m + 1) (Int.toNat (Int.tmod by_ (↑(m + 1) : Int))) (exI m v vv)))) fun j => [i (nthI (kdL n (m + 1) a b (tuI (m + 1) (Int.toNat (Int.tmod by_ (↑(m + 1) : Int))) (exI m r rr)) (tuI (m + 1) (Int.toNat (Int.tmod by_ (↑(m + 1) : Int))) (exI m u uu)) (tuI (m + 1) (Int.toNat (Int.tmod by_ (↑(m + 1) : Int))) (exI m v vv))) j)], List.length (kdL n (m + 1) a b (exI m r rr) (exI m u uu) (exI m v vv)) ≤ 100000] (Tree.branch (!(decide (List.length (kdL n (m + 1) a b (exI m r rr) (exI m u uu) (exI m v vv)) = List.length (kdL n (m + 1) a b (tuI (m + 1) (Int.toNat (Int.tmod by_ (↑(m + 1) : Int))) (exI m r rr)) (tuI (m + 1) (Int.toNat (Int.tmod by_ (↑(m + 1) : Int))) (exI m u uu)) (tuI (m + 1) (Int.toNat (Int.tmod by_ (↑(m + 1) : Int))) (exI m v vv)))) && allI (fun k => nthI (kdL n (m + 1) a b (exI m r rr) (exI m u uu) (exI m v vv)) k == nthI (kdL n (m + 1) a b (tuI (m + 1) (Int.toNat (Int.tmod by_ (↑(m + 1) : Int))) (exI m r rr)) (tuI (m + 1) (Int.toNat (Int.tmod by_ (↑(m + 1) : Int))) (exI m u uu)) (tuI (m + 1) (Int.toNat (Int.tmod by_ (↑(m + 1) : Int))) (exI m v vv))) k) (List.length (kdL n (m + 1) a b (exI m r rr) (exI m u uu) (exI m v vv))))) (Tree.leaf (RV.x (Value.bool false))) (Tree.branch (decide ((↑(List.length (wgL n (m + 1) a b (exI m r rr) (exI m u uu) (exI m v vv))) : Int) < (↑(List.length (wgL n m a b r u v)) : Int))) (Tree.leaf (RV.x (Value.bool false))) (Tree.branch (wgN n (m + 1) a b (exI m r rr) (exI m u uu) (exI m v vv) != wgN n (m + 1) a b (tuI (m + 1) (Int.toNat (Int.tmod by_ (↑(m + 1) : Int))) (exI m r rr)) (tuI (m + 1) (Int.toNat (Int.tmod by_ (↑(m + 1) : Int))) (exI m u uu)) (tuI (m + 1) (Int.toNat (Int.tmod by_ (↑(m + 1) : Int))) (exI m v vv))) (Tree.leaf (RV.x (Value.bool false))) (Tree.branch ((↑(List.length (wgL n (m + 1) a b (exI m r rr) (exI m u uu) (exI m v vv))) : Int) != (↑(List.length (wgL n (m + 1) a b (tuI (m + 1) (Int.toNat (Int.tmod by_ (↑(m + 1) : Int))) (exI m r rr)) (tuI (m + 1) (Int.toNat (Int.tmod by_ (↑(m + 1) : Int))) (exI m u uu)) (tuI (m + 1) (Int.toNat (Int.tmod by_ (↑(m + 1) : Int))) (exI m v vv)))) : Int)) (Tree.leaf (RV.x (Value.bool false))) (Tree.branch (decide (wgN n (m + 1) a b (exI m r rr) (exI m u uu) (exI m v vv) < (0 : Int))) (Tree.leaf (RV.x (Value.bool false))) (Tree.branch (decide (wgN n (m + 1) a b (exI m r rr) (exI m u uu) (exI m v vv) ≥ (↑n : Int))) (Tree.leaf (RV.x (Value.bool false))) (Tree.branch (!decide ((↑(List.length (kdL n (m + 1) a b (exI m r rr) (exI m u uu) (exI m v vv))) : Int) > (0 : Int)) == ((↑(List.length (wgL n (m + 1) a b (exI m r rr) (exI m u uu) (exI m v vv))) : Int) == (0 : Int))) (Tree.leaf (RV.x (Value.bool false))) (Tree.need [List.length (kdL n m a b r u v) ≤ 100000, List.length (kdL n (m + 1) a b (exI m r rr) (exI m u uu) (exI m v vv)) ≤ 100000, List.length (wgL n (m + 1) a b (exI m r rr) (exI m u uu) (exI m v vv)) ≤ 100000, m + 1 ≤ 100000] (Tree.need [(AV.lst 2 n fun k => [iI (a k), iI (b k)]) = AV.lst 2 n fun k => [iI (a k), iI (b k)], (AV.lst 3 (m + 1) fun k => [iI (exI m r rr k), iI (exI m u uu k), iI (exI m v vv k)]) = AV.lst 3 (m + 1) fun k => [iI (exI m r rr k), iI (exI m u uu k), iI (exI m v vv k)], (AV.lst 1 (List.length (kdL n m a b r u v)) fun j => [iI (nthI (kdL n m a b r u v) j)]) = AV.lst 1 (List.length (kdL n m a b r u v)) fun j => [iI (nthI (kdL n m a b r u v) j)], (AV.lst 1 (List.length (kdL n (m + 1) a b (exI m r rr) (exI m u uu) (exI m v vv))) fun j => [iI (nthI (kdL n (m + 1) a b (exI m r rr) (exI m u uu) (exI m v vv)) j)]) = AV.lst 1 (List.length (kdL n (m + 1) a b (exI m r rr) (exI m u uu) (exI m v vv))) fun j => [iI (nthI (kdL n (m + 1) a b (exI m r rr) (exI m u uu) (exI m v vv)) j)], wgN n (m + 1) a b (exI m r rr) (exI m u uu) (exI m v vv) = wgN n (m + 1) a b (exI m r rr) (exI m u uu) (exI m v vv), (AV.lst 1 (List.length (wgL n (m + 1) a b (exI m r rr) (exI m u uu) (exI m v vv))) fun j => [iI (nthI (wgL n (m + 1) a b (exI m r rr) (exI m u uu) (exI m v vv)) j)]) = AV.lst 1 (List.length (wgL n (m + 1) a b (exI m r rr) (exI m u uu) (exI m v vv))) fun j => [iI (nthI (wgL n (m + 1) a b (exI m r rr) (exI m u uu) (exI m v vv)) j)], (0 : Int) = (↑(0 : Nat) : Int)] (Tree.branch (allI (fun j => memI (kdL n m a b r u v) (nthI (kdL n (m + 1) a b (exI m r rr) (exI m u uu) (exI m v vv)) j) (List.length (kdL n m a b r u v))) (List.length (kdL n (m + 1) a b (exI m r rr) (exI m u uu) (exI m v vv)))) (Tree.need [List.length (kdL n m a b r u v) ≤ 100000, List.length (kdL n (m + 1) a b (exI m r rr) (exI m u uu) (exI m v vv)) ≤ 100000, List.length (wgL n (m + 1) a b (exI m r rr) (exI m u uu) (exI m v vv)) ≤ 100000, m + 1 ≤ 100000] (Tree.need [(AV.lst 2 n fun k => [iI (a k), iI (b k)]) = AV.lst 2 n fun k => [iI (a k), iI (b k)], (AV.lst 3 (m + 1) fun k => [iI (exI m r rr k), iI (exI m u uu k), iI (exI m v vv k)]) = AV.lst 3 (m + 1) fun k => [iI (exI m r rr k), iI (exI m u uu k), iI (exI m v vv k)], (AV.lst 1 (List.length (kdL n m a b r u v)) fun j => [iI (nthI (kdL n m a b r u v) j)]) = AV.lst 1 (List.length (kdL n m a b r u v)) fun j => [iI (nthI (kdL n m a b r u v) j)], (AV.lst 1 (List.length (kdL n (m + 1) a b (exI m r rr) (exI m u uu) (exI m v vv))) fun j => [iI (nthI (kdL n (m + 1) a b (exI m r rr) (exI m u uu) (exI m v vv)) j)]) = AV.lst 1 (List.length (kdL n (m + 1) a b (exI m r rr) (exI m u uu) (exI m v vv))) fun j => [iI (nthI (kdL n (m + 1) a b (exI m r rr) (exI m u uu) (exI m v vv)) j)], wgN n (m + 1) a b (exI m r rr) (exI m u uu) (exI m v vv) = wgN n (m + 1) a b (exI m r rr) (exI m u uu) (exI m v vv), (AV.lst 1 (List.length (wgL n (m + 1) a b (exI m r rr) (exI m u uu) (exI m v vv))) fun j => [iI (nthI (wgL n (m + 1) a b (exI m r rr) (exI m u uu) (exI m v vv)) j)]) = AV.lst 1 (List.length (wgL n (m + 1) a b (exI m r rr) (exI m u uu) (exI m v vv))) fun j => [iI (nthI (wgL n (m + 1) a b (exI m r rr) (exI m u uu) (exI m v vv)) j)], AV.row 900 = AV.row 900, (0 : Int) = (↑(0 : Nat) : Int), 0 = List.length (seL (wgL n (m + 1) a b (exI m r rr) (exI m u uu) (exI m v vv)) 0), ∀ (i : Nat), i < List.length (seL (wgL n (m + 1) a b (exI m r rr) (exI m u uu) (exI m v vv)) 0) → [] = [Ytchcegfhamngkaa.i (selI (exI m r rr) (seL (wgL n (m + 1) a b (exI m r rr) (exI m u uu) (exI m v vv)) 0) i), Ytchcegfhamngkaa.i (selI (exI m u uu) (seL (wgL n (m + 1) a b (exI m r rr) (exI m u uu) (exI m v vv)) 0) i), Ytchcegfhamngkaa.i (selI (exI m v vv) (seL (wgL n (m + 1) a b (exI m r rr) (exI m u uu) (exI m v vv)) 0) i)]] (Tree.need [(0 : Int) ≤ wgN n (m + 1) a b (exI m r rr) (exI m u uu) (exI m v vv) ∧ wgN n (m + 1) a b (exI m r rr) (exI m u uu) (exI m v vv) < (↑n : Int)] (Tree.need [isRec 3 (List.length (seL (wgL n (m + 1) a b (exI m r rr) (exI m u uu) (exI m v vv)) (m + 1))) fun j => [i (selI (exI m r rr) (seL (wgL n (m + 1) a b (exI m r rr) (exI m u uu) (exI m v vv)) (m + 1)) j), i (selI (exI m u uu) (seL (wgL n (m + 1) a b (exI m r rr) (exI m u uu) (exI m v vv)) (m + 1)) j), i (selI (exI m v vv) (seL (wgL n (m + 1) a b (exI m r rr) (exI m u uu) (exI m v vv)) (m + 1)) j)], List.length (seL (wgL n (m + 1) a b (exI m r rr) (exI m u uu) (exI m v vv)) (m + 1)) ≤ 100000] (Tree.need [isRec 2 1 (chunk 2 [iI (a (Int.toNat (wgN n (m + 1) a b (exI m r rr) (exI m u uu) (exI m v vv)))), iI (b (Int.toNat (wgN n (m + 1) a b (exI m r rr) (exI m u uu) (exI m v vv))))]), isRec 3 (List.length (seL (wgL n (m + 1) a b (exI m r rr) (exI m u uu) (exI m v vv)) (m + 1))) fun k => [i (selI (exI m r rr) (seL (wgL n (m + 1) a b (exI m r rr) (exI m u uu) (exI m v vv)) (m + 1)) k), i (selI (exI m u uu) (seL (wgL n (m + 1) a b (exI m r rr) (exI m u uu) (exI m v vv)) (m + 1)) k), i (selI (exI m v vv) (seL (wgL n (m + 1) a b (exI m r rr) (exI m u uu) (exI m v vv)) (m + 1)) k)], 1 ≤ 100000, List.length (seL (wgL n (m + 1) a b (exI m r rr) (exI m u uu) (exI m v vv)) (m + 1)) ≤ 100000] (Tree.branch (ddE 1 (List.length (seL (wgL n (m + 1) a b (exI m r rr) (exI m u uu) (exI m v vv)) (m + 1))) (col 0 (chunk 2 [iI (a (Int.toNat (wgN n (m + 1) a b (exI m r rr) (exI m u uu) (exI m v vv)))), iI (b (Int.toNat (wgN n (m + 1) a b (exI m r rr) (exI m u uu) (exI m v vv))))])) (col 1 (chunk 2 [iI (a (Int.toNat (wgN n (m + 1) a b (exI m r rr) (exI m u uu) (exI m v vv)))), iI (b (Int.toNat (wgN n (m + 1) a b (exI m r rr) (exI m u uu) (exI m v vv))))])) (selI (exI m r rr) (seL (wgL n (m + 1) a b (exI m r rr) (exI m u uu) (exI m v vv)) (m + 1))) (selI (exI m u uu) (seL (wgL n (m + 1) a b (exI m r rr) (exI m u uu) (exI m v vv)) (m + 1))) (selI (exI m v vv) (seL (wgL n (m + 1) a b (exI m r rr) (exI m u uu) (exI m v vv)) (m + 1))) == (0 : Int)) (Tree.need [inI64 ((↑(List.length (seL (wgL n (m + 1) a b (exI m r rr) (exI m u uu) (exI m v vv)) (m + 1))) : Int) + (↑(List.length (wgL n (m + 1) a b (exI m r rr) (exI m u uu) (exI m v vv))) : Int))] (Tree.branch ((↑(List.length (seL (wgL n (m + 1) a b (exI m r rr) (exI m u uu) (exI m v vv)) (m + 1))) : Int) + (↑(List.length (wgL n (m + 1) a b (exI m r rr) (exI m u uu) (exI m v vv))) : Int) == (↑(m + 1) : Int)) (Tree.need [isRec 1 (List.length (kdL 1 (List.length (seL (wgL n (m + 1) a b (exI m r rr) (exI m u uu) (exI m v vv)) (m + 1))) (col 0 (chunk 2 [iI (a (Int.toNat (wgN n (m + 1) a b (exI m r rr) (exI m u uu) (exI m v vv)))), iI (b (Int.toNat (wgN n (m + 1) a b (exI m r rr) (exI m u uu) (exI m v vv))))])) (col 1 (chunk 2 [iI (a (Int.toNat (wgN n (m + 1) a b (exI m r rr) (exI m u uu) (exI m v vv)))), iI (b (Int.toNat (wgN n (m + 1) a b (exI m r rr) (exI m u uu) (exI m v vv))))])) (selI (exI m r rr) (seL (wgL n (m + 1) a b (exI m r rr) (exI m u uu) (exI m v vv)) (m + 1))) (selI (exI m u uu) (seL (wgL n (m + 1) a b (exI m r rr) (exI m u uu) (exI m v vv)) (m + 1))) (selI (exI m v vv) (seL (wgL n (m + 1) a b (exI m r rr) (exI m u uu) (exI m v vv)) (m + 1))))) fun j => [i (nthI (kdL 1 (List.length (seL (wgL n (m + 1) a b (exI m r rr) (exI m u uu) (exI m v vv)) (m + 1))) (col 0 (chunk 2 [iI (a (Int.toNat (wgN n (m + 1) a b (exI m r rr) (exI m u uu) (exI m v vv)))), iI (b (Int.toNat (wgN n (m + 1) a b (exI m r rr) (exI m u uu) (exI m v vv))))])) (col 1 (chunk 2 [iI (a (Int.toNat (wgN n (m + 1) a b (exI m r rr) (exI m u uu) (exI m v vv)))), iI (b (Int.toNat (wgN n (m + 1) a b (exI m r rr) (exI m u uu) (exI m v vv))))])) (selI (exI m r rr) (seL (wgL n (m + 1) a b (exI m r rr) (exI m u uu) (exI m v vv)) (m + 1))) (selI (exI m u uu) (seL (wgL n (m + 1) a b (exI m r rr) (exI m u uu) (exI m v vv)) (m + 1))) (selI (exI m v vv) (seL (wgL n (m + 1) a b (exI m r rr) (exI m u uu) (exI m v vv)) (m + 1)))) j)], isRec 1 1 (chunk 1 [iI (0 : Int)]), List.length (kdL 1 (List.length (seL (wgL n (m + 1) a b (exI m r rr) (exI m u uu) (exI m v vv)) (m + 1))) (col 0 (chunk 2 [iI (a (Int.toNat (wgN n (m + 1) a b (exI m r rr) (exI m u uu) (exI m v vv)))), iI (b (Int.toNat (wgN n (m + 1) a b (exI m r rr) (exI m u uu) (exI m v vv))))])) (col 1 (chunk 2 [iI (a (Int.toNat (wgN n (m + 1) a b (exI m r rr) (exI m u uu) (exI m v vv)))), iI (b (Int.toNat (wgN n (m + 1) a b (exI m r rr) (exI m u uu) (exI m v vv))))])) (selI (exI m r rr) (seL (wgL n (m + 1) a b (exI m r rr) (exI m u uu) (exI m v vv)) (m + 1))) (selI (exI m u uu) (seL (wgL n (m + 1) a b (exI m r rr) (exI m u uu) (exI m v vv)) (m + 1))) (selI (exI m v vv) (seL (wgL n (m + 1) a b (exI m r rr) (exI m u uu) (exI m v vv)) (m + 1)))) ≤ 100000] (Tree.branch (decide (List.length (kdL 1 (List.length (seL (wgL n (m + 1) a b (exI m r rr) (exI m u uu) (exI m v vv)) (m + 1))) (col 0 (chunk 2 [iI (a (Int.toNat (wgN n (m + 1) a b (exI m r rr) (exI m u uu) (exI m v vv)))), iI (b (Int.toNat (wgN n (m + 1) a b (exI m r rr) (exI m u uu) (exI m v vv))))])) (col 1 (chunk 2 [iI (a (Int.toNat (wgN n (m + 1) a b (exI m r rr) (exI m u uu) (exI m v vv)))), iI (b (Int.toNat (wgN n (m + 1) a b (exI m r rr) (exI m u uu) (exI m v vv))))])) (selI (exI m r rr) (seL (wgL n (m + 1) a b (exI m r rr) (exI m u uu) (exI m v vv)) (m + 1))) (selI (exI m u uu) (seL (wgL n (m + 1) a b (exI m r rr) (exI m u uu) (exI m v vv)) (m + 1))) (selI (exI m v vv) (seL (wgL n (m + 1) a b (exI m r rr) (exI m u uu) (exI m v vv)) (m + 1)))) = 1) && allI (fun k => nthI (kdL 1 (List.length (seL (wgL n (m + 1) a b (exI m r rr) (exI m u uu) (exI m v vv)) (m + 1))) (col 0 (chunk 2 [iI (a (Int.toNat (wgN n (m + 1) a b (exI m r rr) (exI m u uu) (exI m v vv)))), iI (b (Int.toNat (wgN n (m + 1) a b (exI m r rr) (exI m u uu) (exI m v vv))))])) (col 1 (chunk 2 [iI (a (Int.toNat (wgN n (m + 1) a b (exI m r rr) (exI m u uu) (exI m v vv)))), iI (b (Int.toNat (wgN n (m + 1) a b (exI m r rr) (exI m u uu) (exI m v vv))))])) (selI (exI m r rr) (seL (wgL n (m + 1) a b (exI m r rr) (exI m u uu) (exI m v vv)) (m + 1))) (selI (exI m u uu) (seL (wgL n (m + 1) a b (exI m r rr) (exI m u uu) (exI m v vv)) (m + 1))) (selI (exI m v vv) (seL (wgL n (m + 1) a b (exI m r rr) (exI m u uu) (exI m v vv)) (m + 1)))) k == col 0 (chunk 1 [iI (0 : Int)]) k) (List.length (kdL 1 (List.length (seL (wgL n (m + 1) a b (exI m r rr) (exI m u uu) (exI m v vv)) (m + 1))) (col 0 (chunk 2 [iI (a (Int.toNat (wgN n (m + 1) a b (exI m r rr) (exI m u uu) (exI m v vv)))), iI (b (Int.toNat (wgN n (m + 1) a b (exI m r rr) (exI m u uu) (exI m v vv))))])) (col 1 (chunk 2 [iI (a (Int.toNat (wgN n (m + 1) a b (exI m r rr) (exI m u uu) (exI m v vv)))), iI (b (Int.toNat (wgN n (m + 1) a b (exI m r rr) (exI m u uu) (exI m v vv))))])) (selI (exI m r rr) (seL (wgL n (m + 1) a b (exI m r rr) (exI m u uu) (exI m v vv)) (m + 1))) (selI (exI m u uu) (seL (wgL n (m + 1) a b (exI m r rr) (exI m u uu) (exI m v vv)) (m + 1))) (selI (exI m v vv) (seL (wgL n (m + 1) a b (exI m r rr) (exI m u uu) (exI m v vv)) (m + 1)))))) (Tree.leaf (RV.x (Value.bool true))) (Tree.leaf (RV.x (Value.bool false))))) (Tree.leaf (RV.x (Value.bool false))))) (Tree.leaf (RV.x (Value.bool false))))))))) (Tree.leaf (RV.x (Value.bool false)))))))))))))))))))))))))))))))))))))))))))))))))))))) (by kernel_rfl) ?_
  have hk1 : 0 ≤ by_.tmod ((m + 1 : Nat) : Int) := Int.tmod_nonneg _ (by omega)
  have hk2 : by_.tmod ((m + 1 : Nat) : Int) < ((m + 1 : Nat) : Int) := Int.tmod_lt_of_pos _ (by omega)
  simp only [Tree.sat, allP, fitP, fitL, valEq, inI64, true_and, and_true, decide_eq_true_eq, decide_eq_false_iff_not, Int.toNat_natCast, col10, col20, col21, col30, col31, col32]
  generalize by_.tmod ((m + 1 : Nat) : Int) = kk at *
  refine ⟨⟨by omega, fun j _ => ones3 _ _ _⟩, ⟨by omega, fun j _ a ha => one_of ha (ones3 _ _ _)⟩, ⟨by omega, fun j hj => catE3 hj⟩, fun _ => trivial, fun hn0 => ⟨fun _ => trivial, fun hm => ⟨⟨isRec2 n a b, isRec3 _ _ _ _⟩, fun _ => trivial, fun hx => ?_⟩⟩⟩
  have hx : ddE n (m + 1) a b (exI m r rr) (exI m u uu) (exI m v vv) = 0 := by simpa using hx
  have hn : 1 ≤ n := by
    rw [beq_eq_false_iff_ne] at hn0
    omega
  have hKK : kk.toNat < m + 1 := by omega
  obtain ⟨hn8, hm12, _, _⟩ := dd_iff.1 hx
  obtain ⟨hd, hy⟩ := di_dd (k := kk.toNat) hx hKK
  obtain ⟨x1, x2, x3, x4, x5⟩ := wg_all hx hn
  obtain ⟨y1, y2, y3, y4, y5⟩ := wg_all hy hn
  obtain ⟨d1, d2, d3, d4, d5⟩ := wg_all hd hn
  obtain ⟨w1, w2, w3⟩ := di_wg (k := kk.toNat) hx hKK hn
  have hkd := di_kd (k := kk.toNat) hx hKK
  have hpos := di_pos hx hn
  have hhas : allI (fun j => memI (kdL n m a b r u v) (nthI (kdL n (m + 1) a b (exI m r rr) (exI m u uu) (exI m v vv)) j) (kdL n m a b r u v).length) (kdL n (m + 1) a b (exI m r rr) (exI m u uu) (exI m v vv)).length = true := allI_iff.2 fun j hj => di_has hx hj
  have lkd : (kdL n m a b r u v).length ≤ n := by
    unfold kdL
    rw [if_pos hd]
    exact wrL_len _ n
  have lkx : (kdL n (m + 1) a b (exI m r rr) (exI m u uu) (exI m v vv)).length ≤ n := by
    unfold kdL
    rw [if_pos hx]
    exact wrL_len _ n
  have lw : (wgL n (m + 1) a b (exI m r rr) (exI m u uu) (exI m v vv)).length ≤ m + 1 := by
    rw [x4]
    exact wrL_len _ _
  have hN2 : wgN n (m + 1) a b (tuI (m + 1) kk.toNat (exI m r rr)) (tuI (m + 1) kk.toNat (exI m u uu)) (tuI (m + 1) kk.toNat (exI m v vv)) = wgN n (m + 1) a b (exI m r rr) (exI m u uu) (exI m v vv) := by rw [x2, y2, w1]
  obtain ⟨r1, r2, r3⟩ := di_rest (a' := col 0 (chunk 2 [iI (a (wgS n (m + 1) a b (exI m r rr) (exI m u uu) (exI m v vv))), iI (b (wgS n (m + 1) a b (exI m r rr) (exI m u uu) (exI m v vv)))])) (b' := col 1 (chunk 2 [iI (a (wgS n (m + 1) a b (exI m r rr) (exI m u uu) (exI m v vv))), iI (b (wgS n (m + 1) a b (exI m r rr) (exI m u uu) (exI m v vv)))])) (r' := selI (exI m r rr) (seL (wgL n (m + 1) a b (exI m r rr) (exI m u uu) (exI m v vv)) (m + 1))) (u' := selI (exI m u uu) (seL (wgL n (m + 1) a b (exI m r rr) (exI m u uu) (exI m v vv)) (m + 1))) (v' := selI (exI m v vv) (seL (wgL n (m + 1) a b (exI m r rr) (exI m u uu) (exI m v vv)) (m + 1))) (W := wgL n (m + 1) a b (exI m r rr) (exI m u uu) (exI m v vv)) (S0 := seL (wgL n (m + 1) a b (exI m r rr) (exI m u uu) (exI m v vv)) (m + 1)) (S := wgS n (m + 1) a b (exI m r rr) (exI m u uu) (exI m v vv)) hx hn rfl rfl rfl rfl rfl (fun j hj => ⟨rfl, rfl, rfl⟩)
  have hself : allI (fun k => nthI (kdL n (m + 1) a b (exI m r rr) (exI m u uu) (exI m v vv)) k == nthI (kdL n (m + 1) a b (exI m r rr) (exI m u uu) (exI m v vv)) k) (kdL n (m + 1) a b (exI m r rr) (exI m u uu) (exI m v vv)).length = true := allI_iff.2 fun _ _ => beq_self_eq_true _
  have hb : (decide (((kdL n (m + 1) a b (exI m r rr) (exI m u uu) (exI m v vv)).length : Int) > 0) == (((wgL n (m + 1) a b (exI m r rr) (exI m u uu) (exI m v vv)).length : Int) == 0)) = true := by
    rw [beq_iff_eq, Bool.eq_iff_iff, decide_eq_true_eq, beq_iff_eq]
    constructor
    · intro h
      have := hpos.1 (by omega)
      omega
    · intro h
      have := hpos.2 (by omega)
      omega
  refine ⟨by omega, by omega, by omega, ⟨by omega, fun j _ => ones3 _ _ _⟩, by omega, ⟨by omega, fun j _ => ones3 _ _ _⟩, ⟨by omega, fun j _ => catT3⟩, ?_⟩
  rw [hd, hx, hy, d1, x1, y1, hkd, hN2, x2]
  simp only [hhas, w2, isRec1, isRec2, isRec3, Int.toNat_natCast, hself, hb, r2, r3, bne_self_eq_false]
  have f1 : ((0 : Int) != 0) = false := rfl
  have f2 : ((0 : Int) == 0) = true := rfl
  simp only [f1, f2, true_and, and_true, true_imp_iff, false_imp_iff, Bool.false_eq_true]
  (repeat' first | with_reducible apply And.intro | with_reducible intro _)
  all_goals first | exact True.intro | omega | with_reducible rfl | (rename_i h; cases h; done) | exact isRec_c1 _ _ | (rename_i h; exact absurd h (Nat.not_lt_zero _)) | (rename_i h; rw [beq_eq_false_iff_ne] at h; omega) | (show 1 ≤ 100000; omega) | rfl | (intro k hk; obtain rfl : k = 0 := (by omega); rfl)

end Go.Proofs.Ytchcegfhamngkaa
