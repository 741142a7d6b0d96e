/- Contracts of functions of the program, by the engine Sx: what each call comes to. Printed by a program of this repo (sxgen.py). -/
import Derived.Test.YtchcegfhamngkaaPtQ
set_option linter.unusedSimpArgs false
set_option linter.unusedVariables false
namespace Go.Proofs.Ytchcegfhamngkaa
open Go Go.Sx Go.RowKit

def S_judged : Sx.Spec := fun l => match l with
  | [.lst 2 n f, .lst 3 m g] => some ([isRec 2 n f, isRec 3 m g, n ≤ 100000, m ≤ 100000], .tup [.agg (jWs n m (col 0 f) (col 1 f) (col 0 g) (col 1 g) (col 2 g)), i (ddE n m (col 0 f) (col 1 f) (col 0 g) (col 1 g) (col 2 g))])
  | _ => none


theorem judged_ok : SoundSpec Try.prog 73 S_judged := by
  refine ⟨⟨_, Try.func73, by kernel_rfl, by kernel_rfl⟩, ?_⟩
  intro avs ns res h hn
  unfold S_judged at h
  split at h
  · rename_i n f m g
    cases h
    have hr : isRec 2 n f := hn _ (by simp)
    have hr2 : isRec 3 m g := hn _ (by simp)
    exact (judged_at n m (col 0 f) (col 1 f) (col 0 g) (col 1 g) (col 2 g) (hn _ (by simp)) (hn _ (by simp))).same (.cons (.lst 2 n _ _ hr) (.cons (.lst 3 m _ _ hr2) .nil))
  · cases h


/-- The scales that explain all. -/
def kdB (n m : Nat) (a b r u v : Nat → Int) (j : Nat) : Bool := !decide ((jW n m a b r u v j).length = 0)
def kdL (n m : Nat) (a b r u v : Nat → Int) : List Int := if ddE n m a b r u v = 0 then wrL (kdB n m a b r u v) n else []


theorem nth_jW (n m : Nat) (a b r u v : Nat → Int) {k : Nat} (hk : k < 8) (f0 f1 f2 f3 f4 f5 f6 f7 : Nat → List AV) : nthN [((jW n m a b r u v 0).length, f0), ((jW n m a b r u v 1).length, f1), ((jW n m a b r u v 2).length, f2), ((jW n m a b r u v 3).length, f3), ((jW n m a b r u v 4).length, f4), ((jW n m a b r u v 5).length, f5), ((jW n m a b r u v 6).length, f6), ((jW n m a b r u v 7).length, f7)] k = (jW n m a b r u v k).length := by
  rcases (show k = 0 ∨ k = 1 ∨ k = 2 ∨ k = 3 ∨ k = 4 ∨ k = 5 ∨ k = 6 ∨ k = 7 by omega) with rfl | rfl | rfl | rfl | rfl | rfl | rfl | rfl <;> rfl


theorem nthF_jW (n m : Nat) (a b r u v : Nat → Int) {k : Nat} (hk : k < 8) : nthF [((jW n m a b r u v 0).length, fun j => [i (nthI (jW n m a b r u v 0) j)]), ((jW n m a b r u v 1).length, fun j => [i (nthI (jW n m a b r u v 1) j)]), ((jW n m a b r u v 2).length, fun j => [i (nthI (jW n m a b r u v 2) j)]), ((jW n m a b r u v 3).length, fun j => [i (nthI (jW n m a b r u v 3) j)]), ((jW n m a b r u v 4).length, fun j => [i (nthI (jW n m a b r u v 4) j)]), ((jW n m a b r u v 5).length, fun j => [i (nthI (jW n m a b r u v 5) j)]), ((jW n m a b r u v 6).length, fun j => [i (nthI (jW n m a b r u v 6) j)]), ((jW n m a b r u v 7).length, fun j => [i (nthI (jW n m a b r u v 7) j)])] k = fun j => [i (nthI (jW n m a b r u v k) j)] := by
  rcases (show k = 0 ∨ k = 1 ∨ k = 2 ∨ k = 3 ∨ k = 4 ∨ k = 5 ∨ k = 6 ∨ k = 7 by omega) with rfl | rfl | rfl | rfl | rfl | rfl | rfl | rfl <;> rfl

noncomputable def E_kd (n m : Nat) (a b r u v : Nat → Int) : St := (some { σ := mkS 35 [(6, .ptr 8 0), (20, i n)], m := [], nx := 901 } : Option St).getD { σ := [], m := [], nx := 0 }
noncomputable def B_kd : Code := loopBody (loopAt (bodyOf Try.f43) 0)
noncomputable def inv_kd (n m : Nat) (a b r u v : Nat → Int) (k : Nat) : St := { σ := ovrS [(8, .row 900), (21, i k)] (E_kd n m a b r u v).σ, m := [(900, .row 3 1 (wrL (kdB n m a b r u v) k).length (fun j => [i (nthI (wrL (kdB n m a b r u v) k) j)])), (8, .cells 117 (jWs n m a b r u v))], nx := (E_kd n m a b r u v).nx }
noncomputable def out_kd (n m : Nat) (a b r u v : Nat → Int) (k : Nat) : AEx → Option St := fun ex => match ex with
  | .exit 0 => some { σ := ovrS [(8, .row 900)] (E_kd n m a b r u v).σ, m := [(900, .row 3 1 (wrL (kdB n m a b r u v) n).length (fun j => [i (nthI (wrL (kdB n m a b r u v) n) j)])), (8, .cells 117 (jWs n m a b r u v))], nx := (E_kd n m a b r u v).nx }
  | _ => none
noncomputable def T_kd (n m : Nat) (a b r u v : Nat → Int) : CT := .leaf (.exit 0, ( out_kd n m a b r u v 0 (.exit 0)).getD (E_kd n m a b r u v))
noncomputable def LS_kd (n m : Nat) (a b r u v : Nat → Int) : LSpec := normSp [(.slot 8, 900, 3, 1)] (sumL (inv_kd n m a b r u v (0)) (T_kd n m a b r u v))
set_option maxRecDepth 100000 in
theorem kd_ls (n m : Nat) (a b r u v : Nat → Int) (pre0 : n ≤ 8) : LSound Try.prog (.loop B_kd) (LS_kd n m a b r u v) := by
  refine loop_roundsN [(.slot 8, 900, 3, 1)] (G := [(73, S_judged)]) (L := []) (SoundG.cons judged_ok (SoundG.nil _)) mixed noLoops (X := Nat) (inv_kd n m a b r u v) (fun k => k ≤ n) (fun k => n - k) (out_kd n m a b r u v) (x0 := 0) (by simp) ?_ ?_ ?_
  · rintro k
    kernel_rfl
  · rintro k y E h
    unfold out_kd at h
    split at h
    · cases h; kernel_rfl
    · cases h
  · rintro Q hQ k hx
    refine ⟨(k + 1), ?_⟩
    have e : roundN Try.prog [(73, S_judged)] [] [(.slot 8, 900, 3, 1)] B_kd (inv_kd n m a b r u v k) (inv_kd n m a b r u v ((k + 1))) (out_kd n m a b r u v k) = (Tree.branch (decide ((↑k : Int) < (↑n : Int))) (Tree.need [(0 : Int) ≤ (↑k : Int) ∧ (↑k : Int) < (↑(8 : Nat) : Int)] (Tree.need [0 + Int.toNat (↑k : Int) * 1 < List.length (jWs n m a b r u v)] (Tree.branch ((↑(nthN [(List.length (jW n m a b r u v 0), fun j => [i (nthI (jW n m a b r u v 0) j)]), (List.length (jW n m a b r u v 1), fun j => [i (nthI (jW n m a b r u v 1) j)]), (List.length (jW n m a b r u v 2), fun j => [i (nthI (jW n m a b r u v 2) j)]), (List.length (jW n m a b r u v 3), fun j => [i (nthI (jW n m a b r u v 3) j)]), (List.length (jW n m a b r u v 4), fun j => [i (nthI (jW n m a b r u v 4) j)]), (List.length (jW n m a b r u v 5), fun j => [i (nthI (jW n m a b r u v 5) j)]), (List.length (jW n m a b r u v 6), fun j => [i (nthI (jW n m a b r u v 6) j)]), (List.length (jW n m a b r u v 7), fun j => [i (nthI (jW n m a b r u v 7) j)])] (0 + Int.toNat (↑k : Int) * 1)) : Int) == (0 : Int)) (Tree.need [(List.length (wrL (kdB n m a b r u v) k) + 1) * 8 ≤ 140737488355328, ∀ (i : Nat), i < 1 → ∀ (a : AV), a ∈ chunk 1 [iI (↑k : Int)] i → AV.one a = true] (Tree.need [inI64 ((↑k : Int) + (1 : Int))] (Tree.need [AV.ptr 8 0 = AV.ptr 8 0, AV.row 900 = AV.row 900, (↑n : Int) = (↑n : Int), (↑k : Int) + (1 : Int) = (↑(k + 1) : Int), List.length (wrL (kdB n m a b r u v) k) + 1 = List.length (wrL (kdB n m a b r u v) (k + 1)), ∀ (i : Nat), i < List.length (wrL (kdB n m a b r u v) (k + 1)) → catF (List.length (wrL (kdB n m a b r u v) k)) (fun j => [Ytchcegfhamngkaa.i (nthI (wrL (kdB n m a b r u v) k) j)]) (chunk 1 [iI (↑k : Int)]) i = [Ytchcegfhamngkaa.i (nthI (wrL (kdB n m a b r u v) (k + 1)) i)], (AV.lst 1 (List.length (jW n m a b r u v 0)) fun j => [iI (nthI (jW n m a b r u v 0) j)]) = AV.lst 1 (List.length (jW n m a b r u v 0)) fun j => [iI (nthI (jW n m a b r u v 0) j)], (AV.lst 1 (List.length (jW n m a b r u v 1)) fun j => [iI (nthI (jW n m a b r u v 1) j)]) = AV.lst 1 (List.length (jW n m a b r u v 1)) fun j => [iI (nthI (jW n m a b r u v 1) j)], (AV.lst 1 (List.length (jW n m a b r u v 2)) fun j => [iI (nthI (jW n m a b r u v 2) j)]) = AV.lst 1 (List.length (jW n m a b r u v 2)) fun j => [iI (nthI (jW n m a b r u v 2) j)], (AV.lst 1 (List.length (jW n m a b r u v 3)) fun j => [iI (nthI (jW n m a b r u v 3) j)]) = AV.lst 1 (List.length (jW n m a b r u v 3)) fun j => [iI (nthI (jW n m a b r u v 3) j)], (AV.lst 1 (List.length (jW n m a b r u v 4)) fun j => [iI (nthI (jW n m a b r u v 4) j)]) = AV.lst 1 (List.length (jW n m a b r u v 4)) fun j => [iI (nthI (jW n m a b r u v 4) j)], (AV.lst 1 (List.length (jW n m a b r u v 5)) fun j => [iI (nthI (jW n m a b r u v 5) j)]) = AV.lst 1 (List.length (jW n m a b r u v 5)) fun j => [iI (nthI (jW n m a b r u v 5) j)], (AV.lst 1 (List.length (jW n m a b r u v 6)) fun j => [iI (nthI (jW n m a b r u v 6) j)]) = AV.lst 1 (List.length (jW n m a b r u v 6)) fun j => [iI (nthI (jW n m a b r u v 6) j)], (AV.lst 1 (List.length (jW n m a b r u v 7)) fun j => [iI (nthI (jW n m a b r u v 7) j)]) = AV.lst 1 (List.length (jW n m a b r u v 7)) fun j => [iI (nthI (jW n m a b r u v 7) j)]] (Tree.leaf AEx.normal)))) (Tree.need [inI64 ((↑k : Int) + (1 : Int))] (Tree.need [AV.ptr 8 0 = AV.ptr 8 0, AV.row 900 = AV.row 900, (↑n : Int) = (↑n : Int), (↑k : Int) + (1 : Int) = (↑(k + 1) : Int), List.length (wrL (kdB n m a b r u v) k) = List.length (wrL (kdB n m a b r u v) (k + 1)), ∀ (i : Nat), i < List.length (wrL (kdB n m a b r u v) (k + 1)) → [Ytchcegfhamngkaa.i (nthI (wrL (kdB n m a b r u v) k) i)] = [Ytchcegfhamngkaa.i (nthI (wrL (kdB n m a b r u v) (k + 1)) i)], (AV.lst 1 (List.length (jW n m a b r u v 0)) fun j => [iI (nthI (jW n m a b r u v 0) j)]) = AV.lst 1 (List.length (jW n m a b r u v 0)) fun j => [iI (nthI (jW n m a b r u v 0) j)], (AV.lst 1 (List.length (jW n m a b r u v 1)) fun j => [iI (nthI (jW n m a b r u v 1) j)]) = AV.lst 1 (List.length (jW n m a b r u v 1)) fun j => [iI (nthI (jW n m a b r u v 1) j)], (AV.lst 1 (List.length (jW n m a b r u v 2)) fun j => [iI (nthI (jW n m a b r u v 2) j)]) = AV.lst 1 (List.length (jW n m a b r u v 2)) fun j => [iI (nthI (jW n m a b r u v 2) j)], (AV.lst 1 (List.length (jW n m a b r u v 3)) fun j => [iI (nthI (jW n m a b r u v 3) j)]) = AV.lst 1 (List.length (jW n m a b r u v 3)) fun j => [iI (nthI (jW n m a b r u v 3) j)], (AV.lst 1 (List.length (jW n m a b r u v 4)) fun j => [iI (nthI (jW n m a b r u v 4) j)]) = AV.lst 1 (List.length (jW n m a b r u v 4)) fun j => [iI (nthI (jW n m a b r u v 4) j)], (AV.lst 1 (List.length (jW n m a b r u v 5)) fun j => [iI (nthI (jW n m a b r u v 5) j)]) = AV.lst 1 (List.length (jW n m a b r u v 5)) fun j => [iI (nthI (jW n m a b r u v 5) j)], (AV.lst 1 (List.length (jW n m a b r u v 6)) fun j => [iI (nthI (jW n m a b r u v 6) j)]) = AV.lst 1 (List.length (jW n m a b r u v 6)) fun j => [iI (nthI (jW n m a b r u v 6) j)], (AV.lst 1 (List.length (jW n m a b r u v 7)) fun j => [iI (nthI (jW n m a b r u v 7) j)]) = AV.lst 1 (List.length (jW n m a b r u v 7)) fun j => [iI (nthI (jW n m a b r u v 7) j)]] (Tree.leaf AEx.normal)))))) (Tree.need [AV.ptr 8 0 = AV.ptr 8 0, AV.row 900 = AV.row 900, (↑n : Int) = (↑n : Int), List.length (wrL (kdB n m a b r u v) k) = List.length (wrL (kdB n m a b r u v) n), ∀ (i : Nat), i < List.length (wrL (kdB n m a b r u v) n) → [Ytchcegfhamngkaa.i (nthI (wrL (kdB n m a b r u v) k) i)] = [Ytchcegfhamngkaa.i (nthI (wrL (kdB n m a b r u v) n) i)], (AV.lst 1 (List.length (jW n m a b r u v 0)) fun j => [iI (nthI (jW n m a b r u v 0) j)]) = AV.lst 1 (List.length (jW n m a b r u v 0)) fun j => [iI (nthI (jW n m a b r u v 0) j)], (AV.lst 1 (List.length (jW n m a b r u v 1)) fun j => [iI (nthI (jW n m a b r u v 1) j)]) = AV.lst 1 (List.length (jW n m a b r u v 1)) fun j => [iI (nthI (jW n m a b r u v 1) j)], (AV.lst 1 (List.length (jW n m a b r u v 2)) fun j => [iI (nthI (jW n m a b r u v 2) j)]) = AV.lst 1 (List.length (jW n m a b r u v 2)) fun j => [iI (nthI (jW n m a b r u v 2) j)], (AV.lst 1 (List.length (jW n m a b r u v 3)) fun j => [iI (nthI (jW n m a b r u v 3) j)]) = AV.lst 1 (List.length (jW n m a b r u v 3)) fun j => [iI (nthI (jW n m a b r u v 3) j)], (AV.lst 1 (List.length (jW n m a b r u v 4)) fun j => [iI (nthI (jW n m a b r u v 4) j)]) = AV.lst 1 (List.length (jW n m a b r u v 4)) fun j => [iI (nthI (jW n m a b r u v 4) j)], (AV.lst 1 (List.length (jW n m a b r u v 5)) fun j => [iI (nthI (jW n m a b r u v 5) j)]) = AV.lst 1 (List.length (jW n m a b r u v 5)) fun j => [iI (nthI (jW n m a b r u v 5) j)], (AV.lst 1 (List.length (jW n m a b r u v 6)) fun j => [iI (nthI (jW n m a b r u v 6) j)]) = AV.lst 1 (List.length (jW n m a b r u v 6)) fun j => [iI (nthI (jW n m a b r u v 6) j)], (AV.lst 1 (List.length (jW n m a b r u v 7)) fun j => [iI (nthI (jW n m a b r u v 7) j)]) = AV.lst 1 (List.length (jW n m a b r u v 7)) fun j => [iI (nthI (jW n m a b r u v 7) j)]] (Tree.leaf (AEx.exit 0)))) := by kernel_rfl
    rw [e]
    simp only [T_kd, out_kd, Tree.sat, Option.getD_some] at hQ
    have hQ1 : ∀ E, out_kd n m a b r u v k (.exit 0) = some E → Q (.exit 0, E) := fun E hE => by cases hE; exact hQ
    have hl := wrL_len (kdB n m a b r u v) k
    have h8 : (jWs n m a b r u v).length = 8 := rfl
    have e0 : 0 + Int.toNat (k : Int) * 1 = k := by omega
    rw [h8]
    simp only [Tree.sat, allP, true_and, and_true, decide_eq_true_eq, decide_eq_false_iff_not, inI64, e0]
    clear e hQ
    by_cases hk : k < n
    · rw [nth_jW n m a b r u v (show k < 8 by omega)]
      by_cases hz : (jW n m a b r u v k).length = 0
      · have e3 : wrL (kdB n m a b r u v) (k + 1) = wrL (kdB n m a b r u v) k ++ [(k : Int)] := by simp [wrL, kdB, hz]
        have ez : (((jW n m a b r u v k).length : Int) == 0) = true := by simp [hz]
        simp only [e3, ez, List.length_append, List.length_cons, List.length_nil]
        repeat' first | with_reducible apply And.intro | with_reducible intro _
        all_goals first | exact True.intro | omega | with_reducible rfl | assumption | exact catFl (by omega) | (rename_i hm; exact one_of hm (by simp [AV.one, Value.oneCell'])) | contradiction
      · have e3 : wrL (kdB n m a b r u v) (k + 1) = wrL (kdB n m a b r u v) k := by simp [wrL, kdB, hz]
        have ez : (((jW n m a b r u v k).length : Int) == 0) = false := by rw [beq_eq_false_iff_ne]; omega
        simp only [e3, ez]
        repeat' first | with_reducible apply And.intro | with_reducible intro _
        all_goals first | exact True.intro | omega | with_reducible rfl | assumption | contradiction
    · obtain rfl : k = n := by omega
      repeat' first | with_reducible apply And.intro | with_reducible intro _
      all_goals first | exact True.intro | omega | with_reducible rfl | assumption | exact hQ1 _ (by assumption)

set_option maxRecDepth 100000 in
theorem Kinds_at (n m : Nat) (a b r u v : Nat → Int) (pre0 : n ≤ 100000) (pre1 : m ≤ 100000) : SoundAt Try.prog 43 [scs n a b, ens m r u v] (.tup [inl (kdL n m a b r u v), i (ddE n m a b r u v)]) := by
  refine soundAt_fin (G := [(73, S_judged)]) (L := [needSp [n ≤ 8] (LS_kd n m a b r u v)]) (SoundG.cons judged_ok (SoundG.nil _)) mixed Try.func43 (show Try.f43.body = some (bodyOf Try.f43) by kernel_rfl) (one_loop (fun cj hcj => by
    have e : loopAt (bodyOf Try.f43) 0 = some (.loop B_kd) := by kernel_rfl
    rw [e] at hcj; cases hcj
    exact needSp_sound (fun h => kd_ls n m a b r u v h))) (t := (Tree.need [isRec 2 n fun k => [i (a k), i (b k)], isRec 3 m fun k => [i (r k), i (u k), i (v k)], n ≤ 100000, m ≤ 100000] (Tree.branch (ddE n m (col 0 fun k => [i (a k), i (b k)]) (col 1 fun k => [i (a k), i (b k)]) (col 0 fun k => [i (r k), i (u k), i (v k)]) (col 1 fun k => [i (r k), i (u k), i (v k)]) (col 2 fun k => [i (r k), i (u k), i (v k)]) != (0 : Int)) (Tree.leaf (RV.tup [RV.x (Value.slice none 0 0), RV.x (Value.int IntKind.i64 (ddE n m (col 0 fun k => [i (a k), i (b k)]) (col 1 fun k => [i (a k), i (b k)]) (col 0 fun k => [i (r k), i (u k), i (v k)]) (col 1 fun k => [i (r k), i (u k), i (v k)]) (col 2 fun k => [i (r k), i (u k), i (v k)])))])) (Tree.need [n ≤ 8] (Tree.need [AV.ptr 8 0 = AV.ptr 8 0, AV.row 900 = AV.row 900, (↑n : Int) = (↑n : Int), (0 : Int) = (↑(0 : Nat) : Int), 0 = List.length (wrL (kdB n m a b r u v) 0), ∀ (i : Nat), i < List.length (wrL (kdB n m a b r u v) 0) → [] = [Ytchcegfhamngkaa.i (nthI (wrL (kdB n m a b r u v) 0) i)], (AV.lst 1 (List.length (jW n m (col 0 fun k => [i (a k), i (b k)]) (col 1 fun k => [i (a k), i (b k)]) (col 0 fun k => [i (r k), i (u k), i (v k)]) (col 1 fun k => [i (r k), i (u k), i (v k)]) (col 2 fun k => [i (r k), i (u k), i (v k)]) 0)) fun j => [iI (nthI (jW n m (col 0 fun k => [i (a k), i (b k)]) (col 1 fun k => [i (a k), i (b k)]) (col 0 fun k => [i (r k), i (u k), i (v k)]) (col 1 fun k => [i (r k), i (u k), i (v k)]) (col 2 fun k => [i (r k), i (u k), i (v k)]) 0) j)]) = AV.lst 1 (List.length (jW n m a b r u v 0)) fun j => [iI (nthI (jW n m a b r u v 0) j)], (AV.lst 1 (List.length (jW n m (col 0 fun k => [i (a k), i (b k)]) (col 1 fun k => [i (a k), i (b k)]) (col 0 fun k => [i (r k), i (u k), i (v k)]) (col 1 fun k => [i (r k), i (u k), i (v k)]) (col 2 fun k => [i (r k), i (u k), i (v k)]) 1)) fun j => [iI (nthI (jW n m (col 0 fun k => [i (a k), i (b k)]) (col 1 fun k => [i (a k), i (b k)]) (col 0 fun k => [i (r k), i (u k), i (v k)]) (col 1 fun k => [i (r k), i (u k), i (v k)]) (col 2 fun k => [i (r k), i (u k), i (v k)]) 1) j)]) = AV.lst 1 (List.length (jW n m a b r u v 1)) fun j => [iI (nthI (jW n m a b r u v 1) j)], (AV.lst 1 (List.length (jW n m (col 0 fun k => [i (a k), i (b k)]) (col 1 fun k => [i (a k), i (b k)]) (col 0 fun k => [i (r k), i (u k), i (v k)]) (col 1 fun k => [i (r k), i (u k), i (v k)]) (col 2 fun k => [i (r k), i (u k), i (v k)]) 2)) fun j => [iI (nthI (jW n m (col 0 fun k => [i (a k), i (b k)]) (col 1 fun k => [i (a k), i (b k)]) (col 0 fun k => [i (r k), i (u k), i (v k)]) (col 1 fun k => [i (r k), i (u k), i (v k)]) (col 2 fun k => [i (r k), i (u k), i (v k)]) 2) j)]) = AV.lst 1 (List.length (jW n m a b r u v 2)) fun j => [iI (nthI (jW n m a b r u v 2) j)], (AV.lst 1 (List.length (jW n m (col 0 fun k => [i (a k), i (b k)]) (col 1 fun k => [i (a k), i (b k)]) (col 0 fun k => [i (r k), i (u k), i (v k)]) (col 1 fun k => [i (r k), i (u k), i (v k)]) (col 2 fun k => [i (r k), i (u k), i (v k)]) 3)) fun j => [iI (nthI (jW n m (col 0 fun k => [i (a k), i (b k)]) (col 1 fun k => [i (a k), i (b k)]) (col 0 fun k => [i (r k), i (u k), i (v k)]) (col 1 fun k => [i (r k), i (u k), i (v k)]) (col 2 fun k => [i (r k), i (u k), i (v k)]) 3) j)]) = AV.lst 1 (List.length (jW n m a b r u v 3)) fun j => [iI (nthI (jW n m a b r u v 3) j)], (AV.lst 1 (List.length (jW n m (col 0 fun k => [i (a k), i (b k)]) (col 1 fun k => [i (a k), i (b k)]) (col 0 fun k => [i (r k), i (u k), i (v k)]) (col 1 fun k => [i (r k), i (u k), i (v k)]) (col 2 fun k => [i (r k), i (u k), i (v k)]) 4)) fun j => [iI (nthI (jW n m (col 0 fun k => [i (a k), i (b k)]) (col 1 fun k => [i (a k), i (b k)]) (col 0 fun k => [i (r k), i (u k), i (v k)]) (col 1 fun k => [i (r k), i (u k), i (v k)]) (col 2 fun k => [i (r k), i (u k), i (v k)]) 4) j)]) = AV.lst 1 (List.length (jW n m a b r u v 4)) fun j => [iI (nthI (jW n m a b r u v 4) j)], (AV.lst 1 (List.length (jW n m (col 0 fun k => [i (a k), i (b k)]) (col 1 fun k => [i (a k), i (b k)]) (col 0 fun k => [i (r k), i (u k), i (v k)]) (col 1 fun k => [i (r k), i (u k), i (v k)]) (col 2 fun k => [i (r k), i (u k), i (v k)]) 5)) fun j => [iI (nthI (jW n m (col 0 fun k => [i (a k), i (b k)]) (col 1 fun k => [i (a k), i (b k)]) (col 0 fun k => [i (r k), i (u k), i (v k)]) (col 1 fun k => [i (r k), i (u k), i (v k)]) (col 2 fun k => [i (r k), i (u k), i (v k)]) 5) j)]) = AV.lst 1 (List.length (jW n m a b r u v 5)) fun j => [iI (nthI (jW n m a b r u v 5) j)], (AV.lst 1 (List.length (jW n m (col 0 fun k => [i (a k), i (b k)]) (col 1 fun k => [i (a k), i (b k)]) (col 0 fun k => [i (r k), i (u k), i (v k)]) (col 1 fun k => [i (r k), i (u k), i (v k)]) (col 2 fun k => [i (r k), i (u k), i (v k)]) 6)) fun j => [iI (nthI (jW n m (col 0 fun k => [i (a k), i (b k)]) (col 1 fun k => [i (a k), i (b k)]) (col 0 fun k => [i (r k), i (u k), i (v k)]) (col 1 fun k => [i (r k), i (u k), i (v k)]) (col 2 fun k => [i (r k), i (u k), i (v k)]) 6) j)]) = AV.lst 1 (List.length (jW n m a b r u v 6)) fun j => [iI (nthI (jW n m a b r u v 6) j)], (AV.lst 1 (List.length (jW n m (col 0 fun k => [i (a k), i (b k)]) (col 1 fun k => [i (a k), i (b k)]) (col 0 fun k => [i (r k), i (u k), i (v k)]) (col 1 fun k => [i (r k), i (u k), i (v k)]) (col 2 fun k => [i (r k), i (u k), i (v k)]) 7)) fun j => [iI (nthI (jW n m (col 0 fun k => [i (a k), i (b k)]) (col 1 fun k => [i (a k), i (b k)]) (col 0 fun k => [i (r k), i (u k), i (v k)]) (col 1 fun k => [i (r k), i (u k), i (v k)]) (col 2 fun k => [i (r k), i (u k), i (v k)]) 7) j)]) = AV.lst 1 (List.length (jW n m a b r u v 7)) fun j => [iI (nthI (jW n m a b r u v 7) j)]] (Tree.leaf (RV.tup [RV.lst 1 (List.length (wrL (kdB n m a b r u v) n)) fun j => [iI (nthI (wrL (kdB n m a b r u v) n) j)], RV.x (Value.int IntKind.i64 (0 : Int))]))))))) (by kernel_rfl) ?_
  have e1 : ∀ x y : Nat → Int, col 0 (fun k => [i (x k), i (y k)]) = x := fun _ _ => rfl
  simp only [Tree.sat, allP, fitP_tup, fitP_int, fitL, true_and, and_true, col20, col21, col30, col31, col32]
  refine ⟨⟨isRec2 n a b, isRec3 m r u v, pre0, pre1⟩, fun h => ?_, fun h => ?_⟩
  · have h' : ddE n m a b r u v ≠ 0 := by simpa using h
    exact fit_no (by simp [kdL, h'])
  · have h' : ddE n m a b r u v = 0 := by simpa using h
    have h8 : n ≤ 8 := by
      unfold ddE at h'
      split at h' <;> omega
    refine ⟨h8, ?_⟩
    rw [h']
    repeat' first | with_reducible apply And.intro | with_reducible intro _
    all_goals first | exact True.intro | omega | with_reducible rfl | exact fit_in (by simp [kdL, h']) | (rename_i hm; exact absurd hm (by simp [wrL])) | exact rfl


def S_Kinds : Sx.Spec := fun l => match l with
  | [.lst 2 n f, .lst 3 m g] => some ([isRec 2 n f, isRec 3 m g, n ≤ 100000, m ≤ 100000], .tup [inl (kdL n m (col 0 f) (col 1 f) (col 0 g) (col 1 g) (col 2 g)), i (ddE n m (col 0 f) (col 1 f) (col 0 g) (col 1 g) (col 2 g))])
  | _ => none


theorem Kinds_ok : SoundSpec Try.prog 43 S_Kinds := by
  refine ⟨⟨_, Try.func43, by kernel_rfl, by kernel_rfl⟩, ?_⟩
  intro avs ns res h hn
  unfold S_Kinds at h
  split at h
  · rename_i n f m g
    cases h
    have hr : isRec 2 n f := hn _ (by simp)
    have hr2 : isRec 3 m g := hn _ (by simp)
    exact (Kinds_at n m (col 0 f) (col 1 f) (col 0 g) (col 1 g) (col 2 g) (hn _ (by simp)) (hn _ (by simp))).same (.cons (.lst 2 n _ _ hr) (.cons (.lst 3 m _ _ hr2) .nil))
  · cases h


/-- The first scale with the fewest wrong entries. -/
def bst (L : Nat → Nat) : Nat → Nat
  | 0 => 0
  | k + 1 => if L k < L (bst L k) then k else bst L k
def wgE (n m : Nat) (a b r u v : Nat → Int) : Int := if ddE n m a b r u v = 0 then (if n = 0 then 7 else 0) else ddE n m a b r u v
def wgS (n m : Nat) (a b r u v : Nat → Int) : Nat := bst (fun j => (jW n m a b r u v j).length) n
def wgN (n m : Nat) (a b r u v : Nat → Int) : Int := if wgE n m a b r u v = 0 then (wgS n m a b r u v : Int) else 0
def wgL (n m : Nat) (a b r u v : Nat → Int) : List Int := if wgE n m a b r u v = 0 then jW n m a b r u v (wgS n m a b r u v) else []


theorem bst_lt (L : Nat → Nat) : ∀ k, bst L k ≤ k - 1 ∧ (0 < k → bst L k < k)
  | 0 => by simp [bst]
  | k + 1 => by
    have := bst_lt L k
    unfold bst
    split
    · omega
    · rcases Nat.eq_zero_or_pos k with h | h
      · subst h; simp [bst]
      · have := this.2 h; omega
theorem bst_zero (L : Nat → Nat) {k : Nat} (h : L (bst L k) = 0) : ∀ n, k ≤ n → bst L n = bst L k := by
  intro n hn
  induction n with
  | zero => have : k = 0 := by omega
            subst this; rfl
  | succ n ih =>
    rcases (show k ≤ n ∨ k = n + 1 by omega) with h1 | rfl
    · have e := ih h1
      show (if L n < L (bst L n) then n else bst L n) = bst L k
      rw [e, h, if_neg (by omega)]
    · rfl

noncomputable def E_wg (n m : Nat) (a b r u v : Nat → Int) : St := (some { σ := mkS 49 [(7, .ptr 9 0), (24, i n)], m := [], nx := 20 } : Option St).getD { σ := [], m := [], nx := 0 }
noncomputable def B_wg : Code := loopBody (loopAt (bodyOf Try.f45) 0)
noncomputable def inv_wg (n m : Nat) (a b r u v : Nat → Int) (k : Nat) : St := { σ := ovrS [(25, i k), (4, i (bst (fun j => (jW n m a b r u v j).length) k))] (E_wg n m a b r u v).σ, m := [(9, .cells 117 (jWs n m a b r u v))], nx := (E_wg n m a b r u v).nx }
noncomputable def out_wg (n m : Nat) (a b r u v : Nat → Int) (k : Nat) : AEx → Option St := fun ex => match ex with
  | .exit 1 => some { σ := ovrS [(4, i (bst (fun j => (jW n m a b r u v j).length) n))] (E_wg n m a b r u v).σ, m := [(9, .cells 117 (jWs n m a b r u v))], nx := (E_wg n m a b r u v).nx }
  | _ => none
noncomputable def T_wg (n m : Nat) (a b r u v : Nat → Int) : CT := .leaf (.exit 1, ( out_wg n m a b r u v 0 (.exit 1)).getD (E_wg n m a b r u v))
noncomputable def LS_wg (n m : Nat) (a b r u v : Nat → Int) : LSpec := (sumL (inv_wg n m a b r u v (0)) (T_wg n m a b r u v))
set_option maxRecDepth 100000 in
theorem wg_ls (n m : Nat) (a b r u v : Nat → Int) (pre0 : n ≤ 8) : LSound Try.prog (.loop B_wg) (LS_wg n m a b r u v) := by
  refine loop_rounds (G := [(73, S_judged)]) (L := []) (SoundG.cons judged_ok (SoundG.nil _)) mixed noLoops (X := Nat) (inv_wg n m a b r u v) (fun k => k ≤ n) (fun k => n - k) (out_wg n m a b r u v) (x0 := 0) (by simp) ?_ ?_ ?_
  · rintro k
    kernel_rfl
  · rintro k y E h
    unfold out_wg at h
    split at h
    · cases h; kernel_rfl
    · cases h
  · rintro Q hQ k hx
    refine ⟨(k + 1), ?_⟩
    have e : roundT Try.prog [(73, S_judged)] [] B_wg (inv_wg n m a b r u v k) (inv_wg n m a b r u v ((k + 1))) (out_wg n m a b r u v k) = (Tree.branch (decide ((↑k : Int) < (↑n : Int))) (Tree.need [(0 : Int) ≤ (↑k : Int) ∧ (↑k : Int) < (↑(8 : Nat) : Int)] (Tree.need [0 + Int.toNat (↑k : Int) * 1 < List.length (jWs n m a b r u v)] (Tree.need [(0 : Int) ≤ (↑(bst (fun j => List.length (jW n m a b r u v j)) k) : Int) ∧ (↑(bst (fun j => List.length (jW n m a b r u v j)) k) : Int) < (↑(8 : Nat) : Int)] (Tree.need [0 + Int.toNat (↑(bst (fun j => List.length (jW n m a b r u v j)) k) : Int) * 1 < List.length (jWs n m a b r u v)] (Tree.branch (decide ((↑(nthN [(List.length (jW n m a b r u v 0), fun j => [i (nthI (jW n m a b r u v 0) j)]), (List.length (jW n m a b r u v 1), fun j => [i (nthI (jW n m a b r u v 1) j)]), (List.length (jW n m a b r u v 2), fun j => [i (nthI (jW n m a b r u v 2) j)]), (List.length (jW n m a b r u v 3), fun j => [i (nthI (jW n m a b r u v 3) j)]), (List.length (jW n m a b r u v 4), fun j => [i (nthI (jW n m a b r u v 4) j)]), (List.length (jW n m a b r u v 5), fun j => [i (nthI (jW n m a b r u v 5) j)]), (List.length (jW n m a b r u v 6), fun j => [i (nthI (jW n m a b r u v 6) j)]), (List.length (jW n m a b r u v 7), fun j => [i (nthI (jW n m a b r u v 7) j)])] (0 + Int.toNat (↑k : Int) * 1)) : Int) < (↑(nthN [(List.length (jW n m a b r u v 0), fun j => [i (nthI (jW n m a b r u v 0) j)]), (List.length (jW n m a b r u v 1), fun j => [i (nthI (jW n m a b r u v 1) j)]), (List.length (jW n m a b r u v 2), fun j => [i (nthI (jW n m a b r u v 2) j)]), (List.length (jW n m a b r u v 3), fun j => [i (nthI (jW n m a b r u v 3) j)]), (List.length (jW n m a b r u v 4), fun j => [i (nthI (jW n m a b r u v 4) j)]), (List.length (jW n m a b r u v 5), fun j => [i (nthI (jW n m a b r u v 5) j)]), (List.length (jW n m a b r u v 6), fun j => [i (nthI (jW n m a b r u v 6) j)]), (List.length (jW n m a b r u v 7), fun j => [i (nthI (jW n m a b r u v 7) j)])] (0 + Int.toNat (↑(bst (fun j => List.length (jW n m a b r u v j)) k) : Int) * 1)) : Int))) (Tree.need [(0 : Int) ≤ (↑k : Int) ∧ (↑k : Int) < (↑(8 : Nat) : Int)] (Tree.need [0 + Int.toNat (↑k : Int) * 1 < List.length (jWs n m a b r u v)] (Tree.branch ((↑(nthN [(List.length (jW n m a b r u v 0), fun j => [i (nthI (jW n m a b r u v 0) j)]), (List.length (jW n m a b r u v 1), fun j => [i (nthI (jW n m a b r u v 1) j)]), (List.length (jW n m a b r u v 2), fun j => [i (nthI (jW n m a b r u v 2) j)]), (List.length (jW n m a b r u v 3), fun j => [i (nthI (jW n m a b r u v 3) j)]), (List.length (jW n m a b r u v 4), fun j => [i (nthI (jW n m a b r u v 4) j)]), (List.length (jW n m a b r u v 5), fun j => [i (nthI (jW n m a b r u v 5) j)]), (List.length (jW n m a b r u v 6), fun j => [i (nthI (jW n m a b r u v 6) j)]), (List.length (jW n m a b r u v 7), fun j => [i (nthI (jW n m a b r u v 7) j)])] (0 + Int.toNat (↑k : Int) * 1)) : Int) == (0 : Int)) (Tree.need [(↑k : Int) = (↑(bst (fun j => List.length (jW n m a b r u v j)) n) : Int), AV.ptr 9 0 = AV.ptr 9 0, (↑n : Int) = (↑n : Int), (AV.lst 1 (List.length (jW n m a b r u v 0)) fun j => [iI (nthI (jW n m a b r u v 0) j)]) = AV.lst 1 (List.length (jW n m a b r u v 0)) fun j => [iI (nthI (jW n m a b r u v 0) j)], (AV.lst 1 (List.length (jW n m a b r u v 1)) fun j => [iI (nthI (jW n m a b r u v 1) j)]) = AV.lst 1 (List.length (jW n m a b r u v 1)) fun j => [iI (nthI (jW n m a b r u v 1) j)], (AV.lst 1 (List.length (jW n m a b r u v 2)) fun j => [iI (nthI (jW n m a b r u v 2) j)]) = AV.lst 1 (List.length (jW n m a b r u v 2)) fun j => [iI (nthI (jW n m a b r u v 2) j)], (AV.lst 1 (List.length (jW n m a b r u v 3)) fun j => [iI (nthI (jW n m a b r u v 3) j)]) = AV.lst 1 (List.length (jW n m a b r u v 3)) fun j => [iI (nthI (jW n m a b r u v 3) j)], (AV.lst 1 (List.length (jW n m a b r u v 4)) fun j => [iI (nthI (jW n m a b r u v 4) j)]) = AV.lst 1 (List.length (jW n m a b r u v 4)) fun j => [iI (nthI (jW n m a b r u v 4) j)], (AV.lst 1 (List.length (jW n m a b r u v 5)) fun j => [iI (nthI (jW n m a b r u v 5) j)]) = AV.lst 1 (List.length (jW n m a b r u v 5)) fun j => [iI (nthI (jW n m a b r u v 5) j)], (AV.lst 1 (List.length (jW n m a b r u v 6)) fun j => [iI (nthI (jW n m a b r u v 6) j)]) = AV.lst 1 (List.length (jW n m a b r u v 6)) fun j => [iI (nthI (jW n m a b r u v 6) j)], (AV.lst 1 (List.length (jW n m a b r u v 7)) fun j => [iI (nthI (jW n m a b r u v 7) j)]) = AV.lst 1 (List.length (jW n m a b r u v 7)) fun j => [iI (nthI (jW n m a b r u v 7) j)]] (Tree.leaf (AEx.exit 1))) (Tree.need [inI64 ((↑k : Int) + (1 : Int))] (Tree.need [(↑k : Int) = (↑(bst (fun j => List.length (jW n m a b r u v j)) (k + 1)) : Int), AV.ptr 9 0 = AV.ptr 9 0, (↑n : Int) = (↑n : Int), (↑k : Int) + (1 : Int) = (↑(k + 1) : Int), (AV.lst 1 (List.length (jW n m a b r u v 0)) fun j => [iI (nthI (jW n m a b r u v 0) j)]) = AV.lst 1 (List.length (jW n m a b r u v 0)) fun j => [iI (nthI (jW n m a b r u v 0) j)], (AV.lst 1 (List.length (jW n m a b r u v 1)) fun j => [iI (nthI (jW n m a b r u v 1) j)]) = AV.lst 1 (List.length (jW n m a b r u v 1)) fun j => [iI (nthI (jW n m a b r u v 1) j)], (AV.lst 1 (List.length (jW n m a b r u v 2)) fun j => [iI (nthI (jW n m a b r u v 2) j)]) = AV.lst 1 (List.length (jW n m a b r u v 2)) fun j => [iI (nthI (jW n m a b r u v 2) j)], (AV.lst 1 (List.length (jW n m a b r u v 3)) fun j => [iI (nthI (jW n m a b r u v 3) j)]) = AV.lst 1 (List.length (jW n m a b r u v 3)) fun j => [iI (nthI (jW n m a b r u v 3) j)], (AV.lst 1 (List.length (jW n m a b r u v 4)) fun j => [iI (nthI (jW n m a b r u v 4) j)]) = AV.lst 1 (List.length (jW n m a b r u v 4)) fun j => [iI (nthI (jW n m a b r u v 4) j)], (AV.lst 1 (List.length (jW n m a b r u v 5)) fun j => [iI (nthI (jW n m a b r u v 5) j)]) = AV.lst 1 (List.length (jW n m a b r u v 5)) fun j => [iI (nthI (jW n m a b r u v 5) j)], (AV.lst 1 (List.length (jW n m a b r u v 6)) fun j => [iI (nthI (jW n m a b r u v 6) j)]) = AV.lst 1 (List.length (jW n m a b r u v 6)) fun j => [iI (nthI (jW n m a b r u v 6) j)], (AV.lst 1 (List.length (jW n m a b r u v 7)) fun j => [iI (nthI (jW n m a b r u v 7) j)]) = AV.lst 1 (List.length (jW n m a b r u v 7)) fun j => [iI (nthI (jW n m a b r u v 7) j)]] (Tree.leaf AEx.normal)))))) (Tree.need [(0 : Int) ≤ (↑(bst (fun j => List.length (jW n m a b r u v j)) k) : Int) ∧ (↑(bst (fun j => List.length (jW n m a b r u v j)) k) : Int) < (↑(8 : Nat) : Int)] (Tree.need [0 + Int.toNat (↑(bst (fun j => List.length (jW n m a b r u v j)) k) : Int) * 1 < List.length (jWs n m a b r u v)] (Tree.branch ((↑(nthN [(List.length (jW n m a b r u v 0), fun j => [i (nthI (jW n m a b r u v 0) j)]), (List.length (jW n m a b r u v 1), fun j => [i (nthI (jW n m a b r u v 1) j)]), (List.length (jW n m a b r u v 2), fun j => [i (nthI (jW n m a b r u v 2) j)]), (List.length (jW n m a b r u v 3), fun j => [i (nthI (jW n m a b r u v 3) j)]), (List.length (jW n m a b r u v 4), fun j => [i (nthI (jW n m a b r u v 4) j)]), (List.length (jW n m a b r u v 5), fun j => [i (nthI (jW n m a b r u v 5) j)]), (List.length (jW n m a b r u v 6), fun j => [i (nthI (jW n m a b r u v 6) j)]), (List.length (jW n m a b r u v 7), fun j => [i (nthI (jW n m a b r u v 7) j)])] (0 + Int.toNat (↑(bst (fun j => List.length (jW n m a b r u v j)) k) : Int) * 1)) : Int) == (0 : Int)) (Tree.need [(↑(bst (fun j => List.length (jW n m a b r u v j)) k) : Int) = (↑(bst (fun j => List.length (jW n m a b r u v j)) n) : Int), AV.ptr 9 0 = AV.ptr 9 0, (↑n : Int) = (↑n : Int), (AV.lst 1 (List.length (jW n m a b r u v 0)) fun j => [iI (nthI (jW n m a b r u v 0) j)]) = AV.lst 1 (List.length (jW n m a b r u v 0)) fun j => [iI (nthI (jW n m a b r u v 0) j)], (AV.lst 1 (List.length (jW n m a b r u v 1)) fun j => [iI (nthI (jW n m a b r u v 1) j)]) = AV.lst 1 (List.length (jW n m a b r u v 1)) fun j => [iI (nthI (jW n m a b r u v 1) j)], (AV.lst 1 (List.length (jW n m a b r u v 2)) fun j => [iI (nthI (jW n m a b r u v 2) j)]) = AV.lst 1 (List.length (jW n m a b r u v 2)) fun j => [iI (nthI (jW n m a b r u v 2) j)], (AV.lst 1 (List.length (jW n m a b r u v 3)) fun j => [iI (nthI (jW n m a b r u v 3) j)]) = AV.lst 1 (List.length (jW n m a b r u v 3)) fun j => [iI (nthI (jW n m a b r u v 3) j)], (AV.lst 1 (List.length (jW n m a b r u v 4)) fun j => [iI (nthI (jW n m a b r u v 4) j)]) = AV.lst 1 (List.length (jW n m a b r u v 4)) fun j => [iI (nthI (jW n m a b r u v 4) j)], (AV.lst 1 (List.length (jW n m a b r u v 5)) fun j => [iI (nthI (jW n m a b r u v 5) j)]) = AV.lst 1 (List.length (jW n m a b r u v 5)) fun j => [iI (nthI (jW n m a b r u v 5) j)], (AV.lst 1 (List.length (jW n m a b r u v 6)) fun j => [iI (nthI (jW n m a b r u v 6) j)]) = AV.lst 1 (List.length (jW n m a b r u v 6)) fun j => [iI (nthI (jW n m a b r u v 6) j)], (AV.lst 1 (List.length (jW n m a b r u v 7)) fun j => [iI (nthI (jW n m a b r u v 7) j)]) = AV.lst 1 (List.length (jW n m a b r u v 7)) fun j => [iI (nthI (jW n m a b r u v 7) j)]] (Tree.leaf (AEx.exit 1))) (Tree.need [inI64 ((↑k : Int) + (1 : Int))] (Tree.need [(↑(bst (fun j => List.length (jW n m a b r u v j)) k) : Int) = (↑(bst (fun j => List.length (jW n m a b r u v j)) (k + 1)) : Int), AV.ptr 9 0 = AV.ptr 9 0, (↑n : Int) = (↑n : Int), (↑k : Int) + (1 : Int) = (↑(k + 1) : Int), (AV.lst 1 (List.length (jW n m a b r u v 0)) fun j => [iI (nthI (jW n m a b r u v 0) j)]) = AV.lst 1 (List.length (jW n m a b r u v 0)) fun j => [iI (nthI (jW n m a b r u v 0) j)], (AV.lst 1 (List.length (jW n m a b r u v 1)) fun j => [iI (nthI (jW n m a b r u v 1) j)]) = AV.lst 1 (List.length (jW n m a b r u v 1)) fun j => [iI (nthI (jW n m a b r u v 1) j)], (AV.lst 1 (List.length (jW n m a b r u v 2)) fun j => [iI (nthI (jW n m a b r u v 2) j)]) = AV.lst 1 (List.length (jW n m a b r u v 2)) fun j => [iI (nthI (jW n m a b r u v 2) j)], (AV.lst 1 (List.length (jW n m a b r u v 3)) fun j => [iI (nthI (jW n m a b r u v 3) j)]) = AV.lst 1 (List.length (jW n m a b r u v 3)) fun j => [iI (nthI (jW n m a b r u v 3) j)], (AV.lst 1 (List.length (jW n m a b r u v 4)) fun j => [iI (nthI (jW n m a b r u v 4) j)]) = AV.lst 1 (List.length (jW n m a b r u v 4)) fun j => [iI (nthI (jW n m a b r u v 4) j)], (AV.lst 1 (List.length (jW n m a b r u v 5)) fun j => [iI (nthI (jW n m a b r u v 5) j)]) = AV.lst 1 (List.length (jW n m a b r u v 5)) fun j => [iI (nthI (jW n m a b r u v 5) j)], (AV.lst 1 (List.length (jW n m a b r u v 6)) fun j => [iI (nthI (jW n m a b r u v 6) j)]) = AV.lst 1 (List.length (jW n m a b r u v 6)) fun j => [iI (nthI (jW n m a b r u v 6) j)], (AV.lst 1 (List.length (jW n m a b r u v 7)) fun j => [iI (nthI (jW n m a b r u v 7) j)]) = AV.lst 1 (List.length (jW n m a b r u v 7)) fun j => [iI (nthI (jW n m a b r u v 7) j)]] (Tree.leaf AEx.normal))))))))))) (Tree.need [(↑(bst (fun j => List.length (jW n m a b r u v j)) k) : Int) = (↑(bst (fun j => List.length (jW n m a b r u v j)) n) : Int), AV.ptr 9 0 = AV.ptr 9 0, (↑n : Int) = (↑n : Int), (AV.lst 1 (List.length (jW n m a b r u v 0)) fun j => [iI (nthI (jW n m a b r u v 0) j)]) = AV.lst 1 (List.length (jW n m a b r u v 0)) fun j => [iI (nthI (jW n m a b r u v 0) j)], (AV.lst 1 (List.length (jW n m a b r u v 1)) fun j => [iI (nthI (jW n m a b r u v 1) j)]) = AV.lst 1 (List.length (jW n m a b r u v 1)) fun j => [iI (nthI (jW n m a b r u v 1) j)], (AV.lst 1 (List.length (jW n m a b r u v 2)) fun j => [iI (nthI (jW n m a b r u v 2) j)]) = AV.lst 1 (List.length (jW n m a b r u v 2)) fun j => [iI (nthI (jW n m a b r u v 2) j)], (AV.lst 1 (List.length (jW n m a b r u v 3)) fun j => [iI (nthI (jW n m a b r u v 3) j)]) = AV.lst 1 (List.length (jW n m a b r u v 3)) fun j => [iI (nthI (jW n m a b r u v 3) j)], (AV.lst 1 (List.length (jW n m a b r u v 4)) fun j => [iI (nthI (jW n m a b r u v 4) j)]) = AV.lst 1 (List.length (jW n m a b r u v 4)) fun j => [iI (nthI (jW n m a b r u v 4) j)], (AV.lst 1 (List.length (jW n m a b r u v 5)) fun j => [iI (nthI (jW n m a b r u v 5) j)]) = AV.lst 1 (List.length (jW n m a b r u v 5)) fun j => [iI (nthI (jW n m a b r u v 5) j)], (AV.lst 1 (List.length (jW n m a b r u v 6)) fun j => [iI (nthI (jW n m a b r u v 6) j)]) = AV.lst 1 (List.length (jW n m a b r u v 6)) fun j => [iI (nthI (jW n m a b r u v 6) j)], (AV.lst 1 (List.length (jW n m a b r u v 7)) fun j => [iI (nthI (jW n m a b r u v 7) j)]) = AV.lst 1 (List.length (jW n m a b r u v 7)) fun j => [iI (nthI (jW n m a b r u v 7) j)]] (Tree.leaf (AEx.exit 1)))) := by kernel_rfl
    rw [e]
    simp only [T_wg, out_wg, Tree.sat, Option.getD_some] at hQ
    have hQ1 : ∀ E, out_wg n m a b r u v k (.exit 1) = some E → Q (.exit 1, E) := fun E hE => by cases hE; exact hQ
    have h8 : (jWs n m a b r u v).length = 8 := rfl
    have e0 : 0 + Int.toNat (k : Int) * 1 = k := by omega
    have hb := bst_lt (fun j => (jW n m a b r u v j).length) k
    have hz := bst_zero (fun j => (jW n m a b r u v j).length) (k := k + 1)
    have hs : bst (fun j => (jW n m a b r u v j).length) (k + 1) = if (jW n m a b r u v k).length < (jW n m a b r u v (bst (fun j => (jW n m a b r u v j).length) k)).length then k else bst (fun j => (jW n m a b r u v j).length) k := rfl
    have e1 : 0 + Int.toNat ((bst (fun j => (jW n m a b r u v j).length) k : Nat) : Int) * 1 = bst (fun j => (jW n m a b r u v j).length) k := by omega
    rw [h8]
    simp only [Tree.sat, allP, true_and, and_true, decide_eq_true_eq, decide_eq_false_iff_not, inI64, e0, e1]
    clear e hQ e0 e1
    by_cases hk : k < n
    · generalize hB : bst (fun j => (jW n m a b r u v j).length) k = B at *
      have hB8 : B < 8 := by omega
      rw [nth_jW n m a b r u v (show k < 8 by omega), nth_jW n m a b r u v hB8]
      by_cases hl : (jW n m a b r u v k).length < (jW n m a b r u v B).length
      · rw [if_pos hl] at hs
        rw [hs] at hz ⊢
        by_cases h0 : (jW n m a b r u v k).length = 0
        · have hz' := hz h0 n (by omega)
          have ez : (((jW n m a b r u v k).length : Int) == 0) = true := by simp [h0]
          rw [ez]
          repeat' first | with_reducible apply And.intro | with_reducible intro _
          all_goals first | exact True.intro | omega | with_reducible rfl | contradiction | exact hQ1 _ (by assumption)
        · have ez : (((jW n m a b r u v k).length : Int) == 0) = false := by rw [beq_eq_false_iff_ne]; omega
          rw [ez]
          clear hz
          repeat' first | with_reducible apply And.intro | with_reducible intro _
          all_goals first | exact True.intro | omega | with_reducible rfl | contradiction
      · rw [if_neg hl] at hs
        rw [hs] at hz ⊢
        by_cases h0 : (jW n m a b r u v B).length = 0
        · have hz' := hz h0 n (by omega)
          have ez : (((jW n m a b r u v B).length : Int) == 0) = true := by simp [h0]
          rw [ez]
          repeat' first | with_reducible apply And.intro | with_reducible intro _
          all_goals first | exact True.intro | omega | with_reducible rfl | contradiction | exact hQ1 _ (by assumption)
        · have ez : (((jW n m a b r u v B).length : Int) == 0) = false := by rw [beq_eq_false_iff_ne]; omega
          rw [ez]
          clear hz
          repeat' first | with_reducible apply And.intro | with_reducible intro _
          all_goals first | exact True.intro | omega | with_reducible rfl | contradiction
    · obtain rfl : k = n := by omega
      clear hz hs
      repeat' first | with_reducible apply And.intro | with_reducible intro _
      all_goals first | exact True.intro | omega | with_reducible rfl | assumption | exact hQ1 _ (by assumption)

set_option maxRecDepth 100000 in
theorem Wrong_at (n m : Nat) (a b r u v : Nat → Int) (pre0 : n ≤ 100000) (pre1 : m ≤ 100000) : SoundAtR Try.prog 45 [scs n a b, ens m r u v] (.tup [i (wgN n m a b r u v), inl (wgL n m a b r u v), i (wgE n m a b r u v)]) := by
  refine soundAtR_fin (G := [(73, S_judged), (74, S_clone)]) (X := { R := [], H := [] }) (L := [needSp [n ≤ 8] (LS_wg n m a b r u v)]) (SoundG.cons judged_ok (SoundG.cons clone_ok (SoundG.nil _))) (SoundX.of (SoundRL.nil _) (SoundHL.nil _)) mixed Try.func45 (show Try.f45.body = some (bodyOf Try.f45) by kernel_rfl) (one_loop (fun cj hcj => by
    have e : loopAt (bodyOf Try.f45) 0 = some (.loop B_wg) := by kernel_rfl
    rw [e] at hcj; cases hcj
    exact (needSp_sound (ps := [n ≤ 8]) (fun h => wg_ls n m a b r u v h)).N)) (t := (Tree.need [isRec 2 n fun k => [i (a k), i (b k)], isRec 3 m fun k => [i (r k), i (u k), i (v k)], n ≤ 100000, m ≤ 100000] (Tree.branch (ddE n m (col 0 fun k => [i (a k), i (b k)]) (col 1 fun k => [i (a k), i (b k)]) (col 0 fun k => [i (r k), i (u k), i (v k)]) (col 1 fun k => [i (r k), i (u k), i (v k)]) (col 2 fun k => [i (r k), i (u k), i (v k)]) != (0 : Int)) (Tree.leaf (AV.tup [iI (0 : Int), AV.x (Value.slice none 0 0), iI (ddE n m (col 0 fun k => [i (a k), i (b k)]) (col 1 fun k => [i (a k), i (b k)]) (col 0 fun k => [i (r k), i (u k), i (v k)]) (col 1 fun k => [i (r k), i (u k), i (v k)]) (col 2 fun k => [i (r k), i (u k), i (v k)]))])) (Tree.branch ((↑n : Int) == (0 : Int)) (Tree.leaf (AV.tup [iI (0 : Int), AV.x (Value.slice none 0 0), iI (7 : Int)])) (Tree.need [n ≤ 8] (Tree.need [(0 : Int) = (↑(bst (fun j => List.length (jW n m a b r u v j)) 0) : Int), AV.ptr 9 0 = AV.ptr 9 0, (↑n : Int) = (↑n : Int), (0 : Int) = (↑(0 : Nat) : Int), (AV.lst 1 (List.length (jW n m (col 0 fun k => [i (a k), i (b k)]) (col 1 fun k => [i (a k), i (b k)]) (col 0 fun k => [i (r k), i (u k), i (v k)]) (col 1 fun k => [i (r k), i (u k), i (v k)]) (col 2 fun k => [i (r k), i (u k), i (v k)]) 0)) fun j => [iI (nthI (jW n m (col 0 fun k => [i (a k), i (b k)]) (col 1 fun k => [i (a k), i (b k)]) (col 0 fun k => [i (r k), i (u k), i (v k)]) (col 1 fun k => [i (r k), i (u k), i (v k)]) (col 2 fun k => [i (r k), i (u k), i (v k)]) 0) j)]) = AV.lst 1 (List.length (jW n m a b r u v 0)) fun j => [iI (nthI (jW n m a b r u v 0) j)], (AV.lst 1 (List.length (jW n m (col 0 fun k => [i (a k), i (b k)]) (col 1 fun k => [i (a k), i (b k)]) (col 0 fun k => [i (r k), i (u k), i (v k)]) (col 1 fun k => [i (r k), i (u k), i (v k)]) (col 2 fun k => [i (r k), i (u k), i (v k)]) 1)) fun j => [iI (nthI (jW n m (col 0 fun k => [i (a k), i (b k)]) (col 1 fun k => [i (a k), i (b k)]) (col 0 fun k => [i (r k), i (u k), i (v k)]) (col 1 fun k => [i (r k), i (u k), i (v k)]) (col 2 fun k => [i (r k), i (u k), i (v k)]) 1) j)]) = AV.lst 1 (List.length (jW n m a b r u v 1)) fun j => [iI (nthI (jW n m a b r u v 1) j)], (AV.lst 1 (List.length (jW n m (col 0 fun k => [i (a k), i (b k)]) (col 1 fun k => [i (a k), i (b k)]) (col 0 fun k => [i (r k), i (u k), i (v k)]) (col 1 fun k => [i (r k), i (u k), i (v k)]) (col 2 fun k => [i (r k), i (u k), i (v k)]) 2)) fun j => [iI (nthI (jW n m (col 0 fun k => [i (a k), i (b k)]) (col 1 fun k => [i (a k), i (b k)]) (col 0 fun k => [i (r k), i (u k), i (v k)]) (col 1 fun k => [i (r k), i (u k), i (v k)]) (col 2 fun k => [i (r k), i (u k), i (v k)]) 2) j)]) = AV.lst 1 (List.length (jW n m a b r u v 2)) fun j => [iI (nthI (jW n m a b r u v 2) j)], (AV.lst 1 (List.length (jW n m (col 0 fun k => [i (a k), i (b k)]) (col 1 fun k => [i (a k), i (b k)]) (col 0 fun k => [i (r k), i (u k), i (v k)]) (col 1 fun k => [i (r k), i (u k), i (v k)]) (col 2 fun k => [i (r k), i (u k), i (v k)]) 3)) fun j => [iI (nthI (jW n m (col 0 fun k => [i (a k), i (b k)]) (col 1 fun k => [i (a k), i (b k)]) (col 0 fun k => [i (r k), i (u k), i (v k)]) (col 1 fun k => [i (r k), i (u k), i (v k)]) (col 2 fun k => [i (r k), i (u k), i (v k)]) 3) j)]) = AV.lst 1 (List.length (jW n m a b r u v 3)) fun j => [iI (nthI (jW n m a b r u v 3) j)], (AV.lst 1 (List.length (jW n m (col 0 fun k => [i (a k), i (b k)]) (col 1 fun k => [i (a k), i (b k)]) (col 0 fun k => [i (r k), i (u k), i (v k)]) (col 1 fun k => [i (r k), i (u k), i (v k)]) (col 2 fun k => [i (r k), i (u k), i (v k)]) 4)) fun j => [iI (nthI (jW n m (col 0 fun k => [i (a k), i (b k)]) (col 1 fun k => [i (a k), i (b k)]) (col 0 fun k => [i (r k), i (u k), i (v k)]) (col 1 fun k => [i (r k), i (u k), i (v k)]) (col 2 fun k => [i (r k), i (u k), i (v k)]) 4) j)]) = AV.lst 1 (List.length (jW n m a b r u v 4)) fun j => [iI (nthI (jW n m a b r u v 4) j)], (AV.lst 1 (List.length (jW n m (col 0 fun k => [i (a k), i (b k)]) (col 1 fun k => [i (a k), i (b k)]) (col 0 fun k => [i (r k), i (u k), i (v k)]) (col 1 fun k => [i (r k), i (u k), i (v k)]) (col 2 fun k => [i (r k), i (u k), i (v k)]) 5)) fun j => [iI (nthI (jW n m (col 0 fun k => [i (a k), i (b k)]) (col 1 fun k => [i (a k), i (b k)]) (col 0 fun k => [i (r k), i (u k), i (v k)]) (col 1 fun k => [i (r k), i (u k), i (v k)]) (col 2 fun k => [i (r k), i (u k), i (v k)]) 5) j)]) = AV.lst 1 (List.length (jW n m a b r u v 5)) fun j => [iI (nthI (jW n m a b r u v 5) j)], (AV.lst 1 (List.length (jW n m (col 0 fun k => [i (a k), i (b k)]) (col 1 fun k => [i (a k), i (b k)]) (col 0 fun k => [i (r k), i (u k), i (v k)]) (col 1 fun k => [i (r k), i (u k), i (v k)]) (col 2 fun k => [i (r k), i (u k), i (v k)]) 6)) fun j => [iI (nthI (jW n m (col 0 fun k => [i (a k), i (b k)]) (col 1 fun k => [i (a k), i (b k)]) (col 0 fun k => [i (r k), i (u k), i (v k)]) (col 1 fun k => [i (r k), i (u k), i (v k)]) (col 2 fun k => [i (r k), i (u k), i (v k)]) 6) j)]) = AV.lst 1 (List.length (jW n m a b r u v 6)) fun j => [iI (nthI (jW n m a b r u v 6) j)], (AV.lst 1 (List.length (jW n m (col 0 fun k => [i (a k), i (b k)]) (col 1 fun k => [i (a k), i (b k)]) (col 0 fun k => [i (r k), i (u k), i (v k)]) (col 1 fun k => [i (r k), i (u k), i (v k)]) (col 2 fun k => [i (r k), i (u k), i (v k)]) 7)) fun j => [iI (nthI (jW n m (col 0 fun k => [i (a k), i (b k)]) (col 1 fun k => [i (a k), i (b k)]) (col 0 fun k => [i (r k), i (u k), i (v k)]) (col 1 fun k => [i (r k), i (u k), i (v k)]) (col 2 fun k => [i (r k), i (u k), i (v k)]) 7) j)]) = AV.lst 1 (List.length (jW n m a b r u v 7)) fun j => [iI (nthI (jW n m a b r u v 7) j)]] (Tree.need [(0 : Int) ≤ (↑(bst (fun j => List.length (jW n m a b r u v j)) n) : Int) ∧ (↑(bst (fun j => List.length (jW n m a b r u v j)) n) : Int) < (↑(8 : Nat) : Int)] (Tree.need [0 + Int.toNat (↑(bst (fun j => List.length (jW n m a b r u v j)) n) : Int) * 1 < List.length (jWs n m a b r u v)] (Tree.need [isRec 1 (nthN [(List.length (jW n m a b r u v 0), fun j => [i (nthI (jW n m a b r u v 0) j)]), (List.length (jW n m a b r u v 1), fun j => [i (nthI (jW n m a b r u v 1) j)]), (List.length (jW n m a b r u v 2), fun j => [i (nthI (jW n m a b r u v 2) j)]), (List.length (jW n m a b r u v 3), fun j => [i (nthI (jW n m a b r u v 3) j)]), (List.length (jW n m a b r u v 4), fun j => [i (nthI (jW n m a b r u v 4) j)]), (List.length (jW n m a b r u v 5), fun j => [i (nthI (jW n m a b r u v 5) j)]), (List.length (jW n m a b r u v 6), fun j => [i (nthI (jW n m a b r u v 6) j)]), (List.length (jW n m a b r u v 7), fun j => [i (nthI (jW n m a b r u v 7) j)])] (0 + Int.toNat (↑(bst (fun j => List.length (jW n m a b r u v j)) n) : Int) * 1)) (nthF [(List.length (jW n m a b r u v 0), fun j => [i (nthI (jW n m a b r u v 0) j)]), (List.length (jW n m a b r u v 1), fun j => [i (nthI (jW n m a b r u v 1) j)]), (List.length (jW n m a b r u v 2), fun j => [i (nthI (jW n m a b r u v 2) j)]), (List.length (jW n m a b r u v 3), fun j => [i (nthI (jW n m a b r u v 3) j)]), (List.length (jW n m a b r u v 4), fun j => [i (nthI (jW n m a b r u v 4) j)]), (List.length (jW n m a b r u v 5), fun j => [i (nthI (jW n m a b r u v 5) j)]), (List.length (jW n m a b r u v 6), fun j => [i (nthI (jW n m a b r u v 6) j)]), (List.length (jW n m a b r u v 7), fun j => [i (nthI (jW n m a b r u v 7) j)])] (0 + Int.toNat (↑(bst (fun j => List.length (jW n m a b r u v j)) n) : Int) * 1)), nthN [(List.length (jW n m a b r u v 0), fun j => [i (nthI (jW n m a b r u v 0) j)]), (List.length (jW n m a b r u v 1), fun j => [i (nthI (jW n m a b r u v 1) j)]), (List.length (jW n m a b r u v 2), fun j => [i (nthI (jW n m a b r u v 2) j)]), (List.length (jW n m a b r u v 3), fun j => [i (nthI (jW n m a b r u v 3) j)]), (List.length (jW n m a b r u v 4), fun j => [i (nthI (jW n m a b r u v 4) j)]), (List.length (jW n m a b r u v 5), fun j => [i (nthI (jW n m a b r u v 5) j)]), (List.length (jW n m a b r u v 6), fun j => [i (nthI (jW n m a b r u v 6) j)]), (List.length (jW n m a b r u v 7), fun j => [i (nthI (jW n m a b r u v 7) j)])] (0 + Int.toNat (↑(bst (fun j => List.length (jW n m a b r u v j)) n) : Int) * 1) ≤ 100000] (Tree.leaf (AV.tup [iI (↑(bst (fun j => List.length (jW n m a b r u v j)) n) : Int), AV.lst 1 (nthN [(List.length (jW n m a b r u v 0), fun j => [i (nthI (jW n m a b r u v 0) j)]), (List.length (jW n m a b r u v 1), fun j => [i (nthI (jW n m a b r u v 1) j)]), (List.length (jW n m a b r u v 2), fun j => [i (nthI (jW n m a b r u v 2) j)]), (List.length (jW n m a b r u v 3), fun j => [i (nthI (jW n m a b r u v 3) j)]), (List.length (jW n m a b r u v 4), fun j => [i (nthI (jW n m a b r u v 4) j)]), (List.length (jW n m a b r u v 5), fun j => [i (nthI (jW n m a b r u v 5) j)]), (List.length (jW n m a b r u v 6), fun j => [i (nthI (jW n m a b r u v 6) j)]), (List.length (jW n m a b r u v 7), fun j => [i (nthI (jW n m a b r u v 7) j)])] (0 + Int.toNat (↑(bst (fun j => List.length (jW n m a b r u v j)) n) : Int) * 1)) fun k => [iI (col 0 (nthF [(List.length (jW n m a b r u v 0), fun j => [i (nthI (jW n m a b r u v 0) j)]), (List.length (jW n m a b r u v 1), fun j => [i (nthI (jW n m a b r u v 1) j)]), (List.length (jW n m a b r u v 2), fun j => [i (nthI (jW n m a b r u v 2) j)]), (List.length (jW n m a b r u v 3), fun j => [i (nthI (jW n m a b r u v 3) j)]), (List.length (jW n m a b r u v 4), fun j => [i (nthI (jW n m a b r u v 4) j)]), (List.length (jW n m a b r u v 5), fun j => [i (nthI (jW n m a b r u v 5) j)]), (List.length (jW n m a b r u v 6), fun j => [i (nthI (jW n m a b r u v 6) j)]), (List.length (jW n m a b r u v 7), fun j => [i (nthI (jW n m a b r u v 7) j)])] (0 + Int.toNat (↑(bst (fun j => List.length (jW n m a b r u v j)) n) : Int) * 1)) k)], iI (0 : Int)]))))))))))) (by kernel_rfl) ?_
  have rI : ∀ x y : Int, repP (iI x) (i y) = (x = y) := fun x y => by simp [repP, valEq]
  have rT : ∀ l l' : List AV, repP (.tup l) (.tup l') = repPL l l' := fun l l' => by simp [repP]
  have rN : ∀ l : List Int, l = [] → repP (.x (.slice none 0 0)) (inl l) := fun l h => by subst h; simp [repP, isNil]
  simp only [Tree.sat, allP, rT, rI, repPL, true_and, and_true, col20, col21, col30, col31, col32]
  refine ⟨⟨isRec2 n a b, isRec3 m r u v, pre0, pre1⟩, fun h => ?_, fun h => ⟨fun h2 => ?_, fun h2 => ?_⟩⟩
  · have h' : ddE n m a b r u v ≠ 0 := by simpa using h
    have hw : wgE n m a b r u v = ddE n m a b r u v := by unfold wgE; rw [if_neg h']
    have hw' : wgE n m a b r u v ≠ 0 := by rw [hw]; exact h'
    exact ⟨by unfold wgN; rw [if_neg hw'], rN _ (by unfold wgL; rw [if_neg hw']), hw.symm⟩
  · have h' : ddE n m a b r u v = 0 := by simpa using h
    have h2' : n = 0 := by simp at h2; omega
    have hw : wgE n m a b r u v = 7 := by unfold wgE; rw [if_pos h', if_pos h2']
    exact ⟨by unfold wgN; rw [if_neg (by omega)], rN _ (by unfold wgL; rw [if_neg (by omega)]), hw.symm⟩
  · have h' : ddE n m a b r u v = 0 := by simpa using h
    have h2' : n ≠ 0 := by rw [beq_eq_false_iff_ne] at h2; omega
    have hw : wgE n m a b r u v = 0 := by unfold wgE; rw [if_pos h', if_neg h2']
    have h8 : n ≤ 8 := by
      unfold ddE at h'
      split at h' <;> omega
    have hb := (bst_lt (fun j => (jW n m a b r u v j).length) n).2 (by omega)
    have hS : wgS n m a b r u v = bst (fun j => (jW n m a b r u v j).length) n := rfl
    have e1 : 0 + Int.toNat ((bst (fun j => (jW n m a b r u v j).length) n : Nat) : Int) * 1 = wgS n m a b r u v := by omega
    have hlen : (jWs n m a b r u v).length = 8 := rfl
    have hm : m ≤ 12 := by
      unfold ddE at h'
      split at h' <;> omega
    have hjl : (jW n m a b r u v (wgS n m a b r u v)).length ≤ m := by
      unfold jW
      split
      · exact wrL_len _ _
      · simp
    rw [e1, hlen, nth_jW n m a b r u v (show wgS n m a b r u v < 8 by omega), nthF_jW n m a b r u v (show wgS n m a b r u v < 8 by omega)]
    rw [← hS]
    have fN : wgN n m a b r u v = (wgS n m a b r u v : Int) := by unfold wgN; rw [if_pos hw]
    have fL : wgL n m a b r u v = jW n m a b r u v (wgS n m a b r u v) := by unfold wgL; rw [if_pos hw]
    rw [fN, fL, hw]
    refine ⟨h8, ?_, by omega, by omega, ⟨isRec1 _ _, by omega⟩, rfl, ?_⟩
    · repeat' first | with_reducible apply And.intro | with_reducible intro _
      all_goals first | exact True.intro | omega | with_reducible rfl | exact rfl
    · exact ⟨⟨rfl, rfl, fun j hj => rfl⟩, rfl⟩


def S_Wrong : Sx.Spec := fun l => match l with
  | [.lst 2 n f, .lst 3 m g] => some ([isRec 2 n f, isRec 3 m g, n ≤ 100000, m ≤ 100000], .tup [i (wgN n m (col 0 f) (col 1 f) (col 0 g) (col 1 g) (col 2 g)), inl (wgL n m (col 0 f) (col 1 f) (col 0 g) (col 1 g) (col 2 g)), i (wgE n m (col 0 f) (col 1 f) (col 0 g) (col 1 g) (col 2 g))])
  | _ => none


theorem soundAtR_same {P : Program} {f : FuncId} {avs avs' : List AV} {res : AV} (h : SoundAtR P f avs' res) (k : Sames avs avs') : SoundAtR P f avs res :=
  fun e w args hro hidf hrep => h e w args hro (k.idf hidf) (k.rep hrep)
theorem Wrong_okR : SoundR Try.prog 45 S_Wrong := by
  refine ⟨⟨_, Try.func45, by kernel_rfl, by kernel_rfl⟩, ?_⟩
  intro avs ns res h hn
  unfold S_Wrong at h
  split at h
  · rename_i n f m g
    cases h
    have hr : isRec 2 n f := hn _ (by simp)
    have hr2 : isRec 3 m g := hn _ (by simp)
    exact soundAtR_same (Wrong_at n m (col 0 f) (col 1 f) (col 0 g) (col 1 g) (col 2 g) (hn _ (by simp)) (hn _ (by simp))) (.cons (.lst 2 n _ _ hr) (.cons (.lst 3 m _ _ hr2) .nil))
  · cases h

end Go.Proofs.Ytchcegfhamngkaa
