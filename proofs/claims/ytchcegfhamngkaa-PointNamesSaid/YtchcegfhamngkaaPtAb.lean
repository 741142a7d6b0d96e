/- Contracts of functions of the program, by the engine Sx: what each call comes to. Printed by a program of this repo (sxgen.py). -/
import Derived.Test.YtchcegfhamngkaaPtAa
set_option linter.unusedSimpArgs false
set_option linter.unusedVariables false
namespace Go.Proofs.Ytchcegfhamngkaa
open Go Go.Sx Go.RowKit

def S_rWrong : Sx.Spec := fun l => match l with
  | [.agg [.x (.int .i64 a), .x (.int .i64 b)], .lst 3 n f] => some ([isRec 3 n f, n ≤ 100000, -1000 ≤ a ∧ a ≤ 1000 ∧ -1000 ≤ b ∧ b ≤ 1000 ∧ a ≠ b, allI (fun k => enB (col 0 f k) (col 1 f k) (col 2 f k)) n = true], inl (wrL (fun k => exB a b (col 0 f k) (col 1 f k) (col 2 f k)) n))
  | _ => none


theorem rWrong_ok : SoundSpec Try.prog 47 S_rWrong := by
  refine ⟨⟨_, Try.func47, by kernel_rfl, by kernel_rfl⟩, ?_⟩
  intro avs ns res h hn
  unfold S_rWrong at h
  split at h
  · rename_i a b n f
    cases h
    have hr : isRec 3 n f := hn _ (by simp)
    exact (rWrong_at a b n (col 0 f) (col 1 f) (col 2 f) (hn _ (by simp)) (hn _ (by simp)) (hn _ (by simp))).same (.cons (.refl _) (.cons (.lst 3 n _ _ hr) .nil))
  · cases h


/-- The wrong entries of the scale j. -/
def wW (m : Nat) (a b r u v : Nat → Int) (j : Nat) : List Int := wrL (fun k => exB (a j) (b j) (r k) (u k) (v k)) m
def wK (m : Nat) (a b r u v : Nat → Int) (k : Nat) : List Int := wrL (fun j => !decide ((wW m a b r u v j).length = 0)) k
def wB (m : Nat) (a b r u v : Nat → Int) (k : Nat) : Nat := bst (fun j => (wW m a b r u v j).length) k


theorem wrL_congr {p p' : Nat → Bool} : ∀ {n : Nat}, (∀ j, j < n → p j = p' j) → wrL p n = wrL p' n
  | 0, _ => rfl
  | n + 1, h => by
    have ih := wrL_congr (n := n) (fun j hj => h j (by omega))
    rw [wrL, wrL, h n (by omega), ih]
theorem bst_congr {L L' : Nat → Nat} : ∀ {n : Nat}, (∀ j, j < n → L j = L' j) → bst L n = bst L' n
  | 0, _ => rfl
  | n + 1, h => by
    have ih := bst_congr (n := n) (fun j hj => h j (by omega))
    have hb := bst_lt L' n
    rw [bst, bst, ih, h n (by omega), h (bst L' n) (by omega)]
theorem kd_ok {n m : Nat} {a b r u v : Nat → Int} (h : ddE n m a b r u v = 0) : n ≤ 8 ∧ m ≤ 12 ∧ allS n a b = true ∧ allI (fun k => enB (r k) (u k) (v k)) m = true ∧ kdL n m a b r u v = wK m a b r u v n ∧ wgS n m a b r u v = wB m a b r u v n ∧ (0 < n → wgE n m a b r u v = 0 ∧ wgN n m a b r u v = (wB m a b r u v n : Int) ∧ wgL n m a b r u v = wW m a b r u v (wB m a b r u v n) ∧ wB m a b r u v n < n) := by
  have h' := h
  unfold ddE at h'
  split at h'
  · omega
  split at h'
  rotate_left
  · omega
  split at h'
  rotate_left
  · omega
  rename_i h1 h2 h3
  have hj : ∀ j, j < n → jW n m a b r u v j = wW m a b r u v j := fun j hj => by unfold jW wW; rw [if_pos ⟨h, hj⟩]
  have e1 : kdL n m a b r u v = wK m a b r u v n := by
    unfold kdL wK
    rw [if_pos h]
    exact wrL_congr (fun j hj' => by unfold kdB; rw [hj j hj'])
  have e2 : wgS n m a b r u v = wB m a b r u v n := bst_congr (fun j hj' => by show (jW n m a b r u v j).length = (wW m a b r u v j).length; rw [hj j hj'])
  refine ⟨by omega, by omega, h2, h3, e1, e2, fun hn => ?_⟩
  have hE : wgE n m a b r u v = 0 := by unfold wgE; rw [if_pos h, if_neg (by omega)]
  have hb : wB m a b r u v n < n := (bst_lt _ n).2 hn
  refine ⟨hE, by unfold wgN; rw [if_pos hE, e2], ?_, hb⟩
  unfold wgL
  rw [if_pos hE, e2, hj _ hb]
theorem kd_no {n m : Nat} {a b r u v : Nat → Int} (h : ddE n m a b r u v ≠ 0) : kdL n m a b r u v = [] ∧ wgE n m a b r u v = ddE n m a b r u v ∧ wgL n m a b r u v = [] ∧ wgN n m a b r u v = 0 := by
  have hE : wgE n m a b r u v = ddE n m a b r u v := by unfold wgE; rw [if_neg h]
  refine ⟨by unfold kdL; rw [if_neg h], hE, ?_, ?_⟩
  · unfold wgL; rw [if_neg (by rw [hE]; exact h)]
  · unfold wgN; rw [if_neg (by rw [hE]; exact h)]
theorem ints_same (l : List Int) : (decide (l.length = l.length) && allI (fun k => col 0 (fun j => [iI (nthI l j)]) k == col 0 (fun j => [i (nthI l j)]) k) l.length) = true := by
  rw [Bool.and_eq_true]
  exact ⟨by simp, allI_iff.2 (fun j _ => by simp [col])⟩

noncomputable def E_pk (n m : Nat) (a b r u v : Nat → Int) : St := (some
  {
    σ :=
      [AV.lst (2 : Nat) n fun k => [AV.x (Value.int IntKind.i64 (a k)), AV.x (Value.int IntKind.i64 (b k))],
        AV.lst (3 : Nat) m fun k =>
          [AV.x (Value.int IntKind.i64 (r k)), AV.x (Value.int IntKind.i64 (u k)), AV.x (Value.int IntKind.i64 (v k))],
        AV.top, AV.top, AV.lit false,
        AV.lst (1 : Nat) (List.length (kdL n m a b r u v)) fun j =>
          [AV.x (Value.int IntKind.i64 (nthI (kdL n m a b r u v) j))],
        AV.x (Value.int IntKind.i64 (ddE n m a b r u v)), AV.x (Value.int IntKind.i64 (wgN n m a b r u v)),
        AV.lst (1 : Nat) (List.length (wgL n m a b r u v)) fun j =>
          [AV.x (Value.int IntKind.i64 (nthI (wgL n m a b r u v) j))],
        AV.x (Value.int IntKind.i64 (wgE n m a b r u v)), AV.x (Value.int IntKind.i64 (ddE n m a b r u v)), AV.top,
        AV.top, AV.top, AV.top, AV.top, AV.top, AV.top, AV.top, AV.top, AV.top, AV.top, AV.top, AV.top, AV.top, AV.top,
        AV.top, AV.top, AV.top, AV.top, AV.top, AV.top, AV.top, AV.top, AV.top, AV.top, AV.top, AV.top, AV.top, AV.top,
        AV.top, AV.top, AV.top, AV.top, AV.top, AV.top, AV.top, AV.top, AV.top, AV.top, AV.top, AV.top, AV.top, AV.top,
        AV.top, AV.top, AV.top, AV.top, AV.top, AV.top, AV.top, AV.top, AV.top, AV.top, AV.top, AV.top, AV.top, AV.top,
        AV.top, AV.top, AV.top, AV.top, AV.top, AV.top, AV.top, AV.top, AV.top, AV.top, AV.top, AV.top, AV.top, AV.top,
        AV.top, AV.top, AV.top, AV.top, AV.top, AV.top, AV.top, AV.top, AV.top, AV.top, AV.top, AV.top, AV.top, AV.top,
        AV.top, AV.top, AV.top, AV.top, AV.top, AV.top, AV.top, AV.top, AV.top, AV.top, AV.top, AV.top, AV.top, AV.top,
        AV.top, AV.top, AV.top, AV.top, AV.top, AV.top, AV.top, AV.top, AV.top, AV.top, AV.top, AV.top, AV.top, AV.top,
        AV.top, AV.top, AV.top, AV.top, AV.top, AV.top, AV.top, AV.top, AV.top, AV.top, AV.top, AV.top, AV.top, AV.top,
        AV.top, AV.top, AV.top, AV.top, AV.top, AV.top],
    m := [((900 : Nat), Res.row (3 : Nat) (1 : Nat) (0 : Nat) fun x => [])], nx := (901 : Nat) } : Option St).getD { σ := [], m := [], nx := 0 }
noncomputable def B_pk : Code := loopBody (loopAt (bodyOf Try.f13) 0)
noncomputable def inv_pk (n m : Nat) (a b r u v : Nat → Int) (k : Nat) : St := { σ := ovrS [(11, .row 900), (12, i (wB m a b r u v k)), (13, i k)] (E_pk n m a b r u v).σ, m := [(900, .row 3 1 (wK m a b r u v k).length (fun j => [i (nthI (wK m a b r u v k) j)]))], nx := (E_pk n m a b r u v).nx }
noncomputable def out_pk (n m : Nat) (a b r u v : Nat → Int) (k : Nat) : AEx → Option St := fun ex => match ex with
  | .exit 0 => some { σ := ovrS [(11, .row 900), (12, i (wB m a b r u v n)), (13, i n)] (E_pk n m a b r u v).σ, m := [(900, .row 3 1 (wK m a b r u v n).length (fun j => [i (nthI (wK m a b r u v n) j)]))], nx := (E_pk n m a b r u v).nx }
  | _ => none
noncomputable def T_pk (n m : Nat) (a b r u v : Nat → Int) : CT := .leaf (.exit 0, ( out_pk n m a b r u v 0 (.exit 0)).getD (E_pk n m a b r u v))
noncomputable def LS_pk (n m : Nat) (a b r u v : Nat → Int) : LSpec := normSp [(.slot 11, 900, 3, 1)] (sumL (inv_pk n m a b r u v (0)) (T_pk n m a b r u v))
set_option maxRecDepth 100000 in
theorem pk_ls (n m : Nat) (a b r u v : Nat → Int) (pre0 : n ≤ 8) (pre1 : m ≤ 12) (pre2 : allS n a b = true) (pre3 : allI (fun k => enB (r k) (u k) (v k)) m = true) : LSound Try.prog (.loop B_pk) (LS_pk n m a b r u v) := by
  refine loop_roundsN [(.slot 11, 900, 3, 1)] (G := [(47, S_rWrong)]) (L := []) (SoundG.cons rWrong_ok (SoundG.nil _)) mixed noLoops (X := Nat) (inv_pk n m a b r u v) (fun k => k ≤ n) (fun k => n - k) (out_pk n m a b r u v) (x0 := 0) (by simp) ?_ ?_ ?_
  · rintro k
    kernel_rfl
  · rintro k y E h
    unfold out_pk at h
    split at h
    · cases h; kernel_rfl
    · cases h
  · rintro Q hQ k hx
    refine ⟨(k + 1), ?_⟩
    have e : roundN Try.prog [(47, S_rWrong)] [] [(.slot 11, 900, 3, 1)] B_pk (inv_pk n m a b r u v k) (inv_pk n m a b r u v ((k + 1))) (out_pk n m a b r u v k) = (Tree.branch (decide ((↑k : Int) < (↑n : Int))) (Tree.need [(0 : Int) ≤ (↑k : Int) ∧ (↑k : Int) < (↑n : Int)] (Tree.need [isRec 3 m fun k => [iI (r k), iI (u k), iI (v k)], m ≤ 100000, (-1000 : Int) ≤ a k ∧ a k ≤ (1000 : Int) ∧ (-1000 : Int) ≤ b k ∧ b k ≤ (1000 : Int) ∧ a k ≠ b k, allI (fun k => enB (r k) (u k) (v k)) m = true] (Tree.branch ((↑(List.length (wrL (fun k_1 => exB (a k) (b k) (r k_1) (u k_1) (v k_1)) m)) : Int) == (0 : Int)) (Tree.need [(List.length (wK m a b r u v k) + 1) * 8 ≤ 140737488355328, ∀ (i : Nat), i < 1 → ∀ (a : AV), a ∈ chunk 1 [iI (↑k : Int)] i → AV.one a = true] (Tree.need [(0 : Int) ≤ (↑(wB m a b r u v k) : Int) ∧ (↑(wB m a b r u v k) : Int) < (↑n : Int)] (Tree.need [isRec 3 m fun k => [iI (r k), iI (u k), iI (v k)], m ≤ 100000, (-1000 : Int) ≤ a (wB m a b r u v k) ∧ a (wB m a b r u v k) ≤ (1000 : Int) ∧ (-1000 : Int) ≤ b (wB m a b r u v k) ∧ b (wB m a b r u v k) ≤ (1000 : Int) ∧ a (wB m a b r u v k) ≠ b (wB m a b r u v k), allI (fun k => enB (r k) (u k) (v k)) m = true] (Tree.branch (decide ((↑(List.length (wrL (fun k_1 => exB (a k) (b k) (r k_1) (u k_1) (v k_1)) m)) : Int) < (↑(List.length (wrL (fun k_1 => exB (a (wB m a b r u v k)) (b (wB m a b r u v k)) (r k_1) (u k_1) (v k_1)) m)) : Int))) (Tree.need [inI64 ((↑k : Int) + (1 : Int))] (Tree.need [(AV.lst 2 n fun k => [iI (a k), iI (b k)]) = AV.lst 2 n fun k => [iI (a k), iI (b k)], (AV.lst 3 m fun k => [iI (r k), iI (u k), iI (v k)]) = AV.lst 3 m fun k => [iI (r k), iI (u k), iI (v k)], AV.lit false = AV.lit false, (AV.lst 1 (List.length (kdL n m a b r u v)) fun j => [iI (nthI (kdL n m a b r u v) j)]) = AV.lst 1 (List.length (kdL n m a b r u v)) fun j => [iI (nthI (kdL n m a b r u v) j)], ddE n m a b r u v = ddE n m a b r u v, wgN n m a b r u v = wgN n m a b r u v, (AV.lst 1 (List.length (wgL n m a b r u v)) fun j => [iI (nthI (wgL n m a b r u v) j)]) = AV.lst 1 (List.length (wgL n m a b r u v)) fun j => [iI (nthI (wgL n m a b r u v) j)], wgE n m a b r u v = wgE n m a b r u v, ddE n m a b r u v = ddE n m a b r u v, AV.row 900 = AV.row 900, (↑k : Int) = (↑(wB m a b r u v (k + 1)) : Int), (↑k : Int) + (1 : Int) = (↑(k + 1) : Int), List.length (wK m a b r u v k) + 1 = List.length (wK m a b r u v (k + 1)), ∀ (i : Nat), i < List.length (wK m a b r u v (k + 1)) → catF (List.length (wK m a b r u v k)) (fun j => [Ytchcegfhamngkaa.i (nthI (wK m a b r u v k) j)]) (chunk 1 [iI (↑k : Int)]) i = [Ytchcegfhamngkaa.i (nthI (wK m a b r u v (k + 1)) i)]] (Tree.leaf AEx.normal))) (Tree.need [inI64 ((↑k : Int) + (1 : Int))] (Tree.need [(AV.lst 2 n fun k => [iI (a k), iI (b k)]) = AV.lst 2 n fun k => [iI (a k), iI (b k)], (AV.lst 3 m fun k => [iI (r k), iI (u k), iI (v k)]) = AV.lst 3 m fun k => [iI (r k), iI (u k), iI (v k)], AV.lit false = AV.lit false, (AV.lst 1 (List.length (kdL n m a b r u v)) fun j => [iI (nthI (kdL n m a b r u v) j)]) = AV.lst 1 (List.length (kdL n m a b r u v)) fun j => [iI (nthI (kdL n m a b r u v) j)], ddE n m a b r u v = ddE n m a b r u v, wgN n m a b r u v = wgN n m a b r u v, (AV.lst 1 (List.length (wgL n m a b r u v)) fun j => [iI (nthI (wgL n m a b r u v) j)]) = AV.lst 1 (List.length (wgL n m a b r u v)) fun j => [iI (nthI (wgL n m a b r u v) j)], wgE n m a b r u v = wgE n m a b r u v, ddE n m a b r u v = ddE n m a b r u v, AV.row 900 = AV.row 900, (↑(wB m a b r u v k) : Int) = (↑(wB m a b r u v (k + 1)) : Int), (↑k : Int) + (1 : Int) = (↑(k + 1) : Int), List.length (wK m a b r u v k) + 1 = List.length (wK m a b r u v (k + 1)), ∀ (i : Nat), i < List.length (wK m a b r u v (k + 1)) → catF (List.length (wK m a b r u v k)) (fun j => [Ytchcegfhamngkaa.i (nthI (wK m a b r u v k) j)]) (chunk 1 [iI (↑k : Int)]) i = [Ytchcegfhamngkaa.i (nthI (wK m a b r u v (k + 1)) i)]] (Tree.leaf AEx.normal))))))) (Tree.need [(0 : Int) ≤ (↑(wB m a b r u v k) : Int) ∧ (↑(wB m a b r u v k) : Int) < (↑n : Int)] (Tree.need [isRec 3 m fun k => [iI (r k), iI (u k), iI (v k)], m ≤ 100000, (-1000 : Int) ≤ a (wB m a b r u v k) ∧ a (wB m a b r u v k) ≤ (1000 : Int) ∧ (-1000 : Int) ≤ b (wB m a b r u v k) ∧ b (wB m a b r u v k) ≤ (1000 : Int) ∧ a (wB m a b r u v k) ≠ b (wB m a b r u v k), allI (fun k => enB (r k) (u k) (v k)) m = true] (Tree.branch (decide ((↑(List.length (wrL (fun k_1 => exB (a k) (b k) (r k_1) (u k_1) (v k_1)) m)) : Int) < (↑(List.length (wrL (fun k_1 => exB (a (wB m a b r u v k)) (b (wB m a b r u v k)) (r k_1) (u k_1) (v k_1)) m)) : Int))) (Tree.need [inI64 ((↑k : Int) + (1 : Int))] (Tree.need [(AV.lst 2 n fun k => [iI (a k), iI (b k)]) = AV.lst 2 n fun k => [iI (a k), iI (b k)], (AV.lst 3 m fun k => [iI (r k), iI (u k), iI (v k)]) = AV.lst 3 m fun k => [iI (r k), iI (u k), iI (v k)], AV.lit false = AV.lit false, (AV.lst 1 (List.length (kdL n m a b r u v)) fun j => [iI (nthI (kdL n m a b r u v) j)]) = AV.lst 1 (List.length (kdL n m a b r u v)) fun j => [iI (nthI (kdL n m a b r u v) j)], ddE n m a b r u v = ddE n m a b r u v, wgN n m a b r u v = wgN n m a b r u v, (AV.lst 1 (List.length (wgL n m a b r u v)) fun j => [iI (nthI (wgL n m a b r u v) j)]) = AV.lst 1 (List.length (wgL n m a b r u v)) fun j => [iI (nthI (wgL n m a b r u v) j)], wgE n m a b r u v = wgE n m a b r u v, ddE n m a b r u v = ddE n m a b r u v, AV.row 900 = AV.row 900, (↑k : Int) = (↑(wB m a b r u v (k + 1)) : Int), (↑k : Int) + (1 : Int) = (↑(k + 1) : Int), List.length (wK m a b r u v k) = List.length (wK m a b r u v (k + 1)), ∀ (i : Nat), i < List.length (wK m a b r u v (k + 1)) → [Ytchcegfhamngkaa.i (nthI (wK m a b r u v k) i)] = [Ytchcegfhamngkaa.i (nthI (wK m a b r u v (k + 1)) i)]] (Tree.leaf AEx.normal))) (Tree.need [inI64 ((↑k : Int) + (1 : Int))] (Tree.need [(AV.lst 2 n fun k => [iI (a k), iI (b k)]) = AV.lst 2 n fun k => [iI (a k), iI (b k)], (AV.lst 3 m fun k => [iI (r k), iI (u k), iI (v k)]) = AV.lst 3 m fun k => [iI (r k), iI (u k), iI (v k)], AV.lit false = AV.lit false, (AV.lst 1 (List.length (kdL n m a b r u v)) fun j => [iI (nthI (kdL n m a b r u v) j)]) = AV.lst 1 (List.length (kdL n m a b r u v)) fun j => [iI (nthI (kdL n m a b r u v) j)], ddE n m a b r u v = ddE n m a b r u v, wgN n m a b r u v = wgN n m a b r u v, (AV.lst 1 (List.length (wgL n m a b r u v)) fun j => [iI (nthI (wgL n m a b r u v) j)]) = AV.lst 1 (List.length (wgL n m a b r u v)) fun j => [iI (nthI (wgL n m a b r u v) j)], wgE n m a b r u v = wgE n m a b r u v, ddE n m a b r u v = ddE n m a b r u v, AV.row 900 = AV.row 900, (↑(wB m a b r u v k) : Int) = (↑(wB m a b r u v (k + 1)) : Int), (↑k : Int) + (1 : Int) = (↑(k + 1) : Int), List.length (wK m a b r u v k) = List.length (wK m a b r u v (k + 1)), ∀ (i : Nat), i < List.length (wK m a b r u v (k + 1)) → [Ytchcegfhamngkaa.i (nthI (wK m a b r u v k) i)] = [Ytchcegfhamngkaa.i (nthI (wK m a b r u v (k + 1)) i)]] (Tree.leaf AEx.normal))))))))) (Tree.need [(AV.lst 2 n fun k => [iI (a k), iI (b k)]) = AV.lst 2 n fun k => [iI (a k), iI (b k)], (AV.lst 3 m fun k => [iI (r k), iI (u k), iI (v k)]) = AV.lst 3 m fun k => [iI (r k), iI (u k), iI (v k)], AV.lit false = AV.lit false, (AV.lst 1 (List.length (kdL n m a b r u v)) fun j => [iI (nthI (kdL n m a b r u v) j)]) = AV.lst 1 (List.length (kdL n m a b r u v)) fun j => [iI (nthI (kdL n m a b r u v) j)], ddE n m a b r u v = ddE n m a b r u v, wgN n m a b r u v = wgN n m a b r u v, (AV.lst 1 (List.length (wgL n m a b r u v)) fun j => [iI (nthI (wgL n m a b r u v) j)]) = AV.lst 1 (List.length (wgL n m a b r u v)) fun j => [iI (nthI (wgL n m a b r u v) j)], wgE n m a b r u v = wgE n m a b r u v, ddE n m a b r u v = ddE n m a b r u v, AV.row 900 = AV.row 900, (↑(wB m a b r u v k) : Int) = (↑(wB m a b r u v n) : Int), (↑k : Int) = (↑n : Int), List.length (wK m a b r u v k) = List.length (wK m a b r u v n), ∀ (i : Nat), i < List.length (wK m a b r u v n) → [Ytchcegfhamngkaa.i (nthI (wK m a b r u v k) i)] = [Ytchcegfhamngkaa.i (nthI (wK m a b r u v n) i)]] (Tree.leaf (AEx.exit 0)))) := by kernel_rfl
    rw [e]
    simp only [T_pk, out_pk, Tree.sat, Option.getD_some] at hQ
    have hS := allI_iff.1 pre2
    have hl := wrL_len (fun j => !decide ((wW m a b r u v j).length = 0)) k
    have hb := bst_lt (fun j => (wW m a b r u v j).length) k
    have hb' : wB m a b r u v k ≤ k - 1 := hb.1
    simp only [Tree.sat, allP, fitP, fitL, valEq, inI64, true_and, and_true, decide_eq_true_eq, decide_eq_false_iff_not, Int.natCast_zero, Int.toNat_natCast, out_pk]
    clear e
    have f1 : ∀ j, wrL (fun k_1 => exB (a j) (b j) (r k_1) (u k_1) (v k_1)) m = wW m a b r u v j := fun _ => rfl
    simp only [f1]
    have hwl : (wK m a b r u v k).length ≤ k := hl
    have eB : wB m a b r u v (k + 1) = if (wW m a b r u v k).length < (wW m a b r u v (wB m a b r u v k)).length then k else wB m a b r u v k := rfl
    have eK : wK m a b r u v (k + 1) = if (wW m a b r u v k).length = 0 then wK m a b r u v k ++ [(k : Int)] else wK m a b r u v k := by
      unfold wK
      rw [wrL]
      by_cases hz : (wW m a b r u v k).length = 0 <;> simp [hz]
    refine ⟨fun hlt => ?_, fun hge => ?_⟩
    · have hk : k < n := by omega
      have p1 := scB_bd (hS k hk)
      have p2 := scB_bd (hS (wB m a b r u v k) (by omega))
      have CL : ∀ x : Int, ∀ (j : Nat), j < 1 → ∀ y, y ∈ chunk 1 [iI x] j → AV.one y = true := by
        intro x j hj y hy
        exact one_of hy (by simp [AV.one, Value.oneCell'])
      refine ⟨by omega, ⟨isRec3 m r u v, by omega, p1, pre3⟩, fun h0 => ⟨⟨by omega, CL _⟩, by omega, ⟨isRec3 m r u v, by omega, p2, pre3⟩, fun h1 => ?_, fun h1 => ?_⟩, fun h0 => ⟨by omega, ⟨isRec3 m r u v, by omega, p2, pre3⟩, fun h1 => ?_, fun h1 => ?_⟩⟩
      all_goals first | (have h0' : (wW m a b r u v k).length = 0 := by rw [beq_iff_eq] at h0; omega) | (have h0' : ¬ (wW m a b r u v k).length = 0 := by rw [beq_eq_false_iff_ne] at h0; omega)
      all_goals first | (have h1' : (wW m a b r u v k).length < (wW m a b r u v (wB m a b r u v k)).length := by omega) | (have h1' : ¬ (wW m a b r u v k).length < (wW m a b r u v (wB m a b r u v k)).length := by omega)
      all_goals first | rw [if_pos h0'] at eK | rw [if_neg h0'] at eK
      all_goals first | rw [if_pos h1'] at eB | rw [if_neg h1'] at eB
      all_goals rw [eK, eB]
      all_goals simp only [List.length_append, List.length_cons, List.length_nil]
      all_goals repeat' first | with_reducible apply And.intro | with_reducible intro _
      all_goals first | exact True.intro | omega | with_reducible rfl | exact catFl (by omega)
    · obtain rfl : k = n := by omega
      repeat' first | with_reducible apply And.intro | with_reducible intro _
      all_goals first | exact True.intro | omega | with_reducible rfl | (rename_i E hE; cases hE; exact hQ)

set_option maxRecDepth 100000 in
theorem PointKinds_at (n m : Nat) (a b r u v : Nat → Int) : SoundAt Try.prog 13 [scs n a b, ens m r u v] (bl true) := by
  refine soundAt_finX (G := [(47, S_rWrong), (18, S_lScales), (44, S_lDiary), (43, S_Kinds), (46, S_diaried), (48, S_ints), (16, S_wakes)]) (X := { R := [(45, S_Wrong)], H := [] }) (L := [needSp [n ≤ 8, m ≤ 12, allS n a b = true, allI (fun k => enB (r k) (u k) (v k)) m = true] (LS_pk n m a b r u v)]) (SoundG.cons rWrong_ok (SoundG.cons lScales_ok (SoundG.cons lDiary_ok (SoundG.cons Kinds_ok (SoundG.cons diaried_ok (SoundG.cons ints_ok (SoundG.cons wakes_ok (SoundG.nil _)))))))) (SoundX.of (SoundRL.cons Wrong_okR (SoundRL.nil _)) (SoundHL.nil _)) mixed Try.func13 (show Try.f13.body = some (bodyOf Try.f13) by kernel_rfl) (one_loop (fun cj hcj => by
    have e : loopAt (bodyOf Try.f13) 0 = some (.loop B_pk) := by kernel_rfl
    rw [e] at hcj; cases hcj
    exact (needSp_sound (ps := [n ≤ 8, m ≤ 12, allS n a b = true, allI (fun k => enB (r k) (u k) (v k)) m = true]) (fun h => pk_ls n m a b r u v h.1 h.2.1 h.2.2.1 h.2.2.2)).N)) (t := (Tree.branch (decide ((↑n : Int) > (11 : Int))) (Tree.leaf (RV.x (Value.bool true))) (Tree.branch (decide ((↑m : Int) > (15 : Int))) (Tree.leaf (RV.x (Value.bool true))) (Tree.need [isRec 2 n fun k => [i (a k), i (b k)], n ≤ 100000] (Tree.need [isRec 3 m fun k => [i (r k), i (u k), i (v k)], m ≤ 100000] (Tree.need [isRec 2 n fun k => [i (a k), i (b k)], isRec 3 m fun k => [i (r k), i (u k), i (v k)], n ≤ 100000, m ≤ 100000] (Tree.need [isRec 2 n fun k => [i (a k), i (b k)], n ≤ 100000] (Tree.need [isRec 3 m fun k => [i (r k), i (u k), i (v k)], m ≤ 100000] (Tree.need [isRec 2 n fun k => [i (a k), i (b k)], isRec 3 m fun k => [i (r k), i (u k), i (v k)], n ≤ 100000, m ≤ 100000] (Tree.need [isRec 2 n fun k => [i (a k), i (b k)], isRec 3 m fun k => [i (r k), i (u k), i (v k)], n ≤ 100000, m ≤ 100000] (Tree.branch (ddE n m a b r u v != (0 : Int)) (Tree.branch (ddE n m a b r u v == ddE n m a b r u v) (Tree.branch (wgE n m a b r u v == ddE n m a b r u v) (Tree.need [inI64 ((↑(List.length (kdL n m a b r u v)) : Int) + (↑(List.length (wgL n m a b r u v)) : Int))] (Tree.branch ((↑(List.length (kdL n m a b r u v)) : Int) + (↑(List.length (wgL n m a b r u v)) : Int) == (0 : Int)) (Tree.branch (wgN n m a b r u v == (0 : Int)) (Tree.leaf (RV.x (Value.bool true))) (Tree.leaf (RV.x (Value.bool false)))) (Tree.leaf (RV.x (Value.bool false))))) (Tree.leaf (RV.x (Value.bool false)))) (Tree.leaf (RV.x (Value.bool false)))) (Tree.need [n ≤ 8, m ≤ 12, allS n a b = true, allI (fun k => enB (r k) (u k) (v k)) m = true] (Tree.need [(AV.lst 2 n fun k => [iI (a k), iI (b k)]) = AV.lst 2 n fun k => [iI (a k), iI (b k)], (AV.lst 3 m fun k => [iI (r k), iI (u k), iI (v k)]) = AV.lst 3 m fun k => [iI (r k), iI (u k), iI (v k)], AV.lit false = AV.lit false, (AV.lst 1 (List.length (kdL n m a b r u v)) fun j => [iI (nthI (kdL n m a b r u v) j)]) = AV.lst 1 (List.length (kdL n m a b r u v)) fun j => [iI (nthI (kdL n m a b r u v) j)], ddE n m a b r u v = ddE n m a b r u v, wgN n m a b r u v = wgN n m a b r u v, (AV.lst 1 (List.length (wgL n m a b r u v)) fun j => [iI (nthI (wgL n m a b r u v) j)]) = AV.lst 1 (List.length (wgL n m a b r u v)) fun j => [iI (nthI (wgL n m a b r u v) j)], wgE n m a b r u v = wgE n m a b r u v, ddE n m a b r u v = ddE n m a b r u v, AV.row 900 = AV.row 900, (0 : Int) = (↑(wB m a b r u v 0) : Int), (0 : Int) = (↑(0 : Nat) : Int), 0 = List.length (wK m a b r u v 0), ∀ (i : Nat), i < List.length (wK m a b r u v 0) → [] = [Ytchcegfhamngkaa.i (nthI (wK m a b r u v 0) i)]] (Tree.branch (ddE n m a b r u v != (0 : Int)) (Tree.leaf (RV.x (Value.bool false))) (Tree.need [isRec 1 (List.length (kdL n m a b r u v)) fun j => [iI (nthI (kdL n m a b r u v) j)], isRec 1 (List.length (wK m a b r u v n)) fun j => [i (nthI (wK m a b r u v n) j)], List.length (kdL n m a b r u v) ≤ 100000] (Tree.branch (!(decide (List.length (kdL n m a b r u v) = List.length (wK m a b r u v n)) && allI (fun k => col 0 (fun j => [iI (nthI (kdL n m a b r u v) j)]) k == col 0 (fun j => [i (nthI (wK m a b r u v n) j)]) k) (List.length (kdL n m a b r u v)))) (Tree.leaf (RV.x (Value.bool false))) (Tree.branch ((↑n : Int) == (0 : Int)) (Tree.branch (wgE n m a b r u v == (7 : Int)) (Tree.branch ((↑(List.length (wgL n m a b r u v)) : Int) == (0 : Int)) (Tree.branch (wgN n m a b r u v == (0 : Int)) (Tree.leaf (RV.x (Value.bool true))) (Tree.leaf (RV.x (Value.bool false)))) (Tree.leaf (RV.x (Value.bool false)))) (Tree.leaf (RV.x (Value.bool false)))) (Tree.branch (wgE n m a b r u v == (0 : Int)) (Tree.branch (wgN n m a b r u v == (↑(wB m a b r u v n) : Int)) (Tree.need [(0 : Int) ≤ (↑(wB m a b r u v n) : Int) ∧ (↑(wB m a b r u v n) : Int) < (↑n : Int)] (Tree.need [isRec 3 m fun k => [iI (r k), iI (u k), iI (v k)], m ≤ 100000, (-1000 : Int) ≤ a (wB m a b r u v n) ∧ a (wB m a b r u v n) ≤ (1000 : Int) ∧ (-1000 : Int) ≤ b (wB m a b r u v n) ∧ b (wB m a b r u v n) ≤ (1000 : Int) ∧ a (wB m a b r u v n) ≠ b (wB m a b r u v n), allI (fun k => enB (r k) (u k) (v k)) m = true] (Tree.need [isRec 1 (List.length (wgL n m a b r u v)) fun j => [iI (nthI (wgL n m a b r u v) j)], isRec 1 (List.length (wrL (fun k => exB (a (wB m a b r u v n)) (b (wB m a b r u v n)) (r k) (u k) (v k)) m)) fun j => [i (nthI (wrL (fun k => exB (a (wB m a b r u v n)) (b (wB m a b r u v n)) (r k) (u k) (v k)) m) j)], List.length (wgL n m a b r u v) ≤ 100000] (Tree.branch (decide (List.length (wgL n m a b r u v) = List.length (wrL (fun k => exB (a (wB m a b r u v n)) (b (wB m a b r u v n)) (r k) (u k) (v k)) m)) && allI (fun k => col 0 (fun j => [iI (nthI (wgL n m a b r u v) j)]) k == col 0 (fun j => [i (nthI (wrL (fun k => exB (a (wB m a b r u v n)) (b (wB m a b r u v n)) (r k) (u k) (v k)) m) j)]) k) (List.length (wgL n m a b r u v))) (Tree.leaf (RV.x (Value.bool true))) (Tree.leaf (RV.x (Value.bool false))))))) (Tree.leaf (RV.x (Value.bool false)))) (Tree.leaf (RV.x (Value.bool false))))))))))))))))))))) (by kernel_rfl) ?_
  have f1 : ∀ j, wrL (fun k_1 => exB (a j) (b j) (r k_1) (u k_1) (v k_1)) m = wW m a b r u v j := fun _ => rfl
  by_cases hn : (n : Int) > 11
  · simp [Tree.sat, fitP, valEq, hn]
  by_cases hm : (m : Int) > 15
  · simp [Tree.sat, fitP, valEq, hn, hm]
  have r2 := isRec2 n a b
  have r3 := isRec3 m r u v
  have r1 : ∀ k l, isRec 1 k (fun j => [iI (nthI l j)]) := fun k l _ _ => rfl
  simp only [Tree.sat, allP, fitP, valEq, true_and, and_true, f1]
  refine ⟨fun h => absurd h (by simpa using hn), fun _ => ⟨fun h => absurd h (by simpa using hm), fun _ => ?_⟩⟩
  refine ⟨⟨r2, by omega⟩, ⟨r3, by omega⟩, ⟨r2, r3, by omega, by omega⟩, ⟨r2, by omega⟩, ⟨r3, by omega⟩, ⟨r2, r3, by omega, by omega⟩, ⟨r2, r3, by omega, by omega⟩, ?_⟩
  by_cases hd : ddE n m a b r u v = 0
  · obtain ⟨q1, q2, q3, q4, q5, q6, q7⟩ := kd_ok hd
    have hS := allI_iff.1 q3
    have l1 := wrL_len (fun j => !decide ((wW m a b r u v j).length = 0)) n
    have l1' : (wK m a b r u v n).length ≤ n := l1
    have l2 : ∀ j, (wW m a b r u v j).length ≤ m := fun j => wrL_len _ m
    rw [q5, ints_same]
    refine ⟨fun h => absurd hd (by simpa using h), fun _ => ⟨⟨q1, q2, q3, q4⟩, ?_, ?_⟩⟩
    · repeat' first | with_reducible apply And.intro | with_reducible intro _
      all_goals first | exact True.intro | with_reducible rfl | rfl | (rename_i hj; exact absurd hj (by simp [wK, wrL]))
    refine ⟨fun h => absurd hd (by simpa using h), fun _ => ⟨⟨r1 _ _, r1 _ _, by omega⟩, fun h => by simp at h, fun _ => ⟨fun h => ?_, fun h => ?_⟩⟩⟩
    · have h0 : n = 0 := by rw [beq_iff_eq] at h; omega
      have hE : wgE n m a b r u v = 7 := by unfold wgE; rw [if_pos hd, if_pos h0]
      have hL : wgL n m a b r u v = [] := by unfold wgL; rw [if_neg (by omega)]
      have hN : wgN n m a b r u v = 0 := by unfold wgN; rw [if_neg (by omega)]
      rw [hE, hL, hN]
      simp
    · have h0 : 0 < n := by rw [beq_eq_false_iff_ne] at h; omega
      obtain ⟨p1, p2, p3, p4⟩ := q7 h0
      have pc := scB_bd (hS _ p4)
      have l3 := l2 (wB m a b r u v n)
      rw [p1, p2, p3, ints_same]
      simp [r1, r3, q4, pc]
      omega
  · obtain ⟨q1, q2, q3, q4⟩ := kd_no hd
    rw [q1, q2, q3, q4]
    simp [hd, inI64]

end Go.Proofs.Ytchcegfhamngkaa
