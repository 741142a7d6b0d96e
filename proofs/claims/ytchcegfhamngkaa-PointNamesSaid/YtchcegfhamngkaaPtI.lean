/- Contracts of functions of the program, by the engine Sx: what each call comes to. Printed by a program of this repo (sxgen.py). -/
import Derived.Test.YtchcegfhamngkaaPtH
import Derived.Test.YtchcegfhamngkaaSxS
set_option linter.unusedSimpArgs false
set_option linter.unusedVariables false
namespace Go.Proofs.Ytchcegfhamngkaa
open Go Go.Sx Go.RowKit

def enB (r lo hi : Int) : Bool := bt (-1000000) r 1000000 && insB (-100000) lo hi 100000
def exB (a b r lo hi : Int) : Bool := decide (1000 * alLo a b r r ≤ hi * sizeI a b) && decide (1000 * alHi a b r r ≥ lo * sizeI a b)
theorem enB_bd {r lo hi : Int} (h : enB r lo hi = true) : -1000000 ≤ r ∧ r ≤ 1000000 ∧ -100000 ≤ lo ∧ lo ≤ hi ∧ hi ≤ 100000 := by
  simp only [enB, Bool.and_eq_true, bt_iff, insB_iff] at h
  omega

def S_rIsEntry : Sx.Spec := fun l => match l with
  | [.agg [.x (.int .i64 r), .x (.int .i64 lo), .x (.int .i64 hi)]] => some ([], bl (enB r lo hi))
  | _ => none

set_option maxRecDepth 100000 in
theorem rIsEntry_at (r lo hi : Int) : SoundAt Try.prog 75 [.agg [i r, i lo, i hi]] (bl (enB r lo hi)) := by
  refine soundAt_fin (G := [(69, S_rIn), (30, S_rSpan)]) (L := []) (SoundG.cons rIn_ok (SoundG.cons rSpan_ok (SoundG.nil _))) mixed Try.func75 (show Try.f75.body = some (bodyOf Try.f75) by kernel_rfl) noLoops (t := (Tree.branch (bt (-1000000 : Int) r (1000000 : Int)) (Tree.leaf (RV.x (Value.bool (insB (-100000 : Int) lo hi (100000 : Int))))) (Tree.leaf (RV.x (Value.bool false))))) (by kernel_rfl) ?_
  simp only [Tree.sat, allP, fitP, fitL, valEq, true_and, and_true]
  all_goals (simp +contextual [enB, bt, insB, scB, Bool.and_assoc])
  all_goals omega
theorem rIsEntry_ok : SoundSpec Try.prog 75 S_rIsEntry := by
  refine ⟨⟨_, Try.func75, by kernel_rfl, by kernel_rfl⟩, ?_⟩
  intro avs ns res h hn
  unfold S_rIsEntry at h
  split at h
  · cases h
    exact rIsEntry_at _ _ _
  · cases h

def S_entry : Sx.Spec := fun l => match l with
  | [.agg [.x (.int .i64 r), .x (.int .i64 lo), .x (.int .i64 hi)]] => some ([], bl (enB r lo hi))
  | _ => none

set_option maxRecDepth 100000 in
theorem entry_at (r lo hi : Int) : SoundAt Try.prog 86 [.agg [i r, i lo, i hi]] (bl (enB r lo hi)) := by
  refine soundAt_fin (G := [(79, S_within), (61, S_inside)]) (L := []) (SoundG.cons within_ok (SoundG.cons inside_ok (SoundG.nil _))) mixed Try.func86 (show Try.f86.body = some (bodyOf Try.f86) by kernel_rfl) noLoops (t := (Tree.branch (bt (-1000000 : Int) r (1000000 : Int)) (Tree.leaf (RV.x (Value.bool (insB (-100000 : Int) lo hi (100000 : Int))))) (Tree.leaf (RV.x (Value.bool false))))) (by kernel_rfl) ?_
  simp only [Tree.sat, allP, fitP, fitL, valEq, true_and, and_true]
  all_goals (simp +contextual [enB, bt, insB, scB, Bool.and_assoc])
  all_goals omega
theorem entry_ok : SoundSpec Try.prog 86 S_entry := by
  refine ⟨⟨_, Try.func86, by kernel_rfl, by kernel_rfl⟩, ?_⟩
  intro avs ns res h hn
  unfold S_entry at h
  split at h
  · cases h
    exact entry_at _ _ _
  · cases h

def S_rExplains : Sx.Spec := fun l => match l with
  | [.agg [.x (.int .i64 a), .x (.int .i64 b)], .agg [.x (.int .i64 r), .x (.int .i64 lo), .x (.int .i64 hi)]] => some ([-1000 ≤ a ∧ a ≤ 1000 ∧ -1000 ≤ b ∧ b ≤ 1000 ∧ a ≠ b, -1000000 ≤ r ∧ r ≤ 1000000 ∧ -100000 ≤ lo ∧ lo ≤ hi ∧ hi ≤ 100000], bl (exB a b r lo hi))
  | _ => none

set_option maxRecDepth 100000 in
theorem rExplains_at (a b r lo hi : Int) (pre0 : -1000 ≤ a ∧ a ≤ 1000 ∧ -1000 ≤ b ∧ b ≤ 1000 ∧ a ≠ b) (pre1 : -1000000 ≤ r ∧ r ≤ 1000000 ∧ -100000 ≤ lo ∧ lo ≤ hi ∧ hi ≤ 100000) : SoundAt Try.prog 76 [.agg [i a, i b], .agg [i r, i lo, i hi]] (bl (exB a b r lo hi)) := by
  refine soundAt_fin (G := [(70, S_rAllowed), (71, S_rSize)]) (L := []) (SoundG.cons rAllowed_ok (SoundG.cons rSize_ok (SoundG.nil _))) mixed Try.func76 (show Try.f76.body = some (bodyOf Try.f76) by kernel_rfl) noLoops (t := (Tree.need [(-1000000 : Int) ≤ a ∧ a ≤ (1000000 : Int), (-1000000000000 : Int) ≤ r ∧ r ≤ r ∧ r ≤ (1000000000000 : Int)] (Tree.need [inI64 ((1000 : Int) * alLo a b r r)] (Tree.need [(-1000000 : Int) ≤ a ∧ a ≤ (1000000 : Int) ∧ (-1000000 : Int) ≤ b ∧ b ≤ (1000000 : Int)] (Tree.need [inI64 (hi * sizeI a b)] (Tree.branch (decide ((1000 : Int) * alLo a b r r ≤ hi * sizeI a b)) (Tree.need [inI64 ((1000 : Int) * alHi a b r r)] (Tree.need [(-1000000 : Int) ≤ a ∧ a ≤ (1000000 : Int) ∧ (-1000000 : Int) ≤ b ∧ b ≤ (1000000 : Int)] (Tree.need [inI64 (lo * sizeI a b)] (Tree.leaf (RV.x (Value.bool (decide ((1000 : Int) * alHi a b r r ≥ lo * sizeI a b)))))))) (Tree.leaf (RV.x (Value.bool false))))))))) (by kernel_rfl) ?_
  have e := al_bdx (a := a) (b := b) (lo := r) (hi := r) (R := 1000000) (by omega) (by omega)
  have s1 := sizeI_pos pre0.2.2.2.2
  have s2 := sizeI_le (a := a) (b := b) (by omega)
  have m1 := mul_bd (x := hi) (y := sizeI a b) (X := 100000) (Y := 4000) (by omega) (by omega)
  have m2 := mul_bd (x := lo) (y := sizeI a b) (X := 100000) (Y := 4000) (by omega) (by omega)
  simp only [Tree.sat, allP, fitP, fitL, valEq, inI64, true_and, and_true, decide_eq_true_eq, decide_eq_false_iff_not, Int.natCast_zero, Int.toNat_natCast, exB]
  repeat' first | with_reducible apply And.intro | with_reducible intro _
  all_goals first | exact True.intro | omega | (simp; omega) | (simp_all; done)
theorem rExplains_ok : SoundSpec Try.prog 76 S_rExplains := by
  refine ⟨⟨_, Try.func76, by kernel_rfl, by kernel_rfl⟩, ?_⟩
  intro avs ns res h hn
  unfold S_rExplains at h
  split at h
  · cases h
    exact rExplains_at _ _ _ _ _ (hn _ (by simp)) (hn _ (by simp))
  · cases h

def S_explains : Sx.Spec := fun l => match l with
  | [.agg [.x (.int .i64 a), .x (.int .i64 b), .x (.int .i64 r), .x (.int .i64 lo), .x (.int .i64 hi)]] => some ([-1000 ≤ a ∧ a ≤ 1000 ∧ -1000 ≤ b ∧ b ≤ 1000 ∧ a ≠ b, -1000000 ≤ r ∧ r ≤ 1000000 ∧ -100000 ≤ lo ∧ lo ≤ hi ∧ hi ≤ 100000], bl (exB a b r lo hi))
  | _ => none

set_option maxRecDepth 100000 in
theorem explains_at (a b r lo hi : Int) (pre0 : -1000 ≤ a ∧ a ≤ 1000 ∧ -1000 ≤ b ∧ b ≤ 1000 ∧ a ≠ b) (pre1 : -1000000 ≤ r ∧ r ≤ 1000000 ∧ -100000 ≤ lo ∧ lo ≤ hi ∧ hi ≤ 100000) : SoundAt Try.prog 87 [.agg [i a, i b, i r, i lo, i hi]] (bl (exB a b r lo hi)) := by
  refine soundAt_fin (G := [(63, S_rod), (64, S_heights), (66, S_greatest)]) (L := []) (SoundG.cons rod_ok (SoundG.cons heights_ok (SoundG.cons greatest_ok (SoundG.nil _)))) mixed Try.func87 (show Try.f87.body = some (bodyOf Try.f87) by kernel_rfl) noLoops (t := (Tree.need [(-1000 : Int) ≤ a ∧ a ≤ (1000 : Int) ∧ (-1000 : Int) ≤ b ∧ b ≤ (1000 : Int)] (Tree.need [(-1000 : Int) ≤ a ∧ a ≤ (1000 : Int) ∧ (-1000 : Int) ≤ b ∧ b ≤ (1000 : Int) ∧ a ≠ b, (-100000000 : Int) ≤ r ∧ r ≤ r ∧ r ≤ (100000000 : Int)] (Tree.need [inI64 ((1000 : Int) * alLo a b r r)] (Tree.need [inI64 (hi * sizeI a b)] (Tree.branch (decide ((1000 : Int) * alLo a b r r ≤ hi * sizeI a b)) (Tree.need [inI64 ((1000 : Int) * alHi a b r r)] (Tree.need [inI64 (lo * sizeI a b)] (Tree.leaf (RV.x (Value.bool (decide ((1000 : Int) * alHi a b r r ≥ lo * sizeI a b))))))) (Tree.leaf (RV.x (Value.bool false))))))))) (by kernel_rfl) ?_
  have e := al_bdx (a := a) (b := b) (lo := r) (hi := r) (R := 1000000) (by omega) (by omega)
  have s1 := sizeI_pos pre0.2.2.2.2
  have s2 := sizeI_le (a := a) (b := b) (by omega)
  have m1 := mul_bd (x := hi) (y := sizeI a b) (X := 100000) (Y := 4000) (by omega) (by omega)
  have m2 := mul_bd (x := lo) (y := sizeI a b) (X := 100000) (Y := 4000) (by omega) (by omega)
  simp only [Tree.sat, allP, fitP, fitL, valEq, inI64, true_and, and_true, decide_eq_true_eq, decide_eq_false_iff_not, Int.natCast_zero, Int.toNat_natCast, exB]
  repeat' first | with_reducible apply And.intro | with_reducible intro _
  all_goals first | exact True.intro | omega | (simp; omega) | (simp_all; done)
theorem explains_ok : SoundSpec Try.prog 87 S_explains := by
  refine ⟨⟨_, Try.func87, by kernel_rfl, by kernel_rfl⟩, ?_⟩
  intro avs ns res h hn
  unfold S_explains at h
  split at h
  · cases h
    exact explains_at _ _ _ _ _ (hn _ (by simp)) (hn _ (by simp))
  · cases h


theorem chunk_mem {sz k : Nat} {l : List AV} {x : AV} (h : x ∈ chunk sz l k) : x ∈ l := List.mem_of_mem_drop (List.mem_of_mem_take h)
theorem chunk_isX {n sz : Nat} {l : List AV} (h : ∀ x ∈ l, isX x) : ∀ k, k < n → ∀ x ∈ chunk sz l k, isX x := fun _ _ x hx => h x (chunk_mem hx)
theorem chunk_one {n sz : Nat} {l : List AV} (h : ∀ x ∈ l, AV.one x = true) : ∀ k, k < n → ∀ x ∈ chunk sz l k, AV.one x = true := fun _ _ x hx => h x (chunk_mem hx)
theorem one_of {sz k : Nat} {l : List AV} {x : AV} (hm : x ∈ chunk sz l k) (h : ∀ y ∈ l, AV.one y = true) : AV.one x = true := h x (chunk_mem hm)
theorem catF1 {k j : Nat} {a : Nat → Int} {x : Int} (h : j < k + 1) (hx : x = a k) : catF k (fun k => [i (a k)]) (chunk 1 [i x]) j = [i (a j)] := by
  have e : j - k = 0 := by omega
  show mergeL (decide (j < k)) [i (a j)] (chunk 1 [i x] (j - k)) = _
  rw [e]
  by_cases hj : j < k
  · rw [show decide (j < k) = true by simp [hj]]
    rfl
  · have hk : j = k := by omega
    rw [show decide (j < k) = false by simp [hj], hk, hx]
    rfl
theorem catF2 {k j : Nat} {a b : Nat → Int} {x y : Int} (h : j < k + 1) (hx : x = a k) (hy : y = b k) : catF k (fun k => [i (a k), i (b k)]) (chunk 2 [i x, i y]) j = [i (a j), i (b j)] := by
  have e : j - k = 0 := by omega
  show mergeL (decide (j < k)) [i (a j), i (b j)] (chunk 2 [i x, i y] (j - k)) = _
  rw [e]
  by_cases hj : j < k
  · rw [show decide (j < k) = true by simp [hj]]
    rfl
  · have hk : j = k := by omega
    rw [show decide (j < k) = false by simp [hj], hk, hx, hy]
    rfl
theorem catF3 {k j : Nat} {a b c : Nat → Int} {x y z : Int} (h : j < k + 1) (hx : x = a k) (hy : y = b k) (hz : z = c k) : catF k (fun k => [i (a k), i (b k), i (c k)]) (chunk 3 [i x, i y, i z]) j = [i (a j), i (b j), i (c j)] := by
  have e : j - k = 0 := by omega
  show mergeL (decide (j < k)) [i (a j), i (b j), i (c j)] (chunk 3 [i x, i y, i z] (j - k)) = _
  rw [e]
  by_cases hj : j < k
  · rw [show decide (j < k) = true by simp [hj]]
    rfl
  · have hk : j = k := by omega
    rw [show decide (j < k) = false by simp [hj], hk, hx, hy, hz]
    rfl

def S_kinds : Sx.Spec := fun l => match l with
  | [] => some ([], .lst 2 4 (chunk 2 [i 0, i 100, i 32, i 212, i 0, i 80, i 150, i 0]))
  | _ => none

set_option maxRecDepth 100000 in
theorem kinds_at  : SoundAt Try.prog 49 [] (.lst 2 4 (chunk 2 [i 0, i 100, i 32, i 212, i 0, i 80, i 150, i 0])) := by
  refine soundAt_fin (G := []) (L := []) (SoundG.nil _) mixed Try.func49 (show Try.f49.body = some (bodyOf Try.f49) by kernel_rfl) noLoops (t := (Tree.leaf (RV.lst 2 4 (chunk 2 [iI (0 : Int), iI (100 : Int), iI (32 : Int), iI (212 : Int), iI (0 : Int), iI (80 : Int), iI (150 : Int), iI (0 : Int)])))) (by kernel_rfl) ?_
  simp only [Tree.sat, fitP, true_and]
  exact chunk_isX (by simp [isX])
theorem kinds_ok : SoundSpec Try.prog 49 S_kinds := by
  refine ⟨⟨_, Try.func49, by kernel_rfl, by kernel_rfl⟩, ?_⟩
  intro avs ns res h hn
  unfold S_kinds at h
  split at h
  · cases h
    exact kinds_at 
  · cases h

noncomputable def E_ls (n : Nat) (a b : Nat → Int) : St := (some
  {
    σ :=
      [AV.lst (2 : Nat) n fun k => [AV.x (Value.int IntKind.i64 (a k)), AV.x (Value.int IntKind.i64 (b k))], AV.top,
        AV.x (Value.slice none (0 : Nat) (0 : Nat)), AV.top, AV.top, AV.top, AV.top, AV.top, AV.top, AV.top, AV.top,
        AV.top, AV.top, AV.top, AV.top, AV.top, AV.top, AV.top, AV.top, AV.top],
    m := [((900 : Nat), Res.row (38 : Nat) (2 : Nat) (0 : Nat) fun x => [])], nx := (901 : Nat) } : Option St).getD { σ := [], m := [], nx := 0 }
noncomputable def B_ls : Code := loopBody (loopAt (bodyOf Try.f18) 0)
noncomputable def inv_ls (n : Nat) (a b : Nat → Int) (k : Nat) : St := { σ := ovrS [(3, .row 900), (4, i k)] (E_ls n a b).σ, m := [(900, .row 38 2 (k) (fun k => [i (a k), i (b k)]))], nx := (E_ls n a b).nx }
noncomputable def out_ls (n : Nat) (a b : Nat → Int) (k : Nat) : AEx → Option St := fun ex => match ex with
  | .exit 0 => some { σ := ovrS [(3, .row 900)] (E_ls n a b).σ, m := [(900, .row 38 2 (n) (fun k => [i (a k), i (b k)]))], nx := (E_ls n a b).nx }
  | _ => none
noncomputable def T_ls (n : Nat) (a b : Nat → Int) : CT := .leaf (.exit 0, ( out_ls n a b 0 (.exit 0)).getD (E_ls n a b))
noncomputable def LS_ls (n : Nat) (a b : Nat → Int) : LSpec := normSp [(.slot 3, 900, 38, 2)] (sumL (inv_ls n a b (0)) (T_ls n a b))
set_option maxRecDepth 100000 in
theorem ls_ls (n : Nat) (a b : Nat → Int) (pre0 : n ≤ 100000) : LSound Try.prog (.loop B_ls) (LS_ls n a b) := by
  refine loop_roundsN [(.slot 3, 900, 38, 2)] (G := [(23, S_lScale)]) (L := []) (SoundG.cons lScale_ok (SoundG.nil _)) mixed noLoops (X := Nat) (inv_ls n a b) (fun k => k ≤ n) (fun k => n - k) (out_ls n a b) (x0 := 0) (by simp) ?_ ?_ ?_
  · rintro k
    kernel_rfl
  · rintro k y E h
    unfold out_ls at h
    split at h
    · cases h; kernel_rfl
    · cases h
  · rintro Q hQ k hx
    refine ⟨(k + 1), ?_⟩
    have e : roundN Try.prog [(23, S_lScale)] [] [(.slot 3, 900, 38, 2)] B_ls (inv_ls n a b k) (inv_ls n a b ((k + 1))) (out_ls n a b k) = (Tree.branch (decide ((↑k : Int) < (↑n : Int))) (Tree.need [(0 : Int) ≤ (↑k : Int) ∧ (↑k : Int) < (↑n : Int)] (Tree.need [(k + 1) * 16 ≤ 140737488355328, ∀ (i : Nat), i < 1 → ∀ (a_2 : AV), a_2 ∈ chunk 2 [iI (a (Int.toNat (↑k : Int))), iI (b (Int.toNat (↑k : Int)))] i → AV.one a_2 = true] (Tree.need [inI64 ((↑k : Int) + (1 : Int))] (Tree.need [(AV.lst 2 n fun k => [iI (a k), iI (b k)]) = AV.lst 2 n fun k => [iI (a k), iI (b k)], AV.x (Value.slice none 0 0) = AV.x (Value.slice none 0 0), AV.row 900 = AV.row 900, (↑k : Int) + (1 : Int) = (↑(k + 1) : Int), k + 1 = k + 1, ∀ (i : Nat), i < k + 1 → catF k (fun k => [Ytchcegfhamngkaa.i (a k), Ytchcegfhamngkaa.i (b k)]) (chunk 2 [iI (a (Int.toNat (↑k : Int))), iI (b (Int.toNat (↑k : Int)))]) i = [Ytchcegfhamngkaa.i (a i), Ytchcegfhamngkaa.i (b i)]] (Tree.leaf AEx.normal))))) (Tree.need [(AV.lst 2 n fun k => [iI (a k), iI (b k)]) = AV.lst 2 n fun k => [iI (a k), iI (b k)], AV.x (Value.slice none 0 0) = AV.x (Value.slice none 0 0), AV.row 900 = AV.row 900, k = n, ∀ (i : Nat), i < n → [Ytchcegfhamngkaa.i (a i), Ytchcegfhamngkaa.i (b i)] = [Ytchcegfhamngkaa.i (a i), Ytchcegfhamngkaa.i (b i)]] (Tree.leaf (AEx.exit 0)))) := by kernel_rfl
    rw [e]
    simp only [T_ls, out_ls, Tree.sat, Option.getD_some] at hQ
    simp only [Tree.sat, allP, fitP, fitL, valEq, inI64, true_and, and_true, decide_eq_true_eq, decide_eq_false_iff_not, Int.natCast_zero, Int.toNat_natCast, out_ls]
    clear e
    repeat' first | with_reducible apply And.intro | with_reducible intro _
    all_goals first | exact True.intro | omega | exact catF2 (by assumption) rfl rfl | (rename_i hm; exact one_of hm (by simp [AV.one, Value.oneCell'])) | (rename_i hE; cases hE; exact hQ)

set_option maxRecDepth 100000 in
theorem lScales_at (n : Nat) (a b : Nat → Int) (pre0 : n ≤ 100000) : SoundAt Try.prog 18 [scs n a b] (scs n a b) := by
  refine soundAt_fin (G := [(23, S_lScale)]) (L := [LS_ls n a b]) (SoundG.cons lScale_ok (SoundG.nil _)) mixed Try.func18 (show Try.f18.body = some (bodyOf Try.f18) by kernel_rfl) (one_loop (fun cj hcj => by
    have e : loopAt (bodyOf Try.f18) 0 = some (.loop B_ls) := by kernel_rfl
    rw [e] at hcj; cases hcj
    exact ls_ls n a b pre0)) (t := (Tree.need [(AV.lst 2 n fun k => [iI (a k), iI (b k)]) = AV.lst 2 n fun k => [iI (a k), iI (b k)], AV.x (Value.slice none 0 0) = AV.x (Value.slice none 0 0), AV.row 900 = AV.row 900, (0 : Int) = (↑(0 : Nat) : Int), 0 = 0, ∀ (i : Nat), i < 0 → [] = [Ytchcegfhamngkaa.i (a i), Ytchcegfhamngkaa.i (b i)]] (Tree.leaf (RV.lst 2 n fun k => [iI (a k), iI (b k)])))) (by kernel_rfl) ?_
  simp only [Tree.sat, allP, fitP, fitL, valEq, inI64, true_and, and_true, decide_eq_true_eq, decide_eq_false_iff_not, Int.natCast_zero, Int.toNat_natCast, List.mem_cons, List.not_mem_nil, or_false, isX]
  repeat' first | with_reducible apply And.intro | with_reducible intro _
  all_goals first | exact True.intro | omega | with_reducible rfl | (rename_i hm; rcases hm with rfl | rfl <;> exact True.intro) | (rename_i hm; rcases hm with rfl | rfl | rfl <;> exact True.intro) | (rename_i hm; subst hm; exact True.intro)

end Go.Proofs.Ytchcegfhamngkaa
