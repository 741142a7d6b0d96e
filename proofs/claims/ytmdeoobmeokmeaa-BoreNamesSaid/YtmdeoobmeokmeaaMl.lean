/- Texts of this claim, put together: BoW, BoX, BoY, BoZ, BpA, BpB, BpC, BpD, BpE, BpF, BpG, BpH, BqA, BqB, BqC, BqD, BqE, BqF, BqI -/
import Derived.Test.YtmdeoobmeokmeaaMk
/- Contracts of functions of the program, by the engine Sx: what each call comes to. Printed by a program of this repo (sxgen.py). -/
set_option linter.unusedSimpArgs false
set_option linter.unusedVariables false
namespace Go.Proofs.Ytmdeoobmeokmeaa
open Go Go.Sx Go.RowKit

theorem catF1 {k j : Nat} {a : Nat → Int} {x : Int} (h : j < k + 1) (hx : x = a k) : catF k (fun k => [i (a k)]) (chunk 1 [i x]) j = [i (a j)] := by
  have e : j - k = 0 := by omega
  show mergeL (decide (j < k)) [i (a j)] (chunk 1 [i x] (j - k)) = _
  rw [e]
  by_cases hj : j < k
  · rw [show decide (j < k) = true by simp [hj]]
    rfl
  · have hk : j = k := by omega
    rw [show decide (j < k) = false by simp [hj], hk, hx]
    rfl


/-- The volumes of a truth that is as high, or as low, as it can be. -/
def shV (c T lo hi : Int) (n : Nat) (a b u v : Nat → Int) (h : Bool) (k : Nat) : Int := if h then fwB c T lo hi n a b u v 0 (k + 1) - fwB c T lo hi n a b u v 0 k else -(fwB c T lo hi n a b u v (k + 1) 0) - -(fwB c T lo hi n a b u v k 0)
def shE (c T lo hi : Int) (n : Nat) (a b u v : Nat → Int) (mk : Int) : Int := fltB c T lo hi n a b u v (bt 0 mk c)
def shL (c T lo hi : Int) (n : Nat) (a b u v : Nat → Int) (mk : Int) : Nat := if shE c T lo hi n a b u v mk = 0 then c.toNat else 0

noncomputable def E_shh (c T lo hi : Int) (n : Nat) (a b u v : Nat → Int) (mk : Int) : St := (some { σ := [.agg [i c, i T, i lo, i hi], rds n a b u v, i mk, .lit true, .ptr 0 0, .top, .top, .top, .x (.slice none 0 0), i 0, siteB c T lo hi n a b u v, i 0, .ptr 18 0, .x (.slice none 0 0), .top, .top, .top, .top, .top, .top, .top, .top, .top, .top, .top, .top, .top, .top, .top, .top, .top, .top, i c, .top, .top, .top, .top, .top, .top, .top, .top, .top, .top, .top, .top, .top, .top, .top, .top, .top, .top, .top, .top], m := [(901, .row 3 1 0 (fun _ => [])), (18, .cells 113 [.fn (.func 98) [] []]), (0, .cells 34 [i c, i T, i lo, i hi])], nx := 902 } : Option St).getD { σ := [], m := [], nx := 0 }
noncomputable def B_shh : Code := loopBody (loopAt (bodyOf Try.f41) 0)
noncomputable def inv_shh (c T lo hi : Int) (n : Nat) (a b u v : Nat → Int) (mk : Int) (k : Nat) : St := { σ := ovrS [(13, .row 901), (33, i k)] (E_shh c T lo hi n a b u v mk).σ, m := [(901, .row 3 1 (k) (fun k => [i (shV c T lo hi n a b u v true k)])), (18, .cells 113 [.fn (.func 98) [] []]), (0, .cells 34 [i c, i T, i lo, i hi])], nx := (E_shh c T lo hi n a b u v mk).nx }
noncomputable def out_shh (c T lo hi : Int) (n : Nat) (a b u v : Nat → Int) (mk : Int) (k : Nat) : AEx → Option St := fun ex => match ex with
  | .exit 0 => some { σ := ovrS [(13, .row 901), (33, i c)] (E_shh c T lo hi n a b u v mk).σ, m := [(901, .row 3 1 (c.toNat) (fun k => [i (shV c T lo hi n a b u v true k)])), (18, .cells 113 [.fn (.func 98) [] []]), (0, .cells 34 [i c, i T, i lo, i hi])], nx := (E_shh c T lo hi n a b u v mk).nx }
  | _ => none
noncomputable def T_shh (c T lo hi : Int) (n : Nat) (a b u v : Nat → Int) (mk : Int) : CT := .leaf (.exit 0, ( out_shh c T lo hi n a b u v mk 0 (.exit 0)).getD (E_shh c T lo hi n a b u v mk))
noncomputable def LS_shh (c T lo hi : Int) (n : Nat) (a b u v : Nat → Int) (mk : Int) : LSpec := normSp [(.slot 13, 901, 3, 1)] (sumL (inv_shh c T lo hi n a b u v mk (0)) (T_shh c T lo hi n a b u v mk))
set_option maxRecDepth 100000 in
theorem shh_ls (c T lo hi : Int) (n : Nat) (a b u v : Nat → Int) (mk : Int) (pre0 : flt c T lo hi n a b u v = 0) : LSound Try.prog (.loop B_shh) (LS_shh c T lo hi n a b u v mk) := by
  refine loop_roundsX [(.slot 13, 901, 3, 1)] (E := { R := [], H := [] }) (G := [(97, S_low), (98, S_high)]) (L := []) (SoundG.cons low_ok (SoundG.cons high_ok (SoundG.nil _))) (SoundX.of (SoundRL.nil _) (SoundHL.nil _)) mixed noLoops (X := Nat) (inv_shh c T lo hi n a b u v mk) (fun k => k ≤ c.toNat) (fun k => c.toNat - k) (out_shh c T lo hi n a b u v mk) (x0 := 0) (by simp) ?_ ?_ ?_
  · rintro k
    kernel_rfl
  · rintro k y E h
    unfold out_shh at h
    split at h
    · cases h; kernel_rfl
    · cases h
  · rintro Q hQ k hx
    refine ⟨(k + 1), ?_⟩
    have e : roundX Try.prog [(97, S_low), (98, S_high)] { R := [], H := [] } [] [(.slot 13, 901, 3, 1)] B_shh (inv_shh c T lo hi n a b u v mk k) (inv_shh c T lo hi n a b u v mk ((k + 1))) (out_shh c T lo hi n a b u v mk k) = (Tree.branch (decide ((↑k : Int) < c)) (Tree.need [inI64 ((↑k : Int) + (1 : Int))] (Tree.need [(0 : Int) ≤ (↑k : Int) + (1 : Int) ∧ (↑k : Int) + (1 : Int) ≤ (10 : Int), (-1000000000000 : Int) ≤ siteF (↑(Int.toNat c) : Int) T lo hi (fwM (Int.toNat c) T lo hi n a b u v) (Int.toNat ((↑k : Int) + (1 : Int)) * 11 + 4) ∧ siteF (↑(Int.toNat c) : Int) T lo hi (fwM (Int.toNat c) T lo hi n a b u v) (Int.toNat ((↑k : Int) + (1 : Int)) * 11 + 4) ≤ (1000000000000 : Int)] (Tree.need [(0 : Int) ≤ (↑k : Int) ∧ (↑k : Int) ≤ (10 : Int), (-1000000000000 : Int) ≤ siteF (↑(Int.toNat c) : Int) T lo hi (fwM (Int.toNat c) T lo hi n a b u v) (k * 11 + 4) ∧ siteF (↑(Int.toNat c) : Int) T lo hi (fwM (Int.toNat c) T lo hi n a b u v) (k * 11 + 4) ≤ (1000000000000 : Int)] (Tree.need [inI64 (siteF (↑(Int.toNat c) : Int) T lo hi (fwM (Int.toNat c) T lo hi n a b u v) (Int.toNat ((↑k : Int) + (1 : Int)) + 4) - siteF (↑(Int.toNat c) : Int) T lo hi (fwM (Int.toNat c) T lo hi n a b u v) (k + 4))] (Tree.need [(k + 1) * 8 ≤ 140737488355328, ∀ (i : Nat), i < 1 → ∀ (a_2 : AV), a_2 ∈ chunk 1 [iI (siteF (↑(Int.toNat c) : Int) T lo hi (fwM (Int.toNat c) T lo hi n a b u v) (Int.toNat ((↑k : Int) + (1 : Int)) + 4) - siteF (↑(Int.toNat c) : Int) T lo hi (fwM (Int.toNat c) T lo hi n a b u v) (k + 4))] i → AV.one a_2 = true] (Tree.need [inI64 ((↑k : Int) + (1 : Int))] (Tree.need [AV.agg [iI c, iI T, iI lo, iI hi] = AV.agg [iI c, iI T, iI lo, iI hi], (AV.lst 4 n fun k => [iI (a k), iI (b k), iI (u k), iI (v k)]) = AV.lst 4 n fun k => [iI (a k), iI (b k), iI (u k), iI (v k)], mk = mk, AV.lit true = AV.lit true, AV.ptr 0 0 = AV.ptr 0 0, AV.x (Value.slice none 0 0) = AV.x (Value.slice none 0 0), (0 : Int) = (0 : Int), AV.roI [] 125 (fun k => siteF (↑(Int.toNat c) : Int) T lo hi (fwM (Int.toNat c) T lo hi n a b u v) k) 0 = AV.roI [] 125 (fun k => siteF (↑(Int.toNat c) : Int) T lo hi (fwM (Int.toNat c) T lo hi n a b u v) k) 0, (0 : Int) = (0 : Int), AV.ptr 18 0 = AV.ptr 18 0, AV.row 901 = AV.row 901, c = c, (↑k : Int) + (1 : Int) = (↑(k + 1) : Int), k + 1 = k + 1, ∀ (i : Nat), i < k + 1 → catF k (fun k => [Ytmdeoobmeokmeaa.i (shV c T lo hi n a b u v true k)]) (chunk 1 [iI (siteF (↑(Int.toNat c) : Int) T lo hi (fwM (Int.toNat c) T lo hi n a b u v) (Int.toNat ((↑k : Int) + (1 : Int)) + 4) - siteF (↑(Int.toNat c) : Int) T lo hi (fwM (Int.toNat c) T lo hi n a b u v) (k + 4))]) i = [Ytmdeoobmeokmeaa.i (shV c T lo hi n a b u v true i)], AV.fn (Fn.func 98) [] [] = AV.fn (Fn.func 98) [] [], c = c, T = T, lo = lo, hi = hi] (Tree.leaf AEx.normal)))))))) (Tree.need [AV.agg [iI c, iI T, iI lo, iI hi] = AV.agg [iI c, iI T, iI lo, iI hi], (AV.lst 4 n fun k => [iI (a k), iI (b k), iI (u k), iI (v k)]) = AV.lst 4 n fun k => [iI (a k), iI (b k), iI (u k), iI (v k)], mk = mk, AV.lit true = AV.lit true, AV.ptr 0 0 = AV.ptr 0 0, AV.x (Value.slice none 0 0) = AV.x (Value.slice none 0 0), (0 : Int) = (0 : Int), AV.roI [] 125 (fun k => siteF (↑(Int.toNat c) : Int) T lo hi (fwM (Int.toNat c) T lo hi n a b u v) k) 0 = AV.roI [] 125 (fun k => siteF (↑(Int.toNat c) : Int) T lo hi (fwM (Int.toNat c) T lo hi n a b u v) k) 0, (0 : Int) = (0 : Int), AV.ptr 18 0 = AV.ptr 18 0, AV.row 901 = AV.row 901, c = c, (↑k : Int) = c, k = Int.toNat c, ∀ (i : Nat), i < Int.toNat c → [Ytmdeoobmeokmeaa.i (shV c T lo hi n a b u v true i)] = [Ytmdeoobmeokmeaa.i (shV c T lo hi n a b u v true i)], AV.fn (Fn.func 98) [] [] = AV.fn (Fn.func 98) [] [], c = c, T = T, lo = lo, hi = hi] (Tree.leaf (AEx.exit 0)))) := by kernel_rfl
    rw [e]
    simp only [T_shh, out_shh, Tree.sat, Option.getD_some] at hQ
    have hf := flt_iff.1 pre0
    have hb := tube_bd hf.1
    have eq : ∀ k, siteF c.toNat T lo hi (fwM c.toNat T lo hi n a b u v) k = sfB c T lo hi n a b u v k := fun _ => rfl
    have e1 : ((k : Int) + 1).toNat = k + 1 := by omega
    simp only [Tree.sat, allP, fitP, fitL, valEq, inI64, true_and, and_true, decide_eq_true_eq, decide_eq_false_iff_not, Int.natCast_zero, Int.toNat_natCast, out_shh, eq, e1]
    clear e
    refine ⟨fun h => ?_, fun h => ?_⟩
    · have h2 := fwM_bd pre0 k 0
      have h3 := fwM_bd pre0 0 k
      have h4 := fwM_bd pre0 (k + 1) 0
      have h5 := fwM_bd pre0 0 (k + 1)
      have g2 := sfB_low c T lo hi n a b u v k
      have g3 := sfB_high c T lo hi n a b u v (k := k) (by omega)
      have g4 := sfB_low c T lo hi n a b u v (k + 1)
      have g5 := sfB_high c T lo hi n a b u v (k := k + 1) (by omega)
      simp only [g2, g3, g4, g5]
      (repeat' first | with_reducible apply And.intro | with_reducible intro _)
      all_goals first | exact True.intro | omega | with_reducible rfl | exact one_of (by assumption) (by simp [AV.one, Value.oneCell']) | exact catF1 (by assumption) rfl | rfl
    · obtain rfl : k = c.toNat := by omega
      (repeat' first | with_reducible apply And.intro | with_reducible intro _)
      all_goals first | exact True.intro | omega | with_reducible rfl | (rename_i E hE; cases hE; exact hQ) | rfl

noncomputable def E_shl (c T lo hi : Int) (n : Nat) (a b u v : Nat → Int) (mk : Int) : St := (some { σ := [.agg [i c, i T, i lo, i hi], rds n a b u v, i mk, .lit false, .ptr 0 0, .top, .top, .top, .x (.slice none 0 0), i 0, siteB c T lo hi n a b u v, i 0, .ptr 18 0, .x (.slice none 0 0), .top, .top, .top, .top, .top, .top, .top, .top, .top, .top, .top, .top, .top, .top, .top, .top, .top, .top, i c, .top, .top, .top, .top, .top, .top, .top, .top, .top, .top, .top, .top, .top, .top, .top, .top, .top, .top, .top, .top], m := [(901, .row 3 1 0 (fun _ => [])), (18, .cells 113 [.fn (.func 97) [] []]), (0, .cells 34 [i c, i T, i lo, i hi])], nx := 902 } : Option St).getD { σ := [], m := [], nx := 0 }
noncomputable def B_shl : Code := loopBody (loopAt (bodyOf Try.f41) 0)
noncomputable def inv_shl (c T lo hi : Int) (n : Nat) (a b u v : Nat → Int) (mk : Int) (k : Nat) : St := { σ := ovrS [(13, .row 901), (33, i k)] (E_shl c T lo hi n a b u v mk).σ, m := [(901, .row 3 1 (k) (fun k => [i (shV c T lo hi n a b u v false k)])), (18, .cells 113 [.fn (.func 97) [] []]), (0, .cells 34 [i c, i T, i lo, i hi])], nx := (E_shl c T lo hi n a b u v mk).nx }
noncomputable def out_shl (c T lo hi : Int) (n : Nat) (a b u v : Nat → Int) (mk : Int) (k : Nat) : AEx → Option St := fun ex => match ex with
  | .exit 0 => some { σ := ovrS [(13, .row 901), (33, i c)] (E_shl c T lo hi n a b u v mk).σ, m := [(901, .row 3 1 (c.toNat) (fun k => [i (shV c T lo hi n a b u v false k)])), (18, .cells 113 [.fn (.func 97) [] []]), (0, .cells 34 [i c, i T, i lo, i hi])], nx := (E_shl c T lo hi n a b u v mk).nx }
  | _ => none
noncomputable def T_shl (c T lo hi : Int) (n : Nat) (a b u v : Nat → Int) (mk : Int) : CT := .leaf (.exit 0, ( out_shl c T lo hi n a b u v mk 0 (.exit 0)).getD (E_shl c T lo hi n a b u v mk))
noncomputable def LS_shl (c T lo hi : Int) (n : Nat) (a b u v : Nat → Int) (mk : Int) : LSpec := normSp [(.slot 13, 901, 3, 1)] (sumL (inv_shl c T lo hi n a b u v mk (0)) (T_shl c T lo hi n a b u v mk))
set_option maxRecDepth 100000 in
theorem shl_ls (c T lo hi : Int) (n : Nat) (a b u v : Nat → Int) (mk : Int) (pre0 : flt c T lo hi n a b u v = 0) : LSound Try.prog (.loop B_shl) (LS_shl c T lo hi n a b u v mk) := by
  refine loop_roundsX [(.slot 13, 901, 3, 1)] (E := { R := [], H := [] }) (G := [(97, S_low), (98, S_high)]) (L := []) (SoundG.cons low_ok (SoundG.cons high_ok (SoundG.nil _))) (SoundX.of (SoundRL.nil _) (SoundHL.nil _)) mixed noLoops (X := Nat) (inv_shl c T lo hi n a b u v mk) (fun k => k ≤ c.toNat) (fun k => c.toNat - k) (out_shl c T lo hi n a b u v mk) (x0 := 0) (by simp) ?_ ?_ ?_
  · rintro k
    kernel_rfl
  · rintro k y E h
    unfold out_shl at h
    split at h
    · cases h; kernel_rfl
    · cases h
  · rintro Q hQ k hx
    refine ⟨(k + 1), ?_⟩
    have e : roundX Try.prog [(97, S_low), (98, S_high)] { R := [], H := [] } [] [(.slot 13, 901, 3, 1)] B_shl (inv_shl c T lo hi n a b u v mk k) (inv_shl c T lo hi n a b u v mk ((k + 1))) (out_shl c T lo hi n a b u v mk k) = (Tree.branch (decide ((↑k : Int) < c)) (Tree.need [inI64 ((↑k : Int) + (1 : Int))] (Tree.need [(0 : Int) ≤ (↑k : Int) + (1 : Int) ∧ (↑k : Int) + (1 : Int) ≤ (10 : Int), (-1000000000000 : Int) ≤ siteF (↑(Int.toNat c) : Int) T lo hi (fwM (Int.toNat c) T lo hi n a b u v) (Int.toNat ((↑k : Int) + (1 : Int)) * 11 + 4) ∧ siteF (↑(Int.toNat c) : Int) T lo hi (fwM (Int.toNat c) T lo hi n a b u v) (Int.toNat ((↑k : Int) + (1 : Int)) * 11 + 4) ≤ (1000000000000 : Int)] (Tree.need [(0 : Int) ≤ (↑k : Int) ∧ (↑k : Int) ≤ (10 : Int), (-1000000000000 : Int) ≤ siteF (↑(Int.toNat c) : Int) T lo hi (fwM (Int.toNat c) T lo hi n a b u v) (k * 11 + 4) ∧ siteF (↑(Int.toNat c) : Int) T lo hi (fwM (Int.toNat c) T lo hi n a b u v) (k * 11 + 4) ≤ (1000000000000 : Int)] (Tree.need [inI64 (-siteF (↑(Int.toNat c) : Int) T lo hi (fwM (Int.toNat c) T lo hi n a b u v) (Int.toNat ((↑k : Int) + (1 : Int)) * 11 + 4) - -siteF (↑(Int.toNat c) : Int) T lo hi (fwM (Int.toNat c) T lo hi n a b u v) (k * 11 + 4))] (Tree.need [(k + 1) * 8 ≤ 140737488355328, ∀ (i : Nat), i < 1 → ∀ (a_2 : AV), a_2 ∈ chunk 1 [iI (-siteF (↑(Int.toNat c) : Int) T lo hi (fwM (Int.toNat c) T lo hi n a b u v) (Int.toNat ((↑k : Int) + (1 : Int)) * 11 + 4) - -siteF (↑(Int.toNat c) : Int) T lo hi (fwM (Int.toNat c) T lo hi n a b u v) (k * 11 + 4))] i → AV.one a_2 = true] (Tree.need [inI64 ((↑k : Int) + (1 : Int))] (Tree.need [AV.agg [iI c, iI T, iI lo, iI hi] = AV.agg [iI c, iI T, iI lo, iI hi], (AV.lst 4 n fun k => [iI (a k), iI (b k), iI (u k), iI (v k)]) = AV.lst 4 n fun k => [iI (a k), iI (b k), iI (u k), iI (v k)], mk = mk, AV.lit false = AV.lit false, AV.ptr 0 0 = AV.ptr 0 0, AV.x (Value.slice none 0 0) = AV.x (Value.slice none 0 0), (0 : Int) = (0 : Int), AV.roI [] 125 (fun k => siteF (↑(Int.toNat c) : Int) T lo hi (fwM (Int.toNat c) T lo hi n a b u v) k) 0 = AV.roI [] 125 (fun k => siteF (↑(Int.toNat c) : Int) T lo hi (fwM (Int.toNat c) T lo hi n a b u v) k) 0, (0 : Int) = (0 : Int), AV.ptr 18 0 = AV.ptr 18 0, AV.row 901 = AV.row 901, c = c, (↑k : Int) + (1 : Int) = (↑(k + 1) : Int), k + 1 = k + 1, ∀ (i : Nat), i < k + 1 → catF k (fun k => [Ytmdeoobmeokmeaa.i (shV c T lo hi n a b u v false k)]) (chunk 1 [iI (-siteF (↑(Int.toNat c) : Int) T lo hi (fwM (Int.toNat c) T lo hi n a b u v) (Int.toNat ((↑k : Int) + (1 : Int)) * 11 + 4) - -siteF (↑(Int.toNat c) : Int) T lo hi (fwM (Int.toNat c) T lo hi n a b u v) (k * 11 + 4))]) i = [Ytmdeoobmeokmeaa.i (shV c T lo hi n a b u v false i)], AV.fn (Fn.func 97) [] [] = AV.fn (Fn.func 97) [] [], c = c, T = T, lo = lo, hi = hi] (Tree.leaf AEx.normal)))))))) (Tree.need [AV.agg [iI c, iI T, iI lo, iI hi] = AV.agg [iI c, iI T, iI lo, iI hi], (AV.lst 4 n fun k => [iI (a k), iI (b k), iI (u k), iI (v k)]) = AV.lst 4 n fun k => [iI (a k), iI (b k), iI (u k), iI (v k)], mk = mk, AV.lit false = AV.lit false, AV.ptr 0 0 = AV.ptr 0 0, AV.x (Value.slice none 0 0) = AV.x (Value.slice none 0 0), (0 : Int) = (0 : Int), AV.roI [] 125 (fun k => siteF (↑(Int.toNat c) : Int) T lo hi (fwM (Int.toNat c) T lo hi n a b u v) k) 0 = AV.roI [] 125 (fun k => siteF (↑(Int.toNat c) : Int) T lo hi (fwM (Int.toNat c) T lo hi n a b u v) k) 0, (0 : Int) = (0 : Int), AV.ptr 18 0 = AV.ptr 18 0, AV.row 901 = AV.row 901, c = c, (↑k : Int) = c, k = Int.toNat c, ∀ (i : Nat), i < Int.toNat c → [Ytmdeoobmeokmeaa.i (shV c T lo hi n a b u v false i)] = [Ytmdeoobmeokmeaa.i (shV c T lo hi n a b u v false i)], AV.fn (Fn.func 97) [] [] = AV.fn (Fn.func 97) [] [], c = c, T = T, lo = lo, hi = hi] (Tree.leaf (AEx.exit 0)))) := by kernel_rfl
    rw [e]
    simp only [T_shl, out_shl, Tree.sat, Option.getD_some] at hQ
    have hf := flt_iff.1 pre0
    have hb := tube_bd hf.1
    have eq : ∀ k, siteF c.toNat T lo hi (fwM c.toNat T lo hi n a b u v) k = sfB c T lo hi n a b u v k := fun _ => rfl
    have e1 : ((k : Int) + 1).toNat = k + 1 := by omega
    simp only [Tree.sat, allP, fitP, fitL, valEq, inI64, true_and, and_true, decide_eq_true_eq, decide_eq_false_iff_not, Int.natCast_zero, Int.toNat_natCast, out_shl, eq, e1]
    clear e
    refine ⟨fun h => ?_, fun h => ?_⟩
    · have h2 := fwM_bd pre0 k 0
      have h3 := fwM_bd pre0 0 k
      have h4 := fwM_bd pre0 (k + 1) 0
      have h5 := fwM_bd pre0 0 (k + 1)
      have g2 := sfB_low c T lo hi n a b u v k
      have g3 := sfB_high c T lo hi n a b u v (k := k) (by omega)
      have g4 := sfB_low c T lo hi n a b u v (k + 1)
      have g5 := sfB_high c T lo hi n a b u v (k := k + 1) (by omega)
      simp only [g2, g3, g4, g5]
      (repeat' first | with_reducible apply And.intro | with_reducible intro _)
      all_goals first | exact True.intro | omega | with_reducible rfl | exact one_of (by assumption) (by simp [AV.one, Value.oneCell']) | exact catF1 (by assumption) rfl | rfl
    · obtain rfl : k = c.toNat := by omega
      (repeat' first | with_reducible apply And.intro | with_reducible intro _)
      all_goals first | exact True.intro | omega | with_reducible rfl | (rename_i E hE; cases hE; exact hQ) | rfl

set_option maxRecDepth 100000 in
theorem Shows1h (c T lo hi : Int) (n : Nat) (a b u v : Nat → Int) (mk : Int) (pre0 : fltB c T lo hi n a b u v (bt 0 mk c) = 0) (pre1 : flt c T lo hi n a b u v = 0) : SoundAt Try.prog 41 [.agg [i c, i T, i lo, i hi], rds n a b u v, i mk, .lit true] (.tup [.lst 1 (shL c T lo hi n a b u v mk) (fun k => [i (shV c T lo hi n a b u v true k)]), i (shE c T lo hi n a b u v mk)]) := by
  refine soundAt_finG (G := [(75, S_within), (97, S_low), (98, S_high), (76, S_lowest), (77, S_highest)]) (X := { R := [], H := [], C := [(64, C_tried)] }) (L := [LS_shh c T lo hi n a b u v mk]) (Gd.go true (Gd.go false Gd.rest)) (SoundG.cons within_ok (SoundG.cons low_ok (SoundG.cons high_ok (SoundG.cons lowest_ok (SoundG.cons highest_ok (SoundG.nil _)))))) (SoundX.ofC (SoundRL.nil _) (SoundHL.nil _) (SoundCL.cons tried_okC (SoundCL.nil _))) mixed Try.func41 (show Try.f41.body = some (bodyOf Try.f41) by kernel_rfl) (one_loop (fun cj hcj => by
    have e : loopAt (bodyOf Try.f41) 0 = some (.loop B_shh) := by kernel_rfl
    rw [e] at hcj; cases hcj
    exact (shh_ls c T lo hi n a b u v mk pre1).N)) (t := (Tree.need [isRec 4 n fun k => [i (a k), i (b k), i (u k), i (v k)]] (Tree.need [decide (fltB c T lo hi n a b u v (bt (0 : Int) mk c) = (0 : Int)) = true] (Tree.need [((0 : Int) != (0 : Int)) = false] (Tree.need [AV.agg [iI c, iI T, iI lo, iI hi] = AV.agg [iI c, iI T, iI lo, iI hi], (AV.lst 4 n fun k => [iI (a k), iI (b k), iI (u k), iI (v k)]) = AV.lst 4 n fun k => [iI (a k), iI (b k), iI (u k), iI (v k)], mk = mk, AV.lit true = AV.lit true, AV.ptr 0 0 = AV.ptr 0 0, AV.x (Value.slice none 0 0) = AV.x (Value.slice none 0 0), (0 : Int) = (0 : Int), AV.roI [] 125 (fun k => siteF (↑(Int.toNat c) : Int) T lo hi (fwM (Int.toNat c) T lo hi n a b u v) k) 0 = AV.roI [] 125 (fun k => siteF (↑(Int.toNat c) : Int) T lo hi (fwM (Int.toNat c) T lo hi n a b u v) k) 0, (0 : Int) = (0 : Int), AV.ptr 18 0 = AV.ptr 18 0, AV.row 901 = AV.row 901, c = c, (0 : Int) = (↑(0 : Nat) : Int), 0 = 0, ∀ (i : Nat), i < 0 → [] = [Ytmdeoobmeokmeaa.i (shV c T lo hi n a b u v true i)], AV.fn (Fn.func 98) [] [] = AV.fn (Fn.func 98) [] [], c = c, T = T, lo = lo, hi = hi] (Tree.leaf (RV.tup [RV.lst 1 (Int.toNat c) fun k => [iI (shV c T lo hi n a b u v true k)], RV.x (Value.int IntKind.i64 (0 : Int))]))))))) (by kernel_rfl) ?_
  have he : shE c T lo hi n a b u v mk = 0 := pre0
  have hc := (tube_bd (flt_iff.1 pre1).1).1
  have hl : shL c T lo hi n a b u v mk = c.toNat := if_pos he
  rw [hl, he]
  
  simp only [Tree.sat, allP, fitP, fitL, valEq, inI64, true_and, and_true]
  (repeat' first | with_reducible apply And.intro | with_reducible intro _)
  all_goals first | exact True.intro | with_reducible rfl | assumption | omega | exact isRec4 _ _ _ _ _ | rfl | (simp [*]; done) | (rename_i hm; cases List.mem_singleton.1 hm; exact True.intro)

set_option maxRecDepth 100000 in
theorem Shows0h (c T lo hi : Int) (n : Nat) (a b u v : Nat → Int) (mk : Int) (pre0 : fltB c T lo hi n a b u v (bt 0 mk c) ≠ 0) : SoundAt Try.prog 41 [.agg [i c, i T, i lo, i hi], rds n a b u v, i mk, .lit true] (.tup [.lst 1 (shL c T lo hi n a b u v mk) (fun k => [i (shV c T lo hi n a b u v true k)]), i (shE c T lo hi n a b u v mk)]) := by
  refine soundAt_finG (G := [(75, S_within), (97, S_low), (98, S_high), (76, S_lowest), (77, S_highest)]) (X := { R := [], H := [], C := [(64, C_tried)] }) (L := []) (Gd.go false (Gd.go true Gd.rest)) (SoundG.cons within_ok (SoundG.cons low_ok (SoundG.cons high_ok (SoundG.cons lowest_ok (SoundG.cons highest_ok (SoundG.nil _)))))) (SoundX.ofC (SoundRL.nil _) (SoundHL.nil _) (SoundCL.cons tried_okC (SoundCL.nil _))) mixed Try.func41 (show Try.f41.body = some (bodyOf Try.f41) by kernel_rfl) noLoopsS (t := (Tree.need [isRec 4 n fun k => [i (a k), i (b k), i (u k), i (v k)]] (Tree.need [decide (fltB c T lo hi n a b u v (bt (0 : Int) mk c) = (0 : Int)) = false] (Tree.need [(fltB c T lo hi n a b u v (bt (0 : Int) mk c) != (0 : Int)) = true] (Tree.leaf (RV.tup [RV.x (Value.slice none 0 0), RV.x (Value.int IntKind.i64 (fltB c T lo hi n a b u v (bt (0 : Int) mk c)))])))))) (by kernel_rfl) ?_
  have he : shE c T lo hi n a b u v mk = fltB c T lo hi n a b u v (bt 0 mk c) := rfl
  have hl : shL c T lo hi n a b u v mk = 0 := if_neg pre0
  rw [hl, he]
  
  simp only [Tree.sat, allP, fitP, fitL, valEq, inI64, true_and, and_true]
  (repeat' first | with_reducible apply And.intro | with_reducible intro _)
  all_goals first | exact True.intro | with_reducible rfl | assumption | omega | exact isRec4 _ _ _ _ _ | rfl | (simp [*]; done) | (rename_i hm; cases List.mem_singleton.1 hm; exact True.intro)


theorem Shows_ath (c T lo hi : Int) (n : Nat) (a b u v : Nat → Int) (mk : Int) : SoundAt Try.prog 41 [.agg [i c, i T, i lo, i hi], rds n a b u v, i mk, .lit true] (.tup [.lst 1 (shL c T lo hi n a b u v mk) (fun k => [i (shV c T lo hi n a b u v true k)]), i (shE c T lo hi n a b u v mk)]) := by
  by_cases h : fltB c T lo hi n a b u v (bt 0 mk c) = 0
  · exact Shows1h c T lo hi n a b u v mk h (fltB_iff.1 h).1
  · exact Shows0h c T lo hi n a b u v mk h

set_option maxRecDepth 100000 in
theorem Shows1l (c T lo hi : Int) (n : Nat) (a b u v : Nat → Int) (mk : Int) (pre0 : fltB c T lo hi n a b u v (bt 0 mk c) = 0) (pre1 : flt c T lo hi n a b u v = 0) : SoundAt Try.prog 41 [.agg [i c, i T, i lo, i hi], rds n a b u v, i mk, .lit false] (.tup [.lst 1 (shL c T lo hi n a b u v mk) (fun k => [i (shV c T lo hi n a b u v false k)]), i (shE c T lo hi n a b u v mk)]) := by
  refine soundAt_finG (G := [(75, S_within), (97, S_low), (98, S_high), (76, S_lowest), (77, S_highest)]) (X := { R := [], H := [], C := [(64, C_tried)] }) (L := [LS_shl c T lo hi n a b u v mk]) (Gd.go true (Gd.go false Gd.rest)) (SoundG.cons within_ok (SoundG.cons low_ok (SoundG.cons high_ok (SoundG.cons lowest_ok (SoundG.cons highest_ok (SoundG.nil _)))))) (SoundX.ofC (SoundRL.nil _) (SoundHL.nil _) (SoundCL.cons tried_okC (SoundCL.nil _))) mixed Try.func41 (show Try.f41.body = some (bodyOf Try.f41) by kernel_rfl) (one_loop (fun cj hcj => by
    have e : loopAt (bodyOf Try.f41) 0 = some (.loop B_shl) := by kernel_rfl
    rw [e] at hcj; cases hcj
    exact (shl_ls c T lo hi n a b u v mk pre1).N)) (t := (Tree.need [isRec 4 n fun k => [i (a k), i (b k), i (u k), i (v k)]] (Tree.need [decide (fltB c T lo hi n a b u v (bt (0 : Int) mk c) = (0 : Int)) = true] (Tree.need [((0 : Int) != (0 : Int)) = false] (Tree.need [AV.agg [iI c, iI T, iI lo, iI hi] = AV.agg [iI c, iI T, iI lo, iI hi], (AV.lst 4 n fun k => [iI (a k), iI (b k), iI (u k), iI (v k)]) = AV.lst 4 n fun k => [iI (a k), iI (b k), iI (u k), iI (v k)], mk = mk, AV.lit false = AV.lit false, AV.ptr 0 0 = AV.ptr 0 0, AV.x (Value.slice none 0 0) = AV.x (Value.slice none 0 0), (0 : Int) = (0 : Int), AV.roI [] 125 (fun k => siteF (↑(Int.toNat c) : Int) T lo hi (fwM (Int.toNat c) T lo hi n a b u v) k) 0 = AV.roI [] 125 (fun k => siteF (↑(Int.toNat c) : Int) T lo hi (fwM (Int.toNat c) T lo hi n a b u v) k) 0, (0 : Int) = (0 : Int), AV.ptr 18 0 = AV.ptr 18 0, AV.row 901 = AV.row 901, c = c, (0 : Int) = (↑(0 : Nat) : Int), 0 = 0, ∀ (i : Nat), i < 0 → [] = [Ytmdeoobmeokmeaa.i (shV c T lo hi n a b u v false i)], AV.fn (Fn.func 97) [] [] = AV.fn (Fn.func 97) [] [], c = c, T = T, lo = lo, hi = hi] (Tree.leaf (RV.tup [RV.lst 1 (Int.toNat c) fun k => [iI (shV c T lo hi n a b u v false k)], RV.x (Value.int IntKind.i64 (0 : Int))]))))))) (by kernel_rfl) ?_
  have he : shE c T lo hi n a b u v mk = 0 := pre0
  have hc := (tube_bd (flt_iff.1 pre1).1).1
  have hl : shL c T lo hi n a b u v mk = c.toNat := if_pos he
  rw [hl, he]
  
  simp only [Tree.sat, allP, fitP, fitL, valEq, inI64, true_and, and_true]
  (repeat' first | with_reducible apply And.intro | with_reducible intro _)
  all_goals first | exact True.intro | with_reducible rfl | assumption | omega | exact isRec4 _ _ _ _ _ | rfl | (simp [*]; done) | (rename_i hm; cases List.mem_singleton.1 hm; exact True.intro)

set_option maxRecDepth 100000 in
theorem Shows0l (c T lo hi : Int) (n : Nat) (a b u v : Nat → Int) (mk : Int) (pre0 : fltB c T lo hi n a b u v (bt 0 mk c) ≠ 0) : SoundAt Try.prog 41 [.agg [i c, i T, i lo, i hi], rds n a b u v, i mk, .lit false] (.tup [.lst 1 (shL c T lo hi n a b u v mk) (fun k => [i (shV c T lo hi n a b u v false k)]), i (shE c T lo hi n a b u v mk)]) := by
  refine soundAt_finG (G := [(75, S_within), (97, S_low), (98, S_high), (76, S_lowest), (77, S_highest)]) (X := { R := [], H := [], C := [(64, C_tried)] }) (L := []) (Gd.go false (Gd.go true Gd.rest)) (SoundG.cons within_ok (SoundG.cons low_ok (SoundG.cons high_ok (SoundG.cons lowest_ok (SoundG.cons highest_ok (SoundG.nil _)))))) (SoundX.ofC (SoundRL.nil _) (SoundHL.nil _) (SoundCL.cons tried_okC (SoundCL.nil _))) mixed Try.func41 (show Try.f41.body = some (bodyOf Try.f41) by kernel_rfl) noLoopsS (t := (Tree.need [isRec 4 n fun k => [i (a k), i (b k), i (u k), i (v k)]] (Tree.need [decide (fltB c T lo hi n a b u v (bt (0 : Int) mk c) = (0 : Int)) = false] (Tree.need [(fltB c T lo hi n a b u v (bt (0 : Int) mk c) != (0 : Int)) = true] (Tree.leaf (RV.tup [RV.x (Value.slice none 0 0), RV.x (Value.int IntKind.i64 (fltB c T lo hi n a b u v (bt (0 : Int) mk c)))])))))) (by kernel_rfl) ?_
  have he : shE c T lo hi n a b u v mk = fltB c T lo hi n a b u v (bt 0 mk c) := rfl
  have hl : shL c T lo hi n a b u v mk = 0 := if_neg pre0
  rw [hl, he]
  
  simp only [Tree.sat, allP, fitP, fitL, valEq, inI64, true_and, and_true]
  (repeat' first | with_reducible apply And.intro | with_reducible intro _)
  all_goals first | exact True.intro | with_reducible rfl | assumption | omega | exact isRec4 _ _ _ _ _ | rfl | (simp [*]; done) | (rename_i hm; cases List.mem_singleton.1 hm; exact True.intro)


theorem Shows_atl (c T lo hi : Int) (n : Nat) (a b u v : Nat → Int) (mk : Int) : SoundAt Try.prog 41 [.agg [i c, i T, i lo, i hi], rds n a b u v, i mk, .lit false] (.tup [.lst 1 (shL c T lo hi n a b u v mk) (fun k => [i (shV c T lo hi n a b u v false k)]), i (shE c T lo hi n a b u v mk)]) := by
  by_cases h : fltB c T lo hi n a b u v (bt 0 mk c) = 0
  · exact Shows1l c T lo hi n a b u v mk h (fltB_iff.1 h).1
  · exact Shows0l c T lo hi n a b u v mk h


theorem RepL.lit1 {e : Env} {w : World} {r : Bool} : ∀ {l : List AV} {vs : List Value}, RepL e w (l ++ [.x (.bool r)]) vs → RepL e w (l ++ [.lit r]) vs
  | [], vs, h => by
    obtain ⟨v, vs', rfl, hv, hvs⟩ := h.cons_inv
    cases hv
    exact RepL.cons (.lit _) hvs
  | a :: l, vs, h => by
    obtain ⟨v, vs', rfl, hv, hvs⟩ := h.cons_inv
    exact RepL.cons hv (RepL.lit1 hvs)
theorem SoundAt.lit1 {P : Program} {f : FuncId} {l : List AV} {r : Bool} {res : AV} (h : SoundAt P f (l ++ [.lit r]) res) : SoundAt P f (l ++ [.x (.bool r)]) res := h.args (fun _ _ _ r => RepL.lit1 r) (fun hi a ha => by
  rcases List.mem_append.1 ha with h1 | h1
  · exact hi a (List.mem_append_left _ h1)
  · cases List.mem_singleton.1 h1
    exact .lit _)
theorem Shows_at (c T lo hi : Int) (n : Nat) (a b u v : Nat → Int) (mk : Int) (r : Bool) : SoundAt Try.prog 41 [.agg [i c, i T, i lo, i hi], rds n a b u v, i mk, bl r] (.tup [.lst 1 (shL c T lo hi n a b u v mk) (fun k => [i (shV c T lo hi n a b u v r k)]), i (shE c T lo hi n a b u v mk)]) := by
  cases r with
  | true => exact SoundAt.lit1 (l := [.agg [i c, i T, i lo, i hi], rds n a b u v, i mk]) (Shows_ath c T lo hi n a b u v mk)
  | false => exact SoundAt.lit1 (l := [.agg [i c, i T, i lo, i hi], rds n a b u v, i mk]) (Shows_atl c T lo hi n a b u v mk)

def S_Shows : Sx.Spec := fun l => match l with
  | [.agg [.x (.int .i64 c), .x (.int .i64 T), .x (.int .i64 lo), .x (.int .i64 hi)], .lst 4 n f, .x (.int .i64 mk), .x (.bool r)] => some ([isRec 4 n f], .tup [.lst 1 (shL c T lo hi n (col 0 f) (col 1 f) (col 2 f) (col 3 f) mk) (fun k => [i (shV c T lo hi n (col 0 f) (col 1 f) (col 2 f) (col 3 f) r k)]), i (shE c T lo hi n (col 0 f) (col 1 f) (col 2 f) (col 3 f) mk)])
  | [.agg [.x (.int .i64 c), .x (.int .i64 T), .x (.int .i64 lo), .x (.int .i64 hi)], .lst 4 n f, .x (.int .i64 mk), .lit true] => some ([isRec 4 n f], .tup [.lst 1 (shL c T lo hi n (col 0 f) (col 1 f) (col 2 f) (col 3 f) mk) (fun k => [i (shV c T lo hi n (col 0 f) (col 1 f) (col 2 f) (col 3 f) true k)]), i (shE c T lo hi n (col 0 f) (col 1 f) (col 2 f) (col 3 f) mk)])
  | [.agg [.x (.int .i64 c), .x (.int .i64 T), .x (.int .i64 lo), .x (.int .i64 hi)], .lst 4 n f, .x (.int .i64 mk), .lit false] => some ([isRec 4 n f], .tup [.lst 1 (shL c T lo hi n (col 0 f) (col 1 f) (col 2 f) (col 3 f) mk) (fun k => [i (shV c T lo hi n (col 0 f) (col 1 f) (col 2 f) (col 3 f) false k)]), i (shE c T lo hi n (col 0 f) (col 1 f) (col 2 f) (col 3 f) mk)])
  | _ => none

theorem Shows_ok : SoundSpec Try.prog 41 S_Shows := by
  refine ⟨⟨_, Try.func41, by kernel_rfl, by kernel_rfl⟩, ?_⟩
  intro avs ns res h hn
  unfold S_Shows at h
  split at h
  · rename_i c T lo hi n f mk r
    cases h
    have hr0 : isRec 4 n f := hn _ (by simp)
    exact (Shows_at c T lo hi n (col 0 f) (col 1 f) (col 2 f) (col 3 f) mk r).same (.cons (.refl _) (.cons (.lst 4 n _ _ hr0) (.cons (.refl _) (.cons (.refl _) .nil))))
  · rename_i c T lo hi n f mk
    cases h
    have hr0 : isRec 4 n f := hn _ (by simp)
    exact (Shows_ath c T lo hi n (col 0 f) (col 1 f) (col 2 f) (col 3 f) mk).same (.cons (.refl _) (.cons (.lst 4 n _ _ hr0) (.cons (.refl _) (.cons (.refl _) .nil))))
  · rename_i c T lo hi n f mk
    cases h
    have hr0 : isRec 4 n f := hn _ (by simp)
    exact (Shows_atl c T lo hi n (col 0 f) (col 1 f) (col 2 f) (col 3 f) mk).same (.cons (.refl _) (.cons (.lst 4 n _ _ hr0) (.cons (.refl _) (.cons (.refl _) .nil))))
  · cases h

end Go.Proofs.Ytmdeoobmeokmeaa
/- Contracts of functions of the program, by the engine Sx: what each call comes to. Printed by a program of this repo (sxgen.py). -/
set_option linter.unusedSimpArgs false
set_option linter.unusedVariables false
namespace Go.Proofs.Ytmdeoobmeokmeaa
open Go Go.Sx Go.RowKit

end Go.Proofs.Ytmdeoobmeokmeaa
/- Contracts of functions of the program, by the engine Sx: what each call comes to. Printed by a program of this repo (sxgen.py). -/
set_option linter.unusedSimpArgs false
set_option linter.unusedVariables false
namespace Go.Proofs.Ytmdeoobmeokmeaa
open Go Go.Sx Go.RowKit

end Go.Proofs.Ytmdeoobmeokmeaa
/- Contracts of functions of the program, by the engine Sx: what each call comes to. Printed by a program of this repo (sxgen.py). -/
set_option linter.unusedSimpArgs false
set_option linter.unusedVariables false
namespace Go.Proofs.Ytmdeoobmeokmeaa
open Go Go.Sx Go.RowKit

theorem step_lo {lo : Int} {h : Nat → Int} {c : Nat} (hs : ∀ k, k < c → lo ≤ h (k + 1) - h k) : ∀ k, k ≤ c → h 0 + k * lo ≤ h k
  | 0, _ => by simp
  | k + 1, hk => by
    have ih := step_lo hs k (by omega)
    have h1 := hs k (by omega)
    have e : ((k + 1 : Nat) : Int) * lo = k * lo + lo := by rw [Int.natCast_add, Int.add_mul]; simp
    rw [e]
    omega
theorem step_hi {hi : Int} {h : Nat → Int} {c : Nat} (hs : ∀ k, k < c → h (k + 1) - h k ≤ hi) : ∀ k, k ≤ c → h k ≤ h 0 + k * hi
  | 0, _ => by simp
  | k + 1, hk => by
    have ih := step_hi hs k (by omega)
    have h1 := hs k (by omega)
    have e : ((k + 1 : Nat) : Int) * hi = k * hi + hi := by rw [Int.natCast_add, Int.add_mul]; simp
    rw [e]
    omega
theorem step_end {lo hi : Int} {h : Nat → Int} {c : Nat} (hs : ∀ k, k < c → lo ≤ h (k + 1) - h k ∧ h (k + 1) - h k ≤ hi) (k : Nat) (hk : k ≤ c) : h k + ((c : Int) - k) * lo ≤ h c ∧ h c ≤ h k + ((c : Int) - k) * hi := by
  have h1 := step_lo (lo := lo) (h := fun j => h (k + j)) (c := c - k) (fun j hj => (hs (k + j) (by omega)).1) (c - k) (Nat.le_refl _)
  have h2 := step_hi (hi := hi) (h := fun j => h (k + j)) (c := c - k) (fun j hj => (hs (k + j) (by omega)).2) (c - k) (Nat.le_refl _)
  have e1 : k + (c - k) = c := by omega
  have e2 : ((c - k : Nat) : Int) = c - k := by omega
  simp only [Nat.add_zero, e1, e2] at h1 h2
  exact ⟨h1, h2⟩
/-- Where no reading was made. -/
theorem free_tr {c : Nat} {T lo hi : Int} {a b u v : Nat → Int} (hl : 1 ≤ lo ∧ lo ≤ hi) (ht : c * lo ≤ T ∧ T ≤ c * hi) : Tr c T lo hi 0 a b u v (fun k => max (k * lo) (T - (c - k) * hi)) ∧ Tr c T lo hi 0 a b u v (fun k => min (k * hi) (T - (c - k) * lo)) := by
  have e0 : ∀ x : Int, ((0 : Nat) : Int) * x = 0 := fun x => by simp
  have e1 : ∀ x : Int, ((c : Int) - ((0 : Nat) : Int)) * x = c * x := fun x => by simp
  have e2 : ∀ x : Int, ((c : Int) - (c : Int)) * x = 0 := fun x => by simp
  have s1 : ∀ (k : Nat) (x : Int), ((k + 1 : Nat) : Int) * x = k * x + x := fun k x => by rw [Int.natCast_add, Int.add_mul]; simp
  have s2 : ∀ (k : Nat) (x : Int), ((c : Int) - ((k + 1 : Nat) : Int)) * x = (c - k) * x - x := fun k x => by
    rw [show (c : Int) - ((k + 1 : Nat) : Int) = (c - k) - 1 by omega, Int.sub_mul]
    simp
  refine ⟨⟨?_, ?_, fun k hk => ?_, fun j hj => absurd hj (Nat.not_lt_zero _)⟩, ⟨?_, ?_, fun k hk => ?_, fun j hj => absurd hj (Nat.not_lt_zero _)⟩⟩
  · show max (((0 : Nat) : Int) * lo) (T - (c - ((0 : Nat) : Int)) * hi) = 0
    rw [e0, e1]
    omega
  · show max ((c : Int) * lo) (T - (c - c) * hi) = T
    rw [e2]
    omega
  · show lo ≤ max (((k + 1 : Nat) : Int) * lo) (T - (c - ((k + 1 : Nat) : Int)) * hi) - max (k * lo) (T - (c - k) * hi) ∧ max (((k + 1 : Nat) : Int) * lo) (T - (c - ((k + 1 : Nat) : Int)) * hi) - max (k * lo) (T - (c - k) * hi) ≤ hi
    rw [s1, s2]
    omega
  · show min (((0 : Nat) : Int) * hi) (T - (c - ((0 : Nat) : Int)) * lo) = 0
    rw [e0, e1]
    omega
  · show min ((c : Int) * hi) (T - (c - c) * lo) = T
    rw [e2]
    omega
  · show lo ≤ min (((k + 1 : Nat) : Int) * hi) (T - (c - ((k + 1 : Nat) : Int)) * lo) - min (k * hi) (T - (c - k) * lo) ∧ min (((k + 1 : Nat) : Int) * hi) (T - (c - ((k + 1 : Nat) : Int)) * lo) - min (k * hi) (T - (c - k) * lo) ≤ hi
    rw [s1, s2]
    omega
theorem rdOk0 (c : Nat) (a b u v : Nat → Int) : rdOk c 0 a b u v := fun j hj => absurd hj (Nat.not_lt_zero _)
theorem free_bd {c : Nat} {T lo hi : Int} {a b u v : Nat → Int} (hb : 1 ≤ lo ∧ lo ≤ hi ∧ hi ≤ 200 ∧ 1 ≤ T ∧ T ≤ 2000) (ht : c * lo ≤ T ∧ T ≤ c * hi) : okR c T lo hi 0 a b u v = true ∧ ∀ k, k ≤ c → -(fwM c T lo hi 0 a b u v k 0) = max (k * lo) (T - (c - k) * hi) ∧ fwM c T lo hi 0 a b u v 0 k = min (k * hi) (T - (c - k) * lo) := by
  obtain ⟨t1, t2⟩ := free_tr (a := a) (b := b) (u := u) (v := v) ⟨hb.1, hb.2.1⟩ ht
  have hr := rdOk0 c a b u v
  have ok := ok_of_tr hb hr t1
  refine ⟨ok, fun k hk => ?_⟩
  have b1 := tr_bd hb hr t1 hk
  have b2 := tr_bd hb hr t2 hk
  have l := tr_lo hb hr ok
  have h := tr_hi hb hr ok
  have l1 := step_lo (lo := lo) (h := fun k => -(fwM c T lo hi 0 a b u v k 0)) (c := c) (fun j hj => (l.2.2.1 j hj).1) k hk
  have l2 := step_end (lo := lo) (hi := hi) (h := fun k => -(fwM c T lo hi 0 a b u v k 0)) (c := c) l.2.2.1 k hk
  have h1 := step_hi (hi := hi) (h := fun k => fwM c T lo hi 0 a b u v 0 k) (c := c) (fun j hj => (h.2.2.1 j hj).2) k hk
  have h2 := step_end (lo := lo) (hi := hi) (h := fun k => fwM c T lo hi 0 a b u v 0 k) (c := c) h.2.2.1 k hk
  have l3 := l.2.1
  have h3 := h.2.1
  have l4 := l.1
  have h4 := h.1
  dsimp only at *
  omega
theorem fltB_ok {c T lo hi : Int} {n : Nat} {a b u v : Nat → Int} (h1 : flt c T lo hi n a b u v = 0) (h2 : okB c T lo hi n a b u v = true) : eB c T lo hi n a b u v = 0 := fltB_iff.2 ⟨h1, rfl, h2⟩
theorem flt_ok {c T lo hi : Int} {n : Nat} {a b u v : Nat → Int} (h1 : tubeB c T lo hi = true) (hn : n ≤ 12) (h2 : allI (fun k => rdB c (a k) (b k) (u k) (v k)) n = true) : flt c T lo hi n a b u v = 0 := flt_iff.2 ⟨h1, hn, h2⟩
end Go.Proofs.Ytmdeoobmeokmeaa
/- Contracts of functions of the program, by the engine Sx: what each call comes to. Printed by a program of this repo (sxgen.py). -/
set_option linter.unusedSimpArgs false
set_option linter.unusedVariables false
namespace Go.Proofs.Ytmdeoobmeokmeaa
open Go Go.Sx Go.RowKit
theorem free_all {c T lo hi : Int} {a b u v : Nat → Int} (h : tubeB c T lo hi = true) : eB c T lo hi 0 a b u v = 0 ∧ lenB c T lo hi 0 a b u v = c.toNat + 1 ∧ ∀ k : Nat, (k : Int) ≤ c → -fwB c T lo hi 0 a b u v k 0 = max (k * lo) (T - (c - k) * hi) ∧ fwB c T lo hi 0 a b u v 0 k = min (k * hi) (T - (c - k) * lo) := by
  have hb := tube_bd h
  have e0 : ((c.toNat : Nat) : Int) = c := by omega
  have hf := free_bd (c := c.toNat) (T := T) (lo := lo) (hi := hi) (a := a) (b := b) (u := u) (v := v) hb.2.1 (by rw [e0]; exact hb.2.2)
  have he : eB c T lo hi 0 a b u v = 0 := fltB_ok (flt_ok h (Nat.zero_le _) (allI_iff.2 fun j hj => absurd hj (Nat.not_lt_zero _))) hf.1
  refine ⟨he, if_pos he, fun k hk => ?_⟩
  have h2 := hf.2 k (by omega)
  rw [e0] at h2
  exact h2

end Go.Proofs.Ytmdeoobmeokmeaa
/- Contracts of functions of the program, by the engine Sx: what each call comes to. Printed by a program of this repo (sxgen.py). -/
set_option linter.unusedSimpArgs false
set_option linter.unusedVariables false
namespace Go.Proofs.Ytmdeoobmeokmeaa
open Go Go.Sx Go.RowKit

end Go.Proofs.Ytmdeoobmeokmeaa
/- Contracts of functions of the program, by the engine Sx: what each call comes to. Printed by a program of this repo (sxgen.py). -/
set_option linter.unusedSimpArgs false
set_option linter.unusedVariables false
namespace Go.Proofs.Ytmdeoobmeokmeaa
open Go Go.Sx Go.RowKit

end Go.Proofs.Ytmdeoobmeokmeaa
/- Contracts of functions of the program, by the engine Sx: what each call comes to. Printed by a program of this repo (sxgen.py). -/
set_option linter.unusedSimpArgs false
set_option linter.unusedVariables false
namespace Go.Proofs.Ytmdeoobmeokmeaa
open Go Go.Sx Go.RowKit

end Go.Proofs.Ytmdeoobmeokmeaa
/- Contracts of functions of the program, by the engine Sx: what each call comes to. Printed by a program of this repo (sxgen.py). -/
set_option linter.unusedSimpArgs false
set_option linter.unusedVariables false
namespace Go.Proofs.Ytmdeoobmeokmeaa
open Go Go.Sx Go.RowKit

end Go.Proofs.Ytmdeoobmeokmeaa
/- Contracts of functions of the program, by the engine Sx: what each call comes to. Printed by a program of this repo (sxgen.py). -/
set_option linter.unusedSimpArgs false
set_option linter.unusedVariables false
namespace Go.Proofs.Ytmdeoobmeokmeaa
open Go Go.Sx Go.RowKit

end Go.Proofs.Ytmdeoobmeokmeaa
/- Contracts of functions of the program, by the engine Sx: what each call comes to. Printed by a program of this repo (sxgen.py). -/
set_option linter.unusedSimpArgs false
set_option linter.unusedVariables false
namespace Go.Proofs.Ytmdeoobmeokmeaa
open Go Go.Sx Go.RowKit
end Go.Proofs.Ytmdeoobmeokmeaa
/- Contracts of functions of the program, by the engine Sx: what each call comes to. Printed by a program of this repo (sxgen.py). -/
set_option linter.unusedSimpArgs false
set_option linter.unusedVariables false
namespace Go.Proofs.Ytmdeoobmeokmeaa
open Go Go.Sx Go.RowKit

abbrev z0 (z : Nat → Int) : Nat → Int := fun k => z (Int.toNat 0 + k)
end Go.Proofs.Ytmdeoobmeokmeaa
/- Contracts of functions of the program, by the engine Sx: what each call comes to. Printed by a program of this repo (sxgen.py). -/
set_option linter.unusedSimpArgs false
set_option linter.unusedVariables false
namespace Go.Proofs.Ytmdeoobmeokmeaa
open Go Go.Sx Go.RowKit

theorem nthJ_app (l m : List Int) : ∀ k, nthJ (l ++ m) k = if k < l.length then nthJ l k else nthJ m (k - l.length) := by
  induction l with
  | nil => intro k; simp
  | cons x l ih =>
    intro k
    cases k with
    | zero => simp [nthJ]
    | succ k =>
      show nthJ (l ++ m) k = _
      rw [ih]
      simp only [List.length_cons, Nat.add_lt_add_iff_right, Nat.add_sub_add_right]
      rfl
theorem nthJ_get : ∀ {l : List Int} {k : Nat} (h : k < l.length), nthJ l k = l[k]
  | x :: l, 0, h => rfl
  | x :: l, k + 1, h => nthJ_get (l := l) (k := k) (by simpa using h)
end Go.Proofs.Ytmdeoobmeokmeaa
/- Contracts of functions of the program, by the engine Sx: what each call comes to. Printed by a program of this repo (sxgen.py). -/
set_option linter.unusedSimpArgs false
set_option linter.unusedVariables false
namespace Go.Proofs.Ytmdeoobmeokmeaa
open Go Go.Sx Go.RowKit

/-- The height of a mark, by a list of volumes. -/
def hgt (w : List Int) (k : Nat) : Int := sumF (nthJ w) k
end Go.Proofs.Ytmdeoobmeokmeaa
/- Contracts of functions of the program, by the engine Sx: what each call comes to. Printed by a program of this repo (sxgen.py). -/
set_option linter.unusedSimpArgs false
set_option linter.unusedVariables false
namespace Go.Proofs.Ytmdeoobmeokmeaa
open Go Go.Sx Go.RowKit

end Go.Proofs.Ytmdeoobmeokmeaa
/- Contracts of functions of the program, by the engine Sx: what each call comes to. Printed by a program of this repo (sxgen.py). -/
set_option linter.unusedSimpArgs false
set_option linter.unusedVariables false
namespace Go.Proofs.Ytmdeoobmeokmeaa
open Go Go.Sx Go.RowKit

end Go.Proofs.Ytmdeoobmeokmeaa
/- Contracts of functions of the program, by the engine Sx: what each call comes to. Printed by a program of this repo (sxgen.py). -/
set_option linter.unusedSimpArgs false
set_option linter.unusedVariables false
namespace Go.Proofs.Ytmdeoobmeokmeaa
open Go Go.Sx Go.RowKit

end Go.Proofs.Ytmdeoobmeokmeaa
/- Contracts of functions of the program, by the engine Sx: what each call comes to. Printed by a program of this repo (sxgen.py). -/
set_option linter.unusedSimpArgs false
set_option linter.unusedVariables false
namespace Go.Proofs.Ytmdeoobmeokmeaa
open Go Go.Sx Go.RowKit

end Go.Proofs.Ytmdeoobmeokmeaa
/- Contracts of functions of the program, by the engine Sx: what each call comes to. Printed by a program of this repo (sxgen.py). -/
set_option linter.unusedSimpArgs false
set_option linter.unusedVariables false
namespace Go.Proofs.Ytmdeoobmeokmeaa
open Go Go.Sx Go.RowKit

/-- Is a list in order? Is it a rising one of numbers below n? -/
def srtB (m : Nat) (f : Nat → Int) : Bool := allI (fun j => !decide (f (j + 1) < f j)) (m - 1)
/-- Numbers of readings. -/
def inR (n m : Nat) (g : Nat → Int) : Prop := ∀ j, j < m → 0 ≤ g j ∧ g j < n
def subS (m : Nat) (g : Nat → Int) (m' : Nat) (g' : Nat → Int) : Prop := ∀ j, j < m → ∃ j', j' < m' ∧ g j = g' j'
def pkB (c T lo hi : Int) (n : Nat) (a b u v : Nat → Int) (m : Nat) (g : Nat → Int) : Bool := decide (flt c T lo hi n a b u v = 0) && srtB m g && allI (fun k => bt 0 (g k) ((n : Int) - 1)) m && clB c T lo hi m a b u v g && allI (fun k => !clB c T lo hi (m - 1) a b u v (butF k g)) m
theorem subS.trans {m : Nat} {g : Nat → Int} {m' : Nat} {g' : Nat → Int} {m'' : Nat} {g'' : Nat → Int} (h : subS m g m' g') (k : subS m' g' m'' g'') : subS m g m'' g'' := fun j hj => by
  obtain ⟨q, hq, he⟩ := h j hj
  obtain ⟨p, hp, hf⟩ := k q hq
  exact ⟨p, hp, he.trans hf⟩
theorem in_iff {n m : Nat} {g : Nat → Int} : allI (fun k => bt 0 (g k) ((n : Int) - 1)) m = true ↔ inR n m g := by
  rw [allI_iff]
  constructor
  · intro h j hj
    have := (bt_iff _ _ _).1 (h j hj)
    omega
  · intro h j hj
    have := h j hj
    exact (bt_iff _ _ _).2 (by omega)
theorem but_inR {n m q : Nat} {g : Nat → Int} (h : inR n m g) (hq : q < m) : inR n (m - 1) (butF q g) := but_in h hq
end Go.Proofs.Ytmdeoobmeokmeaa
