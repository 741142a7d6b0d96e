/- Texts of this claim, put together: BoW, BoX, BoY, BoZ, BpA, BpB, BpC, BpD, BpE, BpF, BpG, BpH, BqA, BqB, BqC, BqD, BqE, BqF, BqG -/
import Derived.Test.YtmdeoobmeokmeaaMk
/- Contracts of functions of the program, by the engine Sx: what each call comes to. Printed by a program of this repo (sxgen.py). -/
set_option linter.unusedSimpArgs false
set_option linter.unusedVariables false
namespace Go.Proofs.Ytmdeoobmeokmeaa
open Go Go.Sx Go.RowKit

theorem catF1 {k j : Nat} {a : Nat → Int} {x : Int} (h : j < k + 1) (hx : x = a k) : catF k (fun k => [i (a k)]) (chunk 1 [i x]) j = [i (a j)] := by
  have e : j - k = 0 := by omega
  show mergeL (decide (j < k)) [i (a j)] (chunk 1 [i x] (j - k)) = _
  rw [e]
  by_cases hj : j < k
  · rw [show decide (j < k) = true by simp [hj]]
    rfl
  · have hk : j = k := by omega
    rw [show decide (j < k) = false by simp [hj], hk, hx]
    rfl


/-- The volumes of a truth that is as high, or as low, as it can be. -/
def shV (c T lo hi : Int) (n : Nat) (a b u v : Nat → Int) (h : Bool) (k : Nat) : Int := if h then fwB c T lo hi n a b u v 0 (k + 1) - fwB c T lo hi n a b u v 0 k else -(fwB c T lo hi n a b u v (k + 1) 0) - -(fwB c T lo hi n a b u v k 0)
def shE (c T lo hi : Int) (n : Nat) (a b u v : Nat → Int) (mk : Int) : Int := fltB c T lo hi n a b u v (bt 0 mk c)
def shL (c T lo hi : Int) (n : Nat) (a b u v : Nat → Int) (mk : Int) : Nat := if shE c T lo hi n a b u v mk = 0 then c.toNat else 0

noncomputable def E_shh (c T lo hi : Int) (n : Nat) (a b u v : Nat → Int) (mk : Int) : St := (some { σ := [.agg [i c, i T, i lo, i hi], rds n a b u v, i mk, .lit true, .ptr 0 0, .top, .top, .top, .x (.slice none 0 0), i 0, siteB c T lo hi n a b u v, i 0, .ptr 18 0, .x (.slice none 0 0), .top, .top, .top, .top, .top, .top, .top, .top, .top, .top, .top, .top, .top, .top, .top, .top, .top, .top, i c, .top, .top, .top, .top, .top, .top, .top, .top, .top, .top, .top, .top, .top, .top, .top, .top, .top, .top, .top, .top], m := [(901, .row 3 1 0 (fun _ => [])), (18, .cells 113 [.fn (.func 98) [] []]), (0, .cells 34 [i c, i T, i lo, i hi])], nx := 902 } : Option St).getD { σ := [], m := [], nx := 0 }
noncomputable def B_shh : Code := loopBody (loopAt (bodyOf Try.f41) 0)
noncomputable def inv_shh (c T lo hi : Int) (n : Nat) (a b u v : Nat → Int) (mk : Int) (k : Nat) : St := { σ := ovrS [(13, .row 901), (33, i k)] (E_shh c T lo hi n a b u v mk).σ, m := [(901, .row 3 1 (k) (fun k => [i (shV c T lo hi n a b u v true k)])), (18, .cells 113 [.fn (.func 98) [] []]), (0, .cells 34 [i c, i T, i lo, i hi])], nx := (E_shh c T lo hi n a b u v mk).nx }
noncomputable def out_shh (c T lo hi : Int) (n : Nat) (a b u v : Nat → Int) (mk : Int) (k : Nat) : AEx → Option St := fun ex => match ex with
  | .exit 0 => some { σ := ovrS [(13, .row 901), (33, i c)] (E_shh c T lo hi n a b u v mk).σ, m := [(901, .row 3 1 (c.toNat) (fun k => [i (shV c T lo hi n a b u v true k)])), (18, .cells 113 [.fn (.func 98) [] []]), (0, .cells 34 [i c, i T, i lo, i hi])], nx := (E_shh c T lo hi n a b u v mk).nx }
  | _ => none
noncomputable def T_shh (c T lo hi : Int) (n : Nat) (a b u v : Nat → Int) (mk : Int) : CT := .leaf (.exit 0, ( out_shh c T lo hi n a b u v mk 0 (.exit 0)).getD (E_shh c T lo hi n a b u v mk))
noncomputable def LS_shh (c T lo hi : Int) (n : Nat) (a b u v : Nat → Int) (mk : Int) : LSpec := normSp [(.slot 13, 901, 3, 1)] (sumL (inv_shh c T lo hi n a b u v mk (0)) (T_shh c T lo hi n a b u v mk))
set_option maxRecDepth 100000 in
theorem shh_ls (c T lo hi : Int) (n : Nat) (a b u v : Nat → Int) (mk : Int) (pre0 : flt c T lo hi n a b u v = 0) : LSound Try.prog (.loop B_shh) (LS_shh c T lo hi n a b u v mk) := by
  refine loop_roundsX [(.slot 13, 901, 3, 1)] (E := { R := [], H := [] }) (G := [(97, S_low), (98, S_high)]) (L := []) (SoundG.cons low_ok (SoundG.cons high_ok (SoundG.nil _))) (SoundX.of (SoundRL.nil _) (SoundHL.nil _)) mixed noLoops (X := Nat) (inv_shh c T lo hi n a b u v mk) (fun k => k ≤ c.toNat) (fun k => c.toNat - k) (out_shh c T lo hi n a b u v mk) (x0 := 0) (by simp) ?_ ?_ ?_
  · rintro k
    kernel_rfl
  · rintro k y E h
    unfold out_shh at h
    split at h
    · cases h; kernel_rfl
    · cases h
  · rintro Q hQ k hx
    refine ⟨(k + 1), ?_⟩
    have e : roundX Try.prog [(97, S_low), (98, S_high)] { R := [], H := [] } [] [(.slot 13, 901, 3, 1)] B_shh (inv_shh c T lo hi n a b u v mk k) (inv_shh c T lo hi n a b u v mk ((k + 1))) (out_shh c T lo hi n a b u v mk k) = (Tree.branch (decide ((↑k : Int) < c)) (Tree.need [inI64 ((↑k : Int) + (1 : Int))] (Tree.need [(0 : Int) ≤ (↑k : Int) + (1 : Int) ∧ (↑k : Int) + (1 : Int) ≤ (10 : Int), (-1000000000000 : Int) ≤ siteF (↑(Int.toNat c) : Int) T lo hi (fwM (Int.toNat c) T lo hi n a b u v) (Int.toNat ((↑k : Int) + (1 : Int)) * 11 + 4) ∧ siteF (↑(Int.toNat c) : Int) T lo hi (fwM (Int.toNat c) T lo hi n a b u v) (Int.toNat ((↑k : Int) + (1 : Int)) * 11 + 4) ≤ (1000000000000 : Int)] (Tree.need [(0 : Int) ≤ (↑k : Int) ∧ (↑k : Int) ≤ (10 : Int), (-1000000000000 : Int) ≤ siteF (↑(Int.toNat c) : Int) T lo hi (fwM (Int.toNat c) T lo hi n a b u v) (k * 11 + 4) ∧ siteF (↑(Int.toNat c) : Int) T lo hi (fwM (Int.toNat c) T lo hi n a b u v) (k * 11 + 4) ≤ (1000000000000 : Int)] (Tree.need [inI64 (siteF (↑(Int.toNat c) : Int) T lo hi (fwM (Int.toNat c) T lo hi n a b u v) (Int.toNat ((↑k : Int) + (1 : Int)) + 4) - siteF (↑(Int.toNat c) : Int) T lo hi (fwM (Int.toNat c) T lo hi n a b u v) (k + 4))] (Tree.need [(k + 1) * 8 ≤ 140737488355328, ∀ (i : Nat), i < 1 → ∀ (a_2 : AV), a_2 ∈ chunk 1 [iI (siteF (↑(Int.toNat c) : Int) T lo hi (fwM (Int.toNat c) T lo hi n a b u v) (Int.toNat ((↑k : Int) + (1 : Int)) + 4) - siteF (↑(Int.toNat c) : Int) T lo hi (fwM (Int.toNat c) T lo hi n a b u v) (k + 4))] i → AV.one a_2 = true] (Tree.need [inI64 ((↑k : Int) + (1 : Int))] (Tree.need [AV.agg [iI c, iI T, iI lo, iI hi] = AV.agg [iI c, iI T, iI lo, iI hi], (AV.lst 4 n fun k => [iI (a k), iI (b k), iI (u k), iI (v k)]) = AV.lst 4 n fun k => [iI (a k), iI (b k), iI (u k), iI (v k)], mk = mk, AV.lit true = AV.lit true, AV.ptr 0 0 = AV.ptr 0 0, AV.x (Value.slice none 0 0) = AV.x (Value.slice none 0 0), (0 : Int) = (0 : Int), AV.roI [] 125 (fun k => siteF (↑(Int.toNat c) : Int) T lo hi (fwM (Int.toNat c) T lo hi n a b u v) k) 0 = AV.roI [] 125 (fun k => siteF (↑(Int.toNat c) : Int) T lo hi (fwM (Int.toNat c) T lo hi n a b u v) k) 0, (0 : Int) = (0 : Int), AV.ptr 18 0 = AV.ptr 18 0, AV.row 901 = AV.row 901, c = c, (↑k : Int) + (1 : Int) = (↑(k + 1) : Int), k + 1 = k + 1, ∀ (i : Nat), i < k + 1 → catF k (fun k => [Ytmdeoobmeokmeaa.i (shV c T lo hi n a b u v true k)]) (chunk 1 [iI (siteF (↑(Int.toNat c) : Int) T lo hi (fwM (Int.toNat c) T lo hi n a b u v) (Int.toNat ((↑k : Int) + (1 : Int)) + 4) - siteF (↑(Int.toNat c) : Int) T lo hi (fwM (Int.toNat c) T lo hi n a b u v) (k + 4))]) i = [Ytmdeoobmeokmeaa.i (shV c T lo hi n a b u v true i)], AV.fn (Fn.func 98) [] [] = AV.fn (Fn.func 98) [] [], c = c, T = T, lo = lo, hi = hi] (Tree.leaf AEx.normal)))))))) (Tree.need [AV.agg [iI c, iI T, iI lo, iI hi] = AV.agg [iI c, iI T, iI lo, iI hi], (AV.lst 4 n fun k => [iI (a k), iI (b k), iI (u k), iI (v k)]) = AV.lst 4 n fun k => [iI (a k), iI (b k), iI (u k), iI (v k)], mk = mk, AV.lit true = AV.lit true, AV.ptr 0 0 = AV.ptr 0 0, AV.x (Value.slice none 0 0) = AV.x (Value.slice none 0 0), (0 : Int) = (0 : Int), AV.roI [] 125 (fun k => siteF (↑(Int.toNat c) : Int) T lo hi (fwM (Int.toNat c) T lo hi n a b u v) k) 0 = AV.roI [] 125 (fun k => siteF (↑(Int.toNat c) : Int) T lo hi (fwM (Int.toNat c) T lo hi n a b u v) k) 0, (0 : Int) = (0 : Int), AV.ptr 18 0 = AV.ptr 18 0, AV.row 901 = AV.row 901, c = c, (↑k : Int) = c, k = Int.toNat c, ∀ (i : Nat), i < Int.toNat c → [Ytmdeoobmeokmeaa.i (shV c T lo hi n a b u v true i)] = [Ytmdeoobmeokmeaa.i (shV c T lo hi n a b u v true i)], AV.fn (Fn.func 98) [] [] = AV.fn (Fn.func 98) [] [], c = c, T = T, lo = lo, hi = hi] (Tree.leaf (AEx.exit 0)))) := by kernel_rfl
    rw [e]
    simp only [T_shh, out_shh, Tree.sat, Option.getD_some] at hQ
    have hf := flt_iff.1 pre0
    have hb := tube_bd hf.1
    have eq : ∀ k, siteF c.toNat T lo hi (fwM c.toNat T lo hi n a b u v) k = sfB c T lo hi n a b u v k := fun _ => rfl
    have e1 : ((k : Int) + 1).toNat = k + 1 := by omega
    simp only [Tree.sat, allP, fitP, fitL, valEq, inI64, true_and, and_true, decide_eq_true_eq, decide_eq_false_iff_not, Int.natCast_zero, Int.toNat_natCast, out_shh, eq, e1]
    clear e
    refine ⟨fun h => ?_, fun h => ?_⟩
    · have h2 := fwM_bd pre0 k 0
      have h3 := fwM_bd pre0 0 k
      have h4 := fwM_bd pre0 (k + 1) 0
      have h5 := fwM_bd pre0 0 (k + 1)
      have g2 := sfB_low c T lo hi n a b u v k
      have g3 := sfB_high c T lo hi n a b u v (k := k) (by omega)
      have g4 := sfB_low c T lo hi n a b u v (k + 1)
      have g5 := sfB_high c T lo hi n a b u v (k := k + 1) (by omega)
      simp only [g2, g3, g4, g5]
      (repeat' first | with_reducible apply And.intro | with_reducible intro _)
      all_goals first | exact True.intro | omega | with_reducible rfl | exact one_of (by assumption) (by simp [AV.one, Value.oneCell']) | exact catF1 (by assumption) rfl | rfl
    · obtain rfl : k = c.toNat := by omega
      (repeat' first | with_reducible apply And.intro | with_reducible intro _)
      all_goals first | exact True.intro | omega | with_reducible rfl | (rename_i E hE; cases hE; exact hQ) | rfl

noncomputable def E_shl (c T lo hi : Int) (n : Nat) (a b u v : Nat → Int) (mk : Int) : St := (some { σ := [.agg [i c, i T, i lo, i hi], rds n a b u v, i mk, .lit false, .ptr 0 0, .top, .top, .top, .x (.slice none 0 0), i 0, siteB c T lo hi n a b u v, i 0, .ptr 18 0, .x (.slice none 0 0), .top, .top, .top, .top, .top, .top, .top, .top, .top, .top, .top, .top, .top, .top, .top, .top, .top, .top, i c, .top, .top, .top, .top, .top, .top, .top, .top, .top, .top, .top, .top, .top, .top, .top, .top, .top, .top, .top, .top], m := [(901, .row 3 1 0 (fun _ => [])), (18, .cells 113 [.fn (.func 97) [] []]), (0, .cells 34 [i c, i T, i lo, i hi])], nx := 902 } : Option St).getD { σ := [], m := [], nx := 0 }
noncomputable def B_shl : Code := loopBody (loopAt (bodyOf Try.f41) 0)
noncomputable def inv_shl (c T lo hi : Int) (n : Nat) (a b u v : Nat → Int) (mk : Int) (k : Nat) : St := { σ := ovrS [(13, .row 901), (33, i k)] (E_shl c T lo hi n a b u v mk).σ, m := [(901, .row 3 1 (k) (fun k => [i (shV c T lo hi n a b u v false k)])), (18, .cells 113 [.fn (.func 97) [] []]), (0, .cells 34 [i c, i T, i lo, i hi])], nx := (E_shl c T lo hi n a b u v mk).nx }
noncomputable def out_shl (c T lo hi : Int) (n : Nat) (a b u v : Nat → Int) (mk : Int) (k : Nat) : AEx → Option St := fun ex => match ex with
  | .exit 0 => some { σ := ovrS [(13, .row 901), (33, i c)] (E_shl c T lo hi n a b u v mk).σ, m := [(901, .row 3 1 (c.toNat) (fun k => [i (shV c T lo hi n a b u v false k)])), (18, .cells 113 [.fn (.func 97) [] []]), (0, .cells 34 [i c, i T, i lo, i hi])], nx := (E_shl c T lo hi n a b u v mk).nx }
  | _ => none
noncomputable def T_shl (c T lo hi : Int) (n : Nat) (a b u v : Nat → Int) (mk : Int) : CT := .leaf (.exit 0, ( out_shl c T lo hi n a b u v mk 0 (.exit 0)).getD (E_shl c T lo hi n a b u v mk))
noncomputable def LS_shl (c T lo hi : Int) (n : Nat) (a b u v : Nat → Int) (mk : Int) : LSpec := normSp [(.slot 13, 901, 3, 1)] (sumL (inv_shl c T lo hi n a b u v mk (0)) (T_shl c T lo hi n a b u v mk))
set_option maxRecDepth 100000 in
theorem shl_ls (c T lo hi : Int) (n : Nat) (a b u v : Nat → Int) (mk : Int) (pre0 : flt c T lo hi n a b u v = 0) : LSound Try.prog (.loop B_shl) (LS_shl c T lo hi n a b u v mk) := by
  refine loop_roundsX [(.slot 13, 901, 3, 1)] (E := { R := [], H := [] }) (G := [(97, S_low), (98, S_high)]) (L := []) (SoundG.cons low_ok (SoundG.cons high_ok (SoundG.nil _))) (SoundX.of (SoundRL.nil _) (SoundHL.nil _)) mixed noLoops (X := Nat) (inv_shl c T lo hi n a b u v mk) (fun k => k ≤ c.toNat) (fun k => c.toNat - k) (out_shl c T lo hi n a b u v mk) (x0 := 0) (by simp) ?_ ?_ ?_
  · rintro k
    kernel_rfl
  · rintro k y E h
    unfold out_shl at h
    split at h
    · cases h; kernel_rfl
    · cases h
  · rintro Q hQ k hx
    refine ⟨(k + 1), ?_⟩
    have e : roundX Try.prog [(97, S_low), (98, S_high)] { R := [], H := [] } [] [(.slot 13, 901, 3, 1)] B_shl (inv_shl c T lo hi n a b u v mk k) (inv_shl c T lo hi n a b u v mk ((k + 1))) (out_shl c T lo hi n a b u v mk k) = (Tree.branch (decide ((↑k : Int) < c)) (Tree.need [inI64 ((↑k : Int) + (1 : Int))] (Tree.need [(0 : Int) ≤ (↑k : Int) + (1 : Int) ∧ (↑k : Int) + (1 : Int) ≤ (10 : Int), (-1000000000000 : Int) ≤ siteF (↑(Int.toNat c) : Int) T lo hi (fwM (Int.toNat c) T lo hi n a b u v) (Int.toNat ((↑k : Int) + (1 : Int)) * 11 + 4) ∧ siteF (↑(Int.toNat c) : Int) T lo hi (fwM (Int.toNat c) T lo hi n a b u v) (Int.toNat ((↑k : Int) + (1 : Int)) * 11 + 4) ≤ (1000000000000 : Int)] (Tree.need [(0 : Int) ≤ (↑k : Int) ∧ (↑k : Int) ≤ (10 : Int), (-1000000000000 : Int) ≤ siteF (↑(Int.toNat c) : Int) T lo hi (fwM (Int.toNat c) T lo hi n a b u v) (k * 11 + 4) ∧ siteF (↑(Int.toNat c) : Int) T lo hi (fwM (Int.toNat c) T lo hi n a b u v) (k * 11 + 4) ≤ (1000000000000 : Int)] (Tree.need [inI64 (-siteF (↑(Int.toNat c) : Int) T lo hi (fwM (Int.toNat c) T lo hi n a b u v) (Int.toNat ((↑k : Int) + (1 : Int)) * 11 + 4) - -siteF (↑(Int.toNat c) : Int) T lo hi (fwM (Int.toNat c) T lo hi n a b u v) (k * 11 + 4))] (Tree.need [(k + 1) * 8 ≤ 140737488355328, ∀ (i : Nat), i < 1 → ∀ (a_2 : AV), a_2 ∈ chunk 1 [iI (-siteF (↑(Int.toNat c) : Int) T lo hi (fwM (Int.toNat c) T lo hi n a b u v) (Int.toNat ((↑k : Int) + (1 : Int)) * 11 + 4) - -siteF (↑(Int.toNat c) : Int) T lo hi (fwM (Int.toNat c) T lo hi n a b u v) (k * 11 + 4))] i → AV.one a_2 = true] (Tree.need [inI64 ((↑k : Int) + (1 : Int))] (Tree.need [AV.agg [iI c, iI T, iI lo, iI hi] = AV.agg [iI c, iI T, iI lo, iI hi], (AV.lst 4 n fun k => [iI (a k), iI (b k), iI (u k), iI (v k)]) = AV.lst 4 n fun k => [iI (a k), iI (b k), iI (u k), iI (v k)], mk = mk, AV.lit false = AV.lit false, AV.ptr 0 0 = AV.ptr 0 0, AV.x (Value.slice none 0 0) = AV.x (Value.slice none 0 0), (0 : Int) = (0 : Int), AV.roI [] 125 (fun k => siteF (↑(Int.toNat c) : Int) T lo hi (fwM (Int.toNat c) T lo hi n a b u v) k) 0 = AV.roI [] 125 (fun k => siteF (↑(Int.toNat c) : Int) T lo hi (fwM (Int.toNat c) T lo hi n a b u v) k) 0, (0 : Int) = (0 : Int), AV.ptr 18 0 = AV.ptr 18 0, AV.row 901 = AV.row 901, c = c, (↑k : Int) + (1 : Int) = (↑(k + 1) : Int), k + 1 = k + 1, ∀ (i : Nat), i < k + 1 → catF k (fun k => [Ytmdeoobmeokmeaa.i (shV c T lo hi n a b u v false k)]) (chunk 1 [iI (-siteF (↑(Int.toNat c) : Int) T lo hi (fwM (Int.toNat c) T lo hi n a b u v) (Int.toNat ((↑k : Int) + (1 : Int)) * 11 + 4) - -siteF (↑(Int.toNat c) : Int) T lo hi (fwM (Int.toNat c) T lo hi n a b u v) (k * 11 + 4))]) i = [Ytmdeoobmeokmeaa.i (shV c T lo hi n a b u v false i)], AV.fn (Fn.func 97) [] [] = AV.fn (Fn.func 97) [] [], c = c, T = T, lo = lo, hi = hi] (Tree.leaf AEx.normal)))))))) (Tree.need [AV.agg [iI c, iI T, iI lo, iI hi] = AV.agg [iI c, iI T, iI lo, iI hi], (AV.lst 4 n fun k => [iI (a k), iI (b k), iI (u k), iI (v k)]) = AV.lst 4 n fun k => [iI (a k), iI (b k), iI (u k), iI (v k)], mk = mk, AV.lit false = AV.lit false, AV.ptr 0 0 = AV.ptr 0 0, AV.x (Value.slice none 0 0) = AV.x (Value.slice none 0 0), (0 : Int) = (0 : Int), AV.roI [] 125 (fun k => siteF (↑(Int.toNat c) : Int) T lo hi (fwM (Int.toNat c) T lo hi n a b u v) k) 0 = AV.roI [] 125 (fun k => siteF (↑(Int.toNat c) : Int) T lo hi (fwM (Int.toNat c) T lo hi n a b u v) k) 0, (0 : Int) = (0 : Int), AV.ptr 18 0 = AV.ptr 18 0, AV.row 901 = AV.row 901, c = c, (↑k : Int) = c, k = Int.toNat c, ∀ (i : Nat), i < Int.toNat c → [Ytmdeoobmeokmeaa.i (shV c T lo hi n a b u v false i)] = [Ytmdeoobmeokmeaa.i (shV c T lo hi n a b u v false i)], AV.fn (Fn.func 97) [] [] = AV.fn (Fn.func 97) [] [], c = c, T = T, lo = lo, hi = hi] (Tree.leaf (AEx.exit 0)))) := by kernel_rfl
    rw [e]
    simp only [T_shl, out_shl, Tree.sat, Option.getD_some] at hQ
    have hf := flt_iff.1 pre0
    have hb := tube_bd hf.1
    have eq : ∀ k, siteF c.toNat T lo hi (fwM c.toNat T lo hi n a b u v) k = sfB c T lo hi n a b u v k := fun _ => rfl
    have e1 : ((k : Int) + 1).toNat = k + 1 := by omega
    simp only [Tree.sat, allP, fitP, fitL, valEq, inI64, true_and, and_true, decide_eq_true_eq, decide_eq_false_iff_not, Int.natCast_zero, Int.toNat_natCast, out_shl, eq, e1]
    clear e
    refine ⟨fun h => ?_, fun h => ?_⟩
    · have h2 := fwM_bd pre0 k 0
      have h3 := fwM_bd pre0 0 k
      have h4 := fwM_bd pre0 (k + 1) 0
      have h5 := fwM_bd pre0 0 (k + 1)
      have g2 := sfB_low c T lo hi n a b u v k
      have g3 := sfB_high c T lo hi n a b u v (k := k) (by omega)
      have g4 := sfB_low c T lo hi n a b u v (k + 1)
      have g5 := sfB_high c T lo hi n a b u v (k := k + 1) (by omega)
      simp only [g2, g3, g4, g5]
      (repeat' first | with_reducible apply And.intro | with_reducible intro _)
      all_goals first | exact True.intro | omega | with_reducible rfl | exact one_of (by assumption) (by simp [AV.one, Value.oneCell']) | exact catF1 (by assumption) rfl | rfl
    · obtain rfl : k = c.toNat := by omega
      (repeat' first | with_reducible apply And.intro | with_reducible intro _)
      all_goals first | exact True.intro | omega | with_reducible rfl | (rename_i E hE; cases hE; exact hQ) | rfl

set_option maxRecDepth 100000 in
theorem Shows1h (c T lo hi : Int) (n : Nat) (a b u v : Nat → Int) (mk : Int) (pre0 : fltB c T lo hi n a b u v (bt 0 mk c) = 0) (pre1 : flt c T lo hi n a b u v = 0) : SoundAt Try.prog 41 [.agg [i c, i T, i lo, i hi], rds n a b u v, i mk, .lit true] (.tup [.lst 1 (shL c T lo hi n a b u v mk) (fun k => [i (shV c T lo hi n a b u v true k)]), i (shE c T lo hi n a b u v mk)]) := by
  refine soundAt_finG (G := [(75, S_within), (97, S_low), (98, S_high), (76, S_lowest), (77, S_highest)]) (X := { R := [], H := [], C := [(64, C_tried)] }) (L := [LS_shh c T lo hi n a b u v mk]) (Gd.go true (Gd.go false Gd.rest)) (SoundG.cons within_ok (SoundG.cons low_ok (SoundG.cons high_ok (SoundG.cons lowest_ok (SoundG.cons highest_ok (SoundG.nil _)))))) (SoundX.ofC (SoundRL.nil _) (SoundHL.nil _) (SoundCL.cons tried_okC (SoundCL.nil _))) mixed Try.func41 (show Try.f41.body = some (bodyOf Try.f41) by kernel_rfl) (one_loop (fun cj hcj => by
    have e : loopAt (bodyOf Try.f41) 0 = some (.loop B_shh) := by kernel_rfl
    rw [e] at hcj; cases hcj
    exact (shh_ls c T lo hi n a b u v mk pre1).N)) (t := (Tree.need [isRec 4 n fun k => [i (a k), i (b k), i (u k), i (v k)]] (Tree.need [decide (fltB c T lo hi n a b u v (bt (0 : Int) mk c) = (0 : Int)) = true] (Tree.need [((0 : Int) != (0 : Int)) = false] (Tree.need [AV.agg [iI c, iI T, iI lo, iI hi] = AV.agg [iI c, iI T, iI lo, iI hi], (AV.lst 4 n fun k => [iI (a k), iI (b k), iI (u k), iI (v k)]) = AV.lst 4 n fun k => [iI (a k), iI (b k), iI (u k), iI (v k)], mk = mk, AV.lit true = AV.lit true, AV.ptr 0 0 = AV.ptr 0 0, AV.x (Value.slice none 0 0) = AV.x (Value.slice none 0 0), (0 : Int) = (0 : Int), AV.roI [] 125 (fun k => siteF (↑(Int.toNat c) : Int) T lo hi (fwM (Int.toNat c) T lo hi n a b u v) k) 0 = AV.roI [] 125 (fun k => siteF (↑(Int.toNat c) : Int) T lo hi (fwM (Int.toNat c) T lo hi n a b u v) k) 0, (0 : Int) = (0 : Int), AV.ptr 18 0 = AV.ptr 18 0, AV.row 901 = AV.row 901, c = c, (0 : Int) = (↑(0 : Nat) : Int), 0 = 0, ∀ (i : Nat), i < 0 → [] = [Ytmdeoobmeokmeaa.i (shV c T lo hi n a b u v true i)], AV.fn (Fn.func 98) [] [] = AV.fn (Fn.func 98) [] [], c = c, T = T, lo = lo, hi = hi] (Tree.leaf (RV.tup [RV.lst 1 (Int.toNat c) fun k => [iI (shV c T lo hi n a b u v true k)], RV.x (Value.int IntKind.i64 (0 : Int))]))))))) (by kernel_rfl) ?_
  have he : shE c T lo hi n a b u v mk = 0 := pre0
  have hc := (tube_bd (flt_iff.1 pre1).1).1
  have hl : shL c T lo hi n a b u v mk = c.toNat := if_pos he
  rw [hl, he]
  
  simp only [Tree.sat, allP, fitP, fitL, valEq, inI64, true_and, and_true]
  (repeat' first | with_reducible apply And.intro | with_reducible intro _)
  all_goals first | exact True.intro | with_reducible rfl | assumption | omega | exact isRec4 _ _ _ _ _ | rfl | (simp [*]; done) | (rename_i hm; cases List.mem_singleton.1 hm; exact True.intro)

set_option maxRecDepth 100000 in
theorem Shows0h (c T lo hi : Int) (n : Nat) (a b u v : Nat → Int) (mk : Int) (pre0 : fltB c T lo hi n a b u v (bt 0 mk c) ≠ 0) : SoundAt Try.prog 41 [.agg [i c, i T, i lo, i hi], rds n a b u v, i mk, .lit true] (.tup [.lst 1 (shL c T lo hi n a b u v mk) (fun k => [i (shV c T lo hi n a b u v true k)]), i (shE c T lo hi n a b u v mk)]) := by
  refine soundAt_finG (G := [(75, S_within), (97, S_low), (98, S_high), (76, S_lowest), (77, S_highest)]) (X := { R := [], H := [], C := [(64, C_tried)] }) (L := []) (Gd.go false (Gd.go true Gd.rest)) (SoundG.cons within_ok (SoundG.cons low_ok (SoundG.cons high_ok (SoundG.cons lowest_ok (SoundG.cons highest_ok (SoundG.nil _)))))) (SoundX.ofC (SoundRL.nil _) (SoundHL.nil _) (SoundCL.cons tried_okC (SoundCL.nil _))) mixed Try.func41 (show Try.f41.body = some (bodyOf Try.f41) by kernel_rfl) noLoopsS (t := (Tree.need [isRec 4 n fun k => [i (a k), i (b k), i (u k), i (v k)]] (Tree.need [decide (fltB c T lo hi n a b u v (bt (0 : Int) mk c) = (0 : Int)) = false] (Tree.need [(fltB c T lo hi n a b u v (bt (0 : Int) mk c) != (0 : Int)) = true] (Tree.leaf (RV.tup [RV.x (Value.slice none 0 0), RV.x (Value.int IntKind.i64 (fltB c T lo hi n a b u v (bt (0 : Int) mk c)))])))))) (by kernel_rfl) ?_
  have he : shE c T lo hi n a b u v mk = fltB c T lo hi n a b u v (bt 0 mk c) := rfl
  have hl : shL c T lo hi n a b u v mk = 0 := if_neg pre0
  rw [hl, he]
  
  simp only [Tree.sat, allP, fitP, fitL, valEq, inI64, true_and, and_true]
  (repeat' first | with_reducible apply And.intro | with_reducible intro _)
  all_goals first | exact True.intro | with_reducible rfl | assumption | omega | exact isRec4 _ _ _ _ _ | rfl | (simp [*]; done) | (rename_i hm; cases List.mem_singleton.1 hm; exact True.intro)


theorem Shows_ath (c T lo hi : Int) (n : Nat) (a b u v : Nat → Int) (mk : Int) : SoundAt Try.prog 41 [.agg [i c, i T, i lo, i hi], rds n a b u v, i mk, .lit true] (.tup [.lst 1 (shL c T lo hi n a b u v mk) (fun k => [i (shV c T lo hi n a b u v true k)]), i (shE c T lo hi n a b u v mk)]) := by
  by_cases h : fltB c T lo hi n a b u v (bt 0 mk c) = 0
  · exact Shows1h c T lo hi n a b u v mk h (fltB_iff.1 h).1
  · exact Shows0h c T lo hi n a b u v mk h

set_option maxRecDepth 100000 in
theorem Shows1l (c T lo hi : Int) (n : Nat) (a b u v : Nat → Int) (mk : Int) (pre0 : fltB c T lo hi n a b u v (bt 0 mk c) = 0) (pre1 : flt c T lo hi n a b u v = 0) : SoundAt Try.prog 41 [.agg [i c, i T, i lo, i hi], rds n a b u v, i mk, .lit false] (.tup [.lst 1 (shL c T lo hi n a b u v mk) (fun k => [i (shV c T lo hi n a b u v false k)]), i (shE c T lo hi n a b u v mk)]) := by
  refine soundAt_finG (G := [(75, S_within), (97, S_low), (98, S_high), (76, S_lowest), (77, S_highest)]) (X := { R := [], H := [], C := [(64, C_tried)] }) (L := [LS_shl c T lo hi n a b u v mk]) (Gd.go true (Gd.go false Gd.rest)) (SoundG.cons within_ok (SoundG.cons low_ok (SoundG.cons high_ok (SoundG.cons lowest_ok (SoundG.cons highest_ok (SoundG.nil _)))))) (SoundX.ofC (SoundRL.nil _) (SoundHL.nil _) (SoundCL.cons tried_okC (SoundCL.nil _))) mixed Try.func41 (show Try.f41.body = some (bodyOf Try.f41) by kernel_rfl) (one_loop (fun cj hcj => by
    have e : loopAt (bodyOf Try.f41) 0 = some (.loop B_shl) := by kernel_rfl
    rw [e] at hcj; cases hcj
    exact (shl_ls c T lo hi n a b u v mk pre1).N)) (t := (Tree.need [isRec 4 n fun k => [i (a k), i (b k), i (u k), i (v k)]] (Tree.need [decide (fltB c T lo hi n a b u v (bt (0 : Int) mk c) = (0 : Int)) = true] (Tree.need [((0 : Int) != (0 : Int)) = false] (Tree.need [AV.agg [iI c, iI T, iI lo, iI hi] = AV.agg [iI c, iI T, iI lo, iI hi], (AV.lst 4 n fun k => [iI (a k), iI (b k), iI (u k), iI (v k)]) = AV.lst 4 n fun k => [iI (a k), iI (b k), iI (u k), iI (v k)], mk = mk, AV.lit false = AV.lit false, AV.ptr 0 0 = AV.ptr 0 0, AV.x (Value.slice none 0 0) = AV.x (Value.slice none 0 0), (0 : Int) = (0 : Int), AV.roI [] 125 (fun k => siteF (↑(Int.toNat c) : Int) T lo hi (fwM (Int.toNat c) T lo hi n a b u v) k) 0 = AV.roI [] 125 (fun k => siteF (↑(Int.toNat c) : Int) T lo hi (fwM (Int.toNat c) T lo hi n a b u v) k) 0, (0 : Int) = (0 : Int), AV.ptr 18 0 = AV.ptr 18 0, AV.row 901 = AV.row 901, c = c, (0 : Int) = (↑(0 : Nat) : Int), 0 = 0, ∀ (i : Nat), i < 0 → [] = [Ytmdeoobmeokmeaa.i (shV c T lo hi n a b u v false i)], AV.fn (Fn.func 97) [] [] = AV.fn (Fn.func 97) [] [], c = c, T = T, lo = lo, hi = hi] (Tree.leaf (RV.tup [RV.lst 1 (Int.toNat c) fun k => [iI (shV c T lo hi n a b u v false k)], RV.x (Value.int IntKind.i64 (0 : Int))]))))))) (by kernel_rfl) ?_
  have he : shE c T lo hi n a b u v mk = 0 := pre0
  have hc := (tube_bd (flt_iff.1 pre1).1).1
  have hl : shL c T lo hi n a b u v mk = c.toNat := if_pos he
  rw [hl, he]
  
  simp only [Tree.sat, allP, fitP, fitL, valEq, inI64, true_and, and_true]
  (repeat' first | with_reducible apply And.intro | with_reducible intro _)
  all_goals first | exact True.intro | with_reducible rfl | assumption | omega | exact isRec4 _ _ _ _ _ | rfl | (simp [*]; done) | (rename_i hm; cases List.mem_singleton.1 hm; exact True.intro)

set_option maxRecDepth 100000 in
theorem Shows0l (c T lo hi : Int) (n : Nat) (a b u v : Nat → Int) (mk : Int) (pre0 : fltB c T lo hi n a b u v (bt 0 mk c) ≠ 0) : SoundAt Try.prog 41 [.agg [i c, i T, i lo, i hi], rds n a b u v, i mk, .lit false] (.tup [.lst 1 (shL c T lo hi n a b u v mk) (fun k => [i (shV c T lo hi n a b u v false k)]), i (shE c T lo hi n a b u v mk)]) := by
  refine soundAt_finG (G := [(75, S_within), (97, S_low), (98, S_high), (76, S_lowest), (77, S_highest)]) (X := { R := [], H := [], C := [(64, C_tried)] }) (L := []) (Gd.go false (Gd.go true Gd.rest)) (SoundG.cons within_ok (SoundG.cons low_ok (SoundG.cons high_ok (SoundG.cons lowest_ok (SoundG.cons highest_ok (SoundG.nil _)))))) (SoundX.ofC (SoundRL.nil _) (SoundHL.nil _) (SoundCL.cons tried_okC (SoundCL.nil _))) mixed Try.func41 (show Try.f41.body = some (bodyOf Try.f41) by kernel_rfl) noLoopsS (t := (Tree.need [isRec 4 n fun k => [i (a k), i (b k), i (u k), i (v k)]] (Tree.need [decide (fltB c T lo hi n a b u v (bt (0 : Int) mk c) = (0 : Int)) = false] (Tree.need [(fltB c T lo hi n a b u v (bt (0 : Int) mk c) != (0 : Int)) = true] (Tree.leaf (RV.tup [RV.x (Value.slice none 0 0), RV.x (Value.int IntKind.i64 (fltB c T lo hi n a b u v (bt (0 : Int) mk c)))])))))) (by kernel_rfl) ?_
  have he : shE c T lo hi n a b u v mk = fltB c T lo hi n a b u v (bt 0 mk c) := rfl
  have hl : shL c T lo hi n a b u v mk = 0 := if_neg pre0
  rw [hl, he]
  
  simp only [Tree.sat, allP, fitP, fitL, valEq, inI64, true_and, and_true]
  (repeat' first | with_reducible apply And.intro | with_reducible intro _)
  all_goals first | exact True.intro | with_reducible rfl | assumption | omega | exact isRec4 _ _ _ _ _ | rfl | (simp [*]; done) | (rename_i hm; cases List.mem_singleton.1 hm; exact True.intro)


theorem Shows_atl (c T lo hi : Int) (n : Nat) (a b u v : Nat → Int) (mk : Int) : SoundAt Try.prog 41 [.agg [i c, i T, i lo, i hi], rds n a b u v, i mk, .lit false] (.tup [.lst 1 (shL c T lo hi n a b u v mk) (fun k => [i (shV c T lo hi n a b u v false k)]), i (shE c T lo hi n a b u v mk)]) := by
  by_cases h : fltB c T lo hi n a b u v (bt 0 mk c) = 0
  · exact Shows1l c T lo hi n a b u v mk h (fltB_iff.1 h).1
  · exact Shows0l c T lo hi n a b u v mk h


theorem RepL.lit1 {e : Env} {w : World} {r : Bool} : ∀ {l : List AV} {vs : List Value}, RepL e w (l ++ [.x (.bool r)]) vs → RepL e w (l ++ [.lit r]) vs
  | [], vs, h => by
    obtain ⟨v, vs', rfl, hv, hvs⟩ := h.cons_inv
    cases hv
    exact RepL.cons (.lit _) hvs
  | a :: l, vs, h => by
    obtain ⟨v, vs', rfl, hv, hvs⟩ := h.cons_inv
    exact RepL.cons hv (RepL.lit1 hvs)
theorem SoundAt.lit1 {P : Program} {f : FuncId} {l : List AV} {r : Bool} {res : AV} (h : SoundAt P f (l ++ [.lit r]) res) : SoundAt P f (l ++ [.x (.bool r)]) res := h.args (fun _ _ _ r => RepL.lit1 r) (fun hi a ha => by
  rcases List.mem_append.1 ha with h1 | h1
  · exact hi a (List.mem_append_left _ h1)
  · cases List.mem_singleton.1 h1
    exact .lit _)
theorem Shows_at (c T lo hi : Int) (n : Nat) (a b u v : Nat → Int) (mk : Int) (r : Bool) : SoundAt Try.prog 41 [.agg [i c, i T, i lo, i hi], rds n a b u v, i mk, bl r] (.tup [.lst 1 (shL c T lo hi n a b u v mk) (fun k => [i (shV c T lo hi n a b u v r k)]), i (shE c T lo hi n a b u v mk)]) := by
  cases r with
  | true => exact SoundAt.lit1 (l := [.agg [i c, i T, i lo, i hi], rds n a b u v, i mk]) (Shows_ath c T lo hi n a b u v mk)
  | false => exact SoundAt.lit1 (l := [.agg [i c, i T, i lo, i hi], rds n a b u v, i mk]) (Shows_atl c T lo hi n a b u v mk)

def S_Shows : Sx.Spec := fun l => match l with
  | [.agg [.x (.int .i64 c), .x (.int .i64 T), .x (.int .i64 lo), .x (.int .i64 hi)], .lst 4 n f, .x (.int .i64 mk), .x (.bool r)] => some ([isRec 4 n f], .tup [.lst 1 (shL c T lo hi n (col 0 f) (col 1 f) (col 2 f) (col 3 f) mk) (fun k => [i (shV c T lo hi n (col 0 f) (col 1 f) (col 2 f) (col 3 f) r k)]), i (shE c T lo hi n (col 0 f) (col 1 f) (col 2 f) (col 3 f) mk)])
  | [.agg [.x (.int .i64 c), .x (.int .i64 T), .x (.int .i64 lo), .x (.int .i64 hi)], .lst 4 n f, .x (.int .i64 mk), .lit true] => some ([isRec 4 n f], .tup [.lst 1 (shL c T lo hi n (col 0 f) (col 1 f) (col 2 f) (col 3 f) mk) (fun k => [i (shV c T lo hi n (col 0 f) (col 1 f) (col 2 f) (col 3 f) true k)]), i (shE c T lo hi n (col 0 f) (col 1 f) (col 2 f) (col 3 f) mk)])
  | [.agg [.x (.int .i64 c), .x (.int .i64 T), .x (.int .i64 lo), .x (.int .i64 hi)], .lst 4 n f, .x (.int .i64 mk), .lit false] => some ([isRec 4 n f], .tup [.lst 1 (shL c T lo hi n (col 0 f) (col 1 f) (col 2 f) (col 3 f) mk) (fun k => [i (shV c T lo hi n (col 0 f) (col 1 f) (col 2 f) (col 3 f) false k)]), i (shE c T lo hi n (col 0 f) (col 1 f) (col 2 f) (col 3 f) mk)])
  | _ => none

theorem Shows_ok : SoundSpec Try.prog 41 S_Shows := by
  refine ⟨⟨_, Try.func41, by kernel_rfl, by kernel_rfl⟩, ?_⟩
  intro avs ns res h hn
  unfold S_Shows at h
  split at h
  · rename_i c T lo hi n f mk r
    cases h
    have hr0 : isRec 4 n f := hn _ (by simp)
    exact (Shows_at c T lo hi n (col 0 f) (col 1 f) (col 2 f) (col 3 f) mk r).same (.cons (.refl _) (.cons (.lst 4 n _ _ hr0) (.cons (.refl _) (.cons (.refl _) .nil))))
  · rename_i c T lo hi n f mk
    cases h
    have hr0 : isRec 4 n f := hn _ (by simp)
    exact (Shows_ath c T lo hi n (col 0 f) (col 1 f) (col 2 f) (col 3 f) mk).same (.cons (.refl _) (.cons (.lst 4 n _ _ hr0) (.cons (.refl _) (.cons (.refl _) .nil))))
  · rename_i c T lo hi n f mk
    cases h
    have hr0 : isRec 4 n f := hn _ (by simp)
    exact (Shows_atl c T lo hi n (col 0 f) (col 1 f) (col 2 f) (col 3 f) mk).same (.cons (.refl _) (.cons (.lst 4 n _ _ hr0) (.cons (.refl _) (.cons (.refl _) .nil))))
  · cases h

end Go.Proofs.Ytmdeoobmeokmeaa
/- Contracts of functions of the program, by the engine Sx: what each call comes to. Printed by a program of this repo (sxgen.py). -/
set_option linter.unusedSimpArgs false
set_option linter.unusedVariables false
namespace Go.Proofs.Ytmdeoobmeokmeaa
open Go Go.Sx Go.RowKit

end Go.Proofs.Ytmdeoobmeokmeaa
/- Contracts of functions of the program, by the engine Sx: what each call comes to. Printed by a program of this repo (sxgen.py). -/
set_option linter.unusedSimpArgs false
set_option linter.unusedVariables false
namespace Go.Proofs.Ytmdeoobmeokmeaa
open Go Go.Sx Go.RowKit

end Go.Proofs.Ytmdeoobmeokmeaa
/- Contracts of functions of the program, by the engine Sx: what each call comes to. Printed by a program of this repo (sxgen.py). -/
set_option linter.unusedSimpArgs false
set_option linter.unusedVariables false
namespace Go.Proofs.Ytmdeoobmeokmeaa
open Go Go.Sx Go.RowKit

theorem flt_ok {c T lo hi : Int} {n : Nat} {a b u v : Nat → Int} (h1 : tubeB c T lo hi = true) (hn : n ≤ 12) (h2 : allI (fun k => rdB c (a k) (b k) (u k) (v k)) n = true) : flt c T lo hi n a b u v = 0 := flt_iff.2 ⟨h1, hn, h2⟩
/-- Volumes that are a truth, and their heights. -/
theorem it_tr {c T lo hi : Int} {n : Nat} {a b u v : Nat → Int} {m : Nat} {f : Nat → Int} (h : flt c T lo hi n a b u v = 0) (hm : (m : Int) = c) : itB c T lo hi n a b u v m f = true ↔ Tr c.toNat T lo hi n a b u v (sumF f) := by
  have hf := flt_iff.1 h
  have hb := tube_bd hf.1
  rw [it_pt h]
  unfold ptB
  rw [decide_eq_true h, Bool.true_and, Bool.and_eq_true, Bool.and_eq_true, cellsB_iff, allI_iff, decide_eq_true_eq, hgA_in (show c.toNat ≤ m by omega)]
  have e0 : ((c.toNat : Nat) : Int) = c := by omega
  have e1 : ∀ k, sumF f (k + 1) - sumF f k = f k := fun k => by
    show sumF f k + f k - sumF f k = f k
    omega
  have key : ∀ j, j < n → (okH c (hgA f m) (a j) (b j) (u j) (v j) = true ↔ sumF f (b j).toNat - sumF f (a j).toNat ≤ v j ∧ (b j < c → u j + 1 ≤ sumF f (b j + 1).toNat - sumF f (a j).toNat)) := by
    intro j hj
    have hr := rdB_v (allI_iff.1 hf.2.2 j hj)
    rw [okH_iff, hgA_in (show (b j).toNat ≤ m by omega), hgA_in (show (a j).toNat ≤ m by omega)]
    by_cases hbc : b j < c
    · rw [hgA_in (show (b j + 1).toNat ≤ m by omega)]
      omega
    · constructor
      · exact fun h => ⟨h.1, fun h1 => absurd h1 hbc⟩
      · exact fun h => ⟨h.1, fun h1 => absurd h1 hbc⟩
  constructor
  · rintro ⟨⟨⟨_, h1⟩, h2⟩, h3⟩
    refine ⟨rfl, h3, fun k hk => ?_, fun j hj => ?_⟩
    · rw [e1]
      exact h1 k (by omega)
    · have := (key j hj).1 (h2 j hj)
      rw [e0]
      exact this
  · rintro ⟨_, h3, h1, h2⟩
    refine ⟨⟨⟨hm, fun j hj => ?_⟩, fun j hj => (key j hj).2 ?_⟩, h3⟩
    · have := h1 j (by omega)
      rw [e1] at this
      exact this
    · have := h2 j hj
      rw [e0] at this
      exact this
end Go.Proofs.Ytmdeoobmeokmeaa
/- Contracts of functions of the program, by the engine Sx: what each call comes to. Printed by a program of this repo (sxgen.py). -/
set_option linter.unusedSimpArgs false
set_option linter.unusedVariables false
namespace Go.Proofs.Ytmdeoobmeokmeaa
open Go Go.Sx Go.RowKit
end Go.Proofs.Ytmdeoobmeokmeaa
/- Contracts of functions of the program, by the engine Sx: what each call comes to. Printed by a program of this repo (sxgen.py). -/
set_option linter.unusedSimpArgs false
set_option linter.unusedVariables false
namespace Go.Proofs.Ytmdeoobmeokmeaa
open Go Go.Sx Go.RowKit

theorem sh_sum {c T lo hi : Int} {n : Nat} {a b u v : Nat → Int} (h : okB c T lo hi n a b u v = true) : (sumF (shV c T lo hi n a b u v true) = fun k => fwM c.toNat T lo hi n a b u v 0 k) ∧ sumF (shV c T lo hi n a b u v false) = fun k => -(fwM c.toNat T lo hi n a b u v k 0) := by
  have h0 : fwM c.toNat T lo hi n a b u v 0 0 = 0 := fw_00 h
  constructor
  · funext k
    induction k with
    | zero => exact h0.symm
    | succ k ih =>
      show sumF _ k + (fwB c T lo hi n a b u v 0 (k + 1) - fwB c T lo hi n a b u v 0 k) = _
      rw [ih]
      show fwM c.toNat T lo hi n a b u v 0 k + (fwM c.toNat T lo hi n a b u v 0 (k + 1) - fwM c.toNat T lo hi n a b u v 0 k) = _
      omega
  · funext k
    induction k with
    | zero => rw [h0]; rfl
    | succ k ih =>
      show sumF _ k + (-(fwB c T lo hi n a b u v (k + 1) 0) - -(fwB c T lo hi n a b u v k 0)) = _
      rw [ih]
      show -(fwM c.toNat T lo hi n a b u v k 0) + (-(fwM c.toNat T lo hi n a b u v (k + 1) 0) - -(fwM c.toNat T lo hi n a b u v k 0)) = _
      omega
theorem sh_it {c T lo hi : Int} {n : Nat} {a b u v : Nat → Int} (h1 : flt c T lo hi n a b u v = 0) (h2 : okB c T lo hi n a b u v = true) (r : Bool) : Tr c.toNat T lo hi n a b u v (sumF (shV c T lo hi n a b u v r)) ∧ itB c T lo hi n a b u v c.toNat (shV c T lo hi n a b u v r) = true ∧ ∀ k, k < c.toNat → lo ≤ shV c T lo hi n a b u v r k ∧ shV c T lo hi n a b u v r k ≤ hi := by
  have hf := flt_iff.1 h1
  have hb := tube_bd hf.1
  have hr := rdOk_of hb.1 hf.2.2
  have hs := sh_sum h2
  have ht : Tr c.toNat T lo hi n a b u v (sumF (shV c T lo hi n a b u v r)) := by
    cases r with
    | true => rw [hs.1]; exact tr_hi hb.2.1 hr h2
    | false => rw [hs.2]; exact tr_lo hb.2.1 hr h2
  refine ⟨ht, (it_tr h1 (by omega)).2 ht, fun k hk => ?_⟩
  have := ht.2.2.1 k hk
  have e : sumF (shV c T lo hi n a b u v r) (k + 1) = sumF (shV c T lo hi n a b u v r) k + shV c T lo hi n a b u v r k := rfl
  rw [e] at this
  omega
end Go.Proofs.Ytmdeoobmeokmeaa
/- Contracts of functions of the program, by the engine Sx: what each call comes to. Printed by a program of this repo (sxgen.py). -/
set_option linter.unusedSimpArgs false
set_option linter.unusedVariables false
namespace Go.Proofs.Ytmdeoobmeokmeaa
open Go Go.Sx Go.RowKit

theorem tr_range {c : Nat} {T lo hi : Int} {n : Nat} {a b u v : Nat → Int} {h : Nat → Int} (hl : 0 ≤ lo) (k : Tr c T lo hi n a b u v h) {x : Nat} (hx : x ≤ c) : 0 ≤ h x ∧ h x ≤ T := by
  have m := fun x d => step_mono (lo := lo) (h := h) (c := c) hl (fun q hq => (k.2.2.1 q hq).1) x d
  have m1 := m 0 x (by omega)
  have m2 := m x (c - x) (by omega)
  rw [Nat.zero_add] at m1
  rw [show x + (c - x) = c by omega] at m2
  have := k.1
  have := k.2.1
  omega
end Go.Proofs.Ytmdeoobmeokmeaa
/- Contracts of functions of the program, by the engine Sx: what each call comes to. Printed by a program of this repo (sxgen.py). -/
set_option linter.unusedSimpArgs false
set_option linter.unusedVariables false
namespace Go.Proofs.Ytmdeoobmeokmeaa
open Go Go.Sx Go.RowKit

end Go.Proofs.Ytmdeoobmeokmeaa
/- Contracts of functions of the program, by the engine Sx: what each call comes to. Printed by a program of this repo (sxgen.py). -/
set_option linter.unusedSimpArgs false
set_option linter.unusedVariables false
namespace Go.Proofs.Ytmdeoobmeokmeaa
open Go Go.Sx Go.RowKit

/-- A truth of more, or of narrower readings. -/
theorem tr_more {c : Nat} {T lo hi : Int} {n n' : Nat} {a b u v a' b' u' v' : Nat → Int} {h : Nat → Int} (hn : n ≤ n') (hx : ∀ j, j < n → a' j = a j ∧ b' j = b j ∧ u j ≤ u' j ∧ v' j ≤ v j) (k : Tr c T lo hi n' a' b' u' v' h) : Tr c T lo hi n a b u v h := by
  refine ⟨k.1, k.2.1, k.2.2.1, fun j hj => ?_⟩
  obtain ⟨e1, e2, h3, h4⟩ := hx j hj
  have h1 := k.2.2.2 j (by omega)
  rw [e1, e2] at h1
  exact ⟨by omega, fun hb => by have := h1.2 hb; omega⟩
theorem more_bd {c T lo hi : Int} {n n' : Nat} {a b u v a' b' u' v' : Nat → Int} (hn : n ≤ n') (hx : ∀ j, j < n → a' j = a j ∧ b' j = b j ∧ u j ≤ u' j ∧ v' j ≤ v j) (h1 : flt c T lo hi n a b u v = 0) (h2 : flt c T lo hi n' a' b' u' v' = 0) (h3 : okB c T lo hi n' a' b' u' v' = true) :
    okB c T lo hi n a b u v = true ∧ ∀ k : Nat, (k : Int) ≤ c → -fwB c T lo hi n a b u v k 0 ≤ -fwB c T lo hi n' a' b' u' v' k 0 ∧ fwB c T lo hi n' a' b' u' v' 0 k ≤ fwB c T lo hi n a b u v 0 k := by
  have hf := flt_iff.1 h1
  have hb := tube_bd hf.1
  have hr := rdOk_of hb.1 hf.2.2
  have hr2 := rdOk_of hb.1 (flt_iff.1 h2).2.2
  have tl := tr_more hn hx (tr_lo hb.2.1 hr2 h3)
  have th := tr_more hn hx (tr_hi hb.2.1 hr2 h3)
  refine ⟨ok_of_tr hb.2.1 hr tl, fun k hk => ?_⟩
  have b1 := tr_bd hb.2.1 hr tl (x := k) (by omega)
  have b2 := tr_bd hb.2.1 hr th (x := k) (by omega)
  exact ⟨b1.1, b2.2⟩


theorem exL_lt {n j : Nat} {f : Nat → Int} {x : Int} (h : j < n) : exL n f x j = f j := if_pos h
end Go.Proofs.Ytmdeoobmeokmeaa
/- Contracts of functions of the program, by the engine Sx: what each call comes to. Printed by a program of this repo (sxgen.py). -/
set_option linter.unusedSimpArgs false
set_option linter.unusedVariables false
namespace Go.Proofs.Ytmdeoobmeokmeaa
open Go Go.Sx Go.RowKit

theorem exL_eq {n : Nat} {f : Nat → Int} {x : Int} : exL n f x n = x := if_neg (Nat.lt_irrefl n)
theorem ex_flt {c T lo hi : Int} {n : Nat} {a b u v : Nat → Int} {x1 x2 x3 x4 : Int} (hn : n ≤ 11) (h : flt c T lo hi n a b u v = 0) (hx : rdB c x1 x2 x3 x4 = true) : flt c T lo hi (n + 1) (exL n a x1) (exL n b x2) (exL n u x3) (exL n v x4) = 0 := by
  have hf := flt_iff.1 h
  exact flt_ok hf.1 (by omega) (exL_rd hf.2.2 hx)
theorem dbF_mono {f g : Nat → Int} {c : Nat} (h : ∀ k, k ≤ c → f (k + 4) - -(f (k * 11 + 4)) ≤ g (k + 4) - -(g (k * 11 + 4))) : ∀ k, k ≤ c + 1 → dbF f k ≤ dbF g k
  | 0, _ => Int.le_refl _
  | k + 1, hk => by
    have ih := dbF_mono h k (by omega)
    have h1 := h k (by omega)
    unfold dbF
    omega
theorem nwD_le {c T lo hi : Int} {n : Nat} {a b u v : Nat → Int} {p q : Int} {k j : Nat} (hn : n ≤ 11) (h : flt c T lo hi n a b u v = 0) (hp : 0 ≤ p ∧ p ≤ q ∧ q ≤ 2000) (hk : (k : Int) < c) (hj : j ≤ (c - k).toNat) (ho : nwO c T lo hi n a b u v p q k j = true) : nwD c T lo hi n a b u v p q k j ≤ dbF (sfB c T lo hi n a b u v) (c.toNat + 1) := by
  have hb := tube_bd (flt_iff.1 h).1
  have h2 := ex_flt (x1 := k) (x2 := (k : Int) + j) (x3 := p) (x4 := q) hn h (rdB_of (by omega))
  have hm := more_bd (a := a) (b := b) (u := u) (v := v) (a' := exL n a k) (b' := exL n b ((k : Int) + j)) (u' := exL n u p) (v' := exL n v q) (show n ≤ n + 1 by omega) (fun i hi => ⟨exL_lt hi, exL_lt hi, Int.le_of_eq (exL_lt hi).symm, Int.le_of_eq (exL_lt hi)⟩) h h2 ho
  refine dbF_mono (c := c.toNat) (fun y hy => ?_) (c.toNat + 1) (Nat.le_refl _)
  rw [sfB_low, sfB_low, sfB_high _ _ _ _ _ _ _ _ _ (by omega), sfB_high _ _ _ _ _ _ _ _ _ (by omega)]
  have := hm.2 y (by omega)
  omega
theorem nwW_le {c T lo hi : Int} {n : Nat} {a b u v : Nat → Int} {p q : Int} {k : Nat} (hn : n ≤ 11) (h : flt c T lo hi n a b u v = 0) (hp : 0 ≤ p ∧ p ≤ q ∧ q ≤ 2000) (hk : (k : Int) < c) : ∀ j, j ≤ (c - k + 1).toNat → nwW c T lo hi n a b u v p q k j ≤ dbF (sfB c T lo hi n a b u v) (c.toNat + 1)
  | 0, _ => by
    have hf := flt_iff.1 h
    have hb := tube_bd hf.1
    exact (db_bdx hb.1 hb.2.1 hf.2.2).1
  | j + 1, hj => by
    have ih := nwW_le (j := j) hn h hp hk (by omega)
    unfold nwW
    split
    · rename_i ho
      have := nwD_le hn h hp hk (by omega) ho
      omega
    · exact ih
end Go.Proofs.Ytmdeoobmeokmeaa
/- Contracts of functions of the program, by the engine Sx: what each call comes to. Printed by a program of this repo (sxgen.py). -/
set_option linter.unusedSimpArgs false
set_option linter.unusedVariables false
namespace Go.Proofs.Ytmdeoobmeokmeaa
open Go Go.Sx Go.RowKit
end Go.Proofs.Ytmdeoobmeokmeaa
/- Contracts of functions of the program, by the engine Sx: what each call comes to. Printed by a program of this repo (sxgen.py). -/
set_option linter.unusedSimpArgs false
set_option linter.unusedVariables false
namespace Go.Proofs.Ytmdeoobmeokmeaa
open Go Go.Sx Go.RowKit

end Go.Proofs.Ytmdeoobmeokmeaa
/- Contracts of functions of the program, by the engine Sx: what each call comes to. Printed by a program of this repo (sxgen.py). -/
set_option linter.unusedSimpArgs false
set_option linter.unusedVariables false
namespace Go.Proofs.Ytmdeoobmeokmeaa
open Go Go.Sx Go.RowKit

/-- Lists of numbers, and lists of these. -/
abbrev LI (l : List Int) : AV := .lst 1 l.length (fun k => [i (nthJ l k)])
def nL : List (List Int) → Nat → List Int
  | [], _ => []
  | w :: _, 0 => w
  | _ :: L, k + 1 => nL L k
abbrev LL (L : List (List Int)) : AV := .lst 1 L.length (fun k => [LI (nL L k)])
def tol (n : Nat) (f : Nat → Int) : List Int := (List.range n).map f
/-- All volumes that begin so: so many cells are left besides the last one. -/
def allV (T lo hi : Int) : Nat → List Int → List (List Int)
  | 0, bs => if bt lo (T - bs.sum) hi then [bs ++ [T - bs.sum]] else []
  | d + 1, bs => (List.range (hi - lo + 1).toNat).flatMap fun (q : Nat) => allV T lo hi d (bs ++ [lo + (q : Int)])
def alP (T lo hi : Int) (d : Nat) (bs : List Int) (k : Nat) : List (List Int) := (List.range k).flatMap fun (q : Nat) => allV T lo hi d (bs ++ [lo + (q : Int)])
/-- What 'All' asks. -/
def alQ (c T lo hi : Int) (d n : Nat) (f : Nat → Int) : Prop := (n : Int) + d + 1 = c ∧ c ≤ 10 ∧ (1 ≤ lo ∧ lo ≤ hi ∧ hi ≤ 200 ∧ 1 ≤ T ∧ T ≤ 2000) ∧ (∀ k, k < n → 0 ≤ f k ∧ f k ≤ 200) ∧ (allV T lo hi d (tol n f)).length ≤ 1000000
noncomputable def C_All (d : Nat) : CSpec := fun l => match l with
  | [.agg [.x (.int .i64 c), .x (.int .i64 T), .x (.int .i64 lo), .x (.int .i64 hi)], .lst 1 n f] => some (.need [isRec 1 n f, alQ c T lo hi d n (col 0 f)] (.leaf (LL (allV T lo hi d (tol n (col 0 f))))))
  | [.agg [.x (.int .i64 c), .x (.int .i64 T), .x (.int .i64 lo), .x (.int .i64 hi)], .x (.slice none 0 0)] => some (.need [alQ c T lo hi d 0 (fun _ => 0)] (.leaf (LL (allV T lo hi d []))))
  | _ => none
def AllOk' (d : Nat) : Prop := Enters Try.prog 51 ∧ ∀ avs t, C_All d avs = some t → SoundCAt Try.prog 51 avs t


theorem nthJ_app (l m : List Int) : ∀ k, nthJ (l ++ m) k = if k < l.length then nthJ l k else nthJ m (k - l.length) := by
  induction l with
  | nil => intro k; simp
  | cons x l ih =>
    intro k
    cases k with
    | zero => simp [nthJ]
    | succ k =>
      show nthJ (l ++ m) k = _
      rw [ih]
      simp only [List.length_cons, Nat.add_lt_add_iff_right, Nat.add_sub_add_right]
      rfl
theorem nL_app (l m : List (List Int)) : ∀ k, nL (l ++ m) k = if k < l.length then nL l k else nL m (k - l.length) := by
  induction l with
  | nil => intro k; simp
  | cons x l ih =>
    intro k
    cases k with
    | zero => simp [nL]
    | succ k =>
      show nL (l ++ m) k = _
      rw [ih]
      simp only [List.length_cons, Nat.add_lt_add_iff_right, Nat.add_sub_add_right]
      rfl
theorem nthJ_get : ∀ {l : List Int} {k : Nat} (h : k < l.length), nthJ l k = l[k]
  | x :: l, 0, h => rfl
  | x :: l, k + 1, h => nthJ_get (l := l) (k := k) (by simpa using h)
theorem nL_get : ∀ {l : List (List Int)} {k : Nat} (h : k < l.length), nL l k = l[k]
  | x :: l, 0, h => rfl
  | x :: l, k + 1, h => nL_get (l := l) (k := k) (by simpa using h)
theorem catLL (L M : List (List Int)) (j : Nat) : catF L.length (fun j => [LI (nL L j)]) (fun j => [LI (nL M j)]) j = [LI (nL (L ++ M) j)] := by
  unfold catF
  rw [nL_app]
  by_cases h : j < L.length
  · rw [if_pos h, decide_eq_true h]; rfl
  · rw [if_neg h, decide_eq_false h]; rfl
theorem tol_len (n : Nat) (f : Nat → Int) : (tol n f).length = n := by simp [tol]
theorem tol_get {n k : Nat} {f : Nat → Int} (h : k < n) : nthJ (tol n f) k = f k := by
  rw [nthJ_get (by rw [tol_len]; exact h)]
  simp [tol]
theorem tol_succ (n : Nat) (f : Nat → Int) : tol (n + 1) f = tol n f ++ [f n] := by simp [tol, List.range_succ]
theorem tol_sum (n : Nat) (f : Nat → Int) : (tol n f).sum = sumF f n := by
  induction n with
  | zero => rfl
  | succ n ih => rw [tol_succ, List.sum_append, ih]; simp [sumF]
theorem tol_congr {n : Nat} {f g : Nat → Int} (h : ∀ k, k < n → f k = g k) : tol n f = tol n g := by
  unfold tol
  exact List.map_congr_left fun k hk => h k (List.mem_range.1 hk)
/-- A list, copied, with one number more. -/
theorem cat_more (n : Nat) (f : Nat → Int) (x : Int) : (∀ j, j < n → catF (0 + n) (catF 0 (fun _ => []) fun k => [iI (f k)]) (chunk 1 [iI x]) j = [iI (f j)]) ∧ catF (0 + n) (catF 0 (fun _ => []) fun k => [iI (f k)]) (chunk 1 [iI x]) n = [iI x] := by
  have e1 : ∀ j, catF 0 (fun _ => []) (fun k => [iI (f k)]) j = [iI (f j)] := fun j => by
    show mergeL (decide (j < 0)) [] [iI (f (j - 0))] = _
    rw [show decide (j < 0) = false by simp]
    rfl
  constructor
  · intro j hj
    show mergeL (decide (j < 0 + n)) (catF 0 (fun _ => []) (fun k => [iI (f k)]) j) (chunk 1 [iI x] (j - (0 + n))) = _
    rw [e1, show decide (j < 0 + n) = true by simp [hj], show j - (0 + n) = 0 by omega]
    rfl
  · show mergeL (decide (n < 0 + n)) (catF 0 (fun _ => []) (fun k => [iI (f k)]) n) (chunk 1 [iI x] (n - (0 + n))) = _
    rw [e1, show decide (n < 0 + n) = false by simp, show n - (0 + n) = 0 by omega]
    rfl
theorem cat_tol (n : Nat) (f : Nat → Int) (x : Int) : isRec 1 (0 + n + 1) (catF (0 + n) (catF 0 (fun _ => []) fun k => [iI (f k)]) (chunk 1 [iI x])) ∧ tol (0 + n + 1) (col 0 (catF (0 + n) (catF 0 (fun _ => []) fun k => [iI (f k)]) (chunk 1 [iI x]))) = tol n f ++ [x] ∧ (∀ j, j < n → col 0 (catF (0 + n) (catF 0 (fun _ => []) fun k => [iI (f k)]) (chunk 1 [iI x])) j = f j) ∧ col 0 (catF (0 + n) (catF 0 (fun _ => []) fun k => [iI (f k)]) (chunk 1 [iI x])) n = x := by
  obtain ⟨h1, h2⟩ := cat_more n f x
  have c1 : ∀ j, j < n → col 0 (catF (0 + n) (catF 0 (fun _ => []) fun k => [iI (f k)]) (chunk 1 [iI x])) j = f j := fun j hj => by unfold col; rw [h1 j hj]; rfl
  have c2 : col 0 (catF (0 + n) (catF 0 (fun _ => []) fun k => [iI (f k)]) (chunk 1 [iI x])) n = x := by unfold col; rw [h2]; rfl
  refine ⟨fun k hk => ?_, ?_, c1, c2⟩
  · rcases (show k < n ∨ k = n by omega) with h | rfl
    · rw [h1 k h]; rfl
    · rw [h2]; rfl
  · rw [show 0 + n + 1 = n + 1 by omega, tol_succ, c2, tol_congr c1]
/-- Lists that agree as far as they go, inside a list. -/
theorem Rep.lst1 {e : Env} {w : World} {n : Nat} {f g : Nat → List AV} {v : Value} (h : ∀ k, k < n → f k = g k) (r : Rep e w (.lst 1 n f) v) : Rep e w (.lst 1 n g) v := Same.rep (.lst 1 n f g h) r
theorem Rep.lstMono {e : Env} {w : World} {sz n : Nat} {f g : Nat → List AV} {v : Value} (h1 : ∀ k, k < n → (f k).length = (g k).length) (h2 : ∀ k, k < n → ∀ a ∈ g k, Idf a) (h3 : ∀ (k j : Nat) (a b : AV), k < n → (f k)[j]? = some a → (g k)[j]? = some b → ∀ u, Rep e w a u → Rep e w b u) (r : Rep e w (.lst sz n f) v) : Rep e w (.lst sz n g) v := by
  cases r with
  | lstNil sz f => exact .lstNil sz g
  | lst sz n f b o cap q k1 k2 k3 k4 k5 k6 k7 k8 =>
    refine .lst sz n g b o cap q k1 k2 h2 k4 k5 k6 (fun i hi => by rw [← h1 i hi]; exact k7 i hi) (fun i j a hi ha => ?_)
    have hj : j < (f i).length := by rw [h1 i hi]; exact (List.getElem?_eq_some_iff.1 ha).1
    exact h3 i j _ a hi (List.getElem?_eq_getElem hj) ha _ (k8 i j _ hi (List.getElem?_eq_getElem hj))
theorem idf_LI (l : List Int) : Idf (LI l) := .lst _ _ _ fun k hk a ha => by
  cases List.mem_singleton.1 ha
  exact .x _
theorem SoundCAt.weaken {P : Program} {f : FuncId} {avs : List AV} {t t' : Tree AV} (h : SoundCAt P f avs t) (k : ∀ Q : AV → Prop, t'.sat Q → t.sat (fun r => ∃ r', Q r' ∧ ∀ e w v, Rep e w r v → Rep e w r' v)) : SoundCAt P f avs t' := by
  intro Q hQ e w args hro hidf hrep
  refine (h _ (k Q hQ) e w args hro hidf hrep).mono ?_
  rintro en w' ⟨v, r, h1, ⟨r', h2, h3⟩, h4, h5⟩
  exact ⟨v, r', h1, h2, h4, h3 _ _ _ h5⟩
theorem cat_li (n : Nat) (f : Nat → Int) (x : Int) {e : Env} {w : World} {v : Value} (r : Rep e w (.lst 1 1 (chunk 1 [.lst 1 (0 + n + 1) (catF (0 + n) (catF 0 (fun _ => []) fun k => [iI (f k)]) (chunk 1 [iI x]))])) v) : Rep e w (LL [tol n f ++ [x]]) v := by
  obtain ⟨h1, h2⟩ := cat_more n f x
  have hl : (tol n f ++ [x]).length = 0 + n + 1 := by simp [tol_len]
  refine Rep.lstMono (fun k hk => ?_) (fun k hk a ha => ?_) (fun k j a b hk ha hb u hu => ?_) r
  · obtain rfl : k = 0 := by have : k < 1 := hk; omega
    rfl
  · cases List.mem_singleton.1 ha
    exact idf_LI _
  · obtain rfl : k = 0 := by have : k < 1 := hk; omega
    have hj : j = 0 := by
      have := (List.getElem?_eq_some_iff.1 hb).1
      simp at this
      exact this
    subst hj
    cases ha
    cases hb
    show Rep e w (.lst 1 (tol n f ++ [x]).length _) u
    rw [hl]
    refine Rep.lst1 (fun q hq => ?_) hu
    show _ = [i (nthJ (tol n f ++ [x]) q)]
    rw [nthJ_app, tol_len]
    rcases (show q < n ∨ q = n by omega) with h | rfl
    · rw [if_pos h, tol_get h, h1 q h]
    · rw [if_neg (by omega), h2, Nat.sub_self]; rfl
theorem alP_succ (T lo hi : Int) (d : Nat) (bs : List Int) (k : Nat) : alP T lo hi d bs (k + 1) = alP T lo hi d bs k ++ allV T lo hi d (bs ++ [lo + (k : Int)]) := by
  simp [alP, List.range_succ, List.flatMap_append]
theorem alP_le (T lo hi : Int) (d : Nat) (bs : List Int) (k : Nat) : ∀ j, (alP T lo hi d bs k).length ≤ (alP T lo hi d bs (k + j)).length
  | 0 => Nat.le_refl _
  | j + 1 => by
    have := alP_le T lo hi d bs k j
    rw [← Nat.add_assoc, alP_succ, List.length_append]
    omega
theorem alP_all (T lo hi : Int) (d : Nat) (bs : List Int) : alP T lo hi d bs (hi - lo + 1).toNat = allV T lo hi (d + 1) bs := rfl
theorem alP_bd {T lo hi : Int} {d : Nat} {bs : List Int} {k : Nat} (h : k < (hi - lo + 1).toNat) (hl : (allV T lo hi (d + 1) bs).length ≤ 1000000) : (alP T lo hi d bs k).length + (allV T lo hi d (bs ++ [lo + (k : Int)])).length ≤ 1000000 := by
  have h1 := alP_le T lo hi d bs (k + 1) ((hi - lo + 1).toNat - (k + 1))
  rw [show k + 1 + ((hi - lo + 1).toNat - (k + 1)) = (hi - lo + 1).toNat by omega, alP_all, alP_succ, List.length_append] at h1
  omega

noncomputable def E_al (d : Nat) (c T lo hi : Int) (n : Nat) (f : Nat → Int) : St := (some
  {
    σ :=
      [AV.agg
          [AV.x (Value.int IntKind.i64 c), AV.x (Value.int IntKind.i64 T), AV.x (Value.int IntKind.i64 lo),
            AV.x (Value.int IntKind.i64 hi)],
        AV.lst (1 : Nat) n fun k => [AV.x (Value.int IntKind.i64 (f k))], AV.ptr (0 : Nat) (0 : Nat), AV.top,
        AV.x (Value.slice none (0 : Nat) (0 : Nat)), AV.x (Value.int IntKind.i64 (T - sumF f n)), AV.top, AV.top,
        AV.top, AV.top, AV.top, AV.top, AV.top, AV.top, AV.top, AV.top, AV.top, AV.top, AV.top, AV.top, AV.top, AV.top,
        AV.top, AV.top, AV.top, AV.top, AV.top, AV.top, AV.top, AV.top, AV.top, AV.top, AV.top, AV.top, AV.top, AV.top,
        AV.top, AV.top, AV.top, AV.top, AV.top, AV.top, AV.top, AV.top, AV.top, AV.top, AV.top, AV.top, AV.top, AV.top,
        AV.top, AV.top, AV.top, AV.top, AV.top, AV.top, AV.top, AV.top],
    m :=
      [((900 : Nat), Res.row (58 : Nat) (1 : Nat) (0 : Nat) fun x => []),
        ((0 : Nat),
          Res.cells (25 : Nat)
            [AV.x (Value.int IntKind.i64 c), AV.x (Value.int IntKind.i64 T), AV.x (Value.int IntKind.i64 lo),
              AV.x (Value.int IntKind.i64 hi)])],
    nx := (901 : Nat) } : Option St).getD { σ := [], m := [], nx := 0 }
noncomputable def B_al : Code := loopBody (loopAt (bodyOf Try.f51) 0)
noncomputable def inv_al (d : Nat) (c T lo hi : Int) (n : Nat) (f : Nat → Int) (k : Nat) : St := { σ := ovrS [(6, .row 900), (7, i (lo + k))] (E_al d c T lo hi n f).σ, m := [(900, .row 58 1 (alP T lo hi d (tol n f) k).length (fun j => [LI (nL (alP T lo hi d (tol n f) k) j)])), (0, .cells 25 [i c, i T, i lo, i hi])], nx := (E_al d c T lo hi n f).nx }
noncomputable def out_al (d : Nat) (c T lo hi : Int) (n : Nat) (f : Nat → Int) (k : Nat) : AEx → Option St := fun ex => match ex with
  | .exit 0 => some { σ := ovrS [(6, .row 900)] (E_al d c T lo hi n f).σ, m := [(900, .row 58 1 (alP T lo hi d (tol n f) (hi - lo + 1).toNat).length (fun j => [LI (nL (alP T lo hi d (tol n f) (hi - lo + 1).toNat) j)])), (0, .cells 25 [i c, i T, i lo, i hi])], nx := (E_al d c T lo hi n f).nx }
  | _ => none
noncomputable def T_al (d : Nat) (c T lo hi : Int) (n : Nat) (f : Nat → Int) : CT := .leaf (.exit 0, ( out_al d c T lo hi n f 0 (.exit 0)).getD (E_al d c T lo hi n f))
noncomputable def LS_al (d : Nat) (c T lo hi : Int) (n : Nat) (f : Nat → Int) : LSpec := normSp [(.slot 6, 900, 58, 1)] (sumL (inv_al d c T lo hi n f (0)) (T_al d c T lo hi n f))
set_option maxRecDepth 100000 in
theorem al_ls (d : Nat) (c T lo hi : Int) (n : Nat) (f : Nat → Int) (pre0 : AllOk' d) (pre1 : alQ c T lo hi (d + 1) n f) : LSound Try.prog (.loop B_al) (LS_al d c T lo hi n f) := by
  refine loop_roundsX [(.slot 6, 900, 58, 1)] (E := { R := [], H := [], C := [(51, (C_All d))] }) (G := [(40, S_rHeight), (42, S_rIn)]) (L := []) (SoundG.cons rHeight_ok (SoundG.cons rIn_ok (SoundG.nil _))) (SoundX.ofC (SoundRL.nil _) (SoundHL.nil _) (SoundCL.cons pre0 (SoundCL.nil _))) mixed noLoops (X := Nat) (inv_al d c T lo hi n f) (fun k => k ≤ (hi - lo + 1).toNat) (fun k => (hi - lo + 1).toNat - k) (out_al d c T lo hi n f) (x0 := 0) (by simp) ?_ ?_ ?_
  · rintro k
    kernel_rfl
  · rintro k y E h
    unfold out_al at h
    split at h
    · cases h; kernel_rfl
    · cases h
  · rintro Q hQ k hx
    refine ⟨(k + 1), ?_⟩
    have e : roundX Try.prog [(40, S_rHeight), (42, S_rIn)] { R := [], H := [], C := [(51, (C_All d))] } [] [(.slot 6, 900, 58, 1)] B_al (inv_al d c T lo hi n f k) (inv_al d c T lo hi n f ((k + 1))) (out_al d c T lo hi n f k) = (Tree.branch (decide (lo + (↑k : Int) ≤ hi)) (Tree.need [(0 + n) * 8 ≤ 140737488355328, ∀ (i : Nat), i < n → ∀ (a : AV), a ∈ [iI (f i)] → AV.one a = true] (Tree.need [(0 + n + 1) * 8 ≤ 140737488355328, ∀ (i : Nat), i < 1 → ∀ (a : AV), a ∈ chunk 1 [iI (lo + (↑k : Int))] i → AV.one a = true] (Tree.need [isRec 1 (0 + n + 1) (catF (0 + n) (catF 0 (fun x => []) fun k => [iI (f k)]) (chunk 1 [iI (lo + (↑k : Int))])), alQ c T lo hi d (0 + n + 1) (col 0 (catF (0 + n) (catF 0 (fun x => []) fun k => [iI (f k)]) (chunk 1 [iI (lo + (↑k : Int))])))] (Tree.need [(List.length (alP T lo hi d (tol n f) k) + List.length (allV T lo hi d (tol (0 + n + 1) (col 0 (catF (0 + n) (catF 0 (fun x => []) fun k => [iI (f k)]) (chunk 1 [iI (lo + (↑k : Int))])))))) * 24 ≤ 140737488355328, ∀ (i : Nat), i < List.length (allV T lo hi d (tol (0 + n + 1) (col 0 (catF (0 + n) (catF 0 (fun x => []) fun k => [iI (f k)]) (chunk 1 [iI (lo + (↑k : Int))]))))) → ∀ (a : AV), a ∈ [LI (nL (allV T lo hi d (tol (0 + n + 1) (col 0 (catF (0 + n) (catF 0 (fun x => []) fun k => [iI (f k)]) (chunk 1 [iI (lo + (↑k : Int))]))))) i)] → AV.one a = true] (Tree.need [inI64 (lo + (↑k : Int) + (1 : Int))] (Tree.need [AV.agg [iI c, iI T, iI lo, iI hi] = AV.agg [iI c, iI T, iI lo, iI hi], (AV.lst 1 n fun k => [iI (f k)]) = AV.lst 1 n fun k => [iI (f k)], AV.ptr 0 0 = AV.ptr 0 0, AV.x (Value.slice none 0 0) = AV.x (Value.slice none 0 0), T - sumF f n = T - sumF f n, AV.row 900 = AV.row 900, lo + (↑k : Int) + (1 : Int) = lo + (↑(k + 1) : Int), List.length (alP T lo hi d (tol n f) k) + List.length (allV T lo hi d (tol (0 + n + 1) (col 0 (catF (0 + n) (catF 0 (fun x => []) fun k => [iI (f k)]) (chunk 1 [iI (lo + (↑k : Int))]))))) = List.length (alP T lo hi d (tol n f) (k + 1)), ∀ (i : Nat), i < List.length (alP T lo hi d (tol n f) (k + 1)) → catF (List.length (alP T lo hi d (tol n f) k)) (fun j => [LI (nL (alP T lo hi d (tol n f) k) j)]) (fun k_1 => [LI (nL (allV T lo hi d (tol (0 + n + 1) (col 0 (catF (0 + n) (catF 0 (fun x => []) fun k => [iI (f k)]) (chunk 1 [iI (lo + (↑k : Int))]))))) k_1)]) i = [LI (nL (alP T lo hi d (tol n f) (k + 1)) i)], c = c, T = T, lo = lo, hi = hi] (Tree.leaf AEx.normal))))))) (Tree.need [AV.agg [iI c, iI T, iI lo, iI hi] = AV.agg [iI c, iI T, iI lo, iI hi], (AV.lst 1 n fun k => [iI (f k)]) = AV.lst 1 n fun k => [iI (f k)], AV.ptr 0 0 = AV.ptr 0 0, AV.x (Value.slice none 0 0) = AV.x (Value.slice none 0 0), T - sumF f n = T - sumF f n, AV.row 900 = AV.row 900, List.length (alP T lo hi d (tol n f) k) = List.length (alP T lo hi d (tol n f) (Int.toNat (hi - lo + (1 : Int)))), ∀ (i : Nat), i < List.length (alP T lo hi d (tol n f) (Int.toNat (hi - lo + (1 : Int)))) → [LI (nL (alP T lo hi d (tol n f) k) i)] = [LI (nL (alP T lo hi d (tol n f) (Int.toNat (hi - lo + (1 : Int)))) i)], c = c, T = T, lo = lo, hi = hi] (Tree.leaf (AEx.exit 0)))) := by kernel_rfl
    rw [e]
    simp only [T_al, out_al, Tree.sat, Option.getD_some] at hQ
    obtain ⟨q1, q2, q3, q4, q5⟩ := pre1
    obtain ⟨g1, g2, g3, g4⟩ := cat_tol n f (lo + (k : Int))
    have hS := alP_succ T lo hi d (tol n f) k
    have hA : lo + (k : Int) ≤ hi → alQ c T lo hi d (0 + n + 1) (col 0 (catF (0 + n) (catF 0 (fun _ => []) fun k => [iI (f k)]) (chunk 1 [iI (lo + (k : Int))]))) := fun hk => by
      have hb := alP_bd (k := k) (by omega) q5
      refine ⟨by omega, q2, q3, fun j hj => ?_, by rw [g2]; omega⟩
      rcases (show j < n ∨ j = n by omega) with h | rfl
      · rw [g3 j h]; exact q4 j h
      · rw [g4]; omega
    have hB : lo + (k : Int) ≤ hi → (alP T lo hi d (tol n f) k).length + (allV T lo hi d (tol n f ++ [lo + (k : Int)])).length ≤ 1000000 := fun hk => alP_bd (k := k) (by omega) q5
    simp only [Tree.sat, allP, fitP, fitL, valEq, inI64, true_and, and_true, decide_eq_true_eq, decide_eq_false_iff_not, g2, hS, List.length_append, catLL]
    clear e
    refine ⟨fun h => ?_, fun h => ?_⟩
    · have hA := hA h
      have hB := hB h
      (repeat' first | with_reducible apply And.intro | with_reducible intro _)
      all_goals first | exact True.intro | omega | with_reducible rfl | assumption | exact one_of (by assumption) (by simp [AV.one, Value.oneCell']) | (rename_i hm; cases List.mem_singleton.1 hm; rfl) | rfl
    · obtain rfl : k = (hi - lo + 1).toNat := by omega
      (repeat' first | with_reducible apply And.intro | with_reducible intro _)
      all_goals first | exact True.intro | omega | with_reducible rfl | (rename_i E hE; cases hE; exact hQ) | rfl

set_option maxRecDepth 100000 in
theorem rAll0_at (d : Nat) (c T lo hi : Int) (n : Nat) (f : Nat → Int) (pre0 : alQ c T lo hi d n f) (pre1 : d = 0 ∨ AllOk' (d - 1)) : SoundCAt Try.prog 51 [.agg [i c, i T, i lo, i hi], .lst 1 n (fun k => [i (f k)])] (.branch (decide (d = 0) && bt lo (T - sumF f n) hi) (.leaf (.lst 1 1 (chunk 1 [.lst 1 (0 + n + 1) (catF (0 + n) (catF 0 (fun _ => []) fun k => [i (f k)]) (chunk 1 [i (T - sumF f n)]))]))) (.leaf (LL (allV T lo hi d (tol n f))))) := by
  refine soundCAt_fin (G := [(40, S_rHeight), (42, S_rIn)]) (X := { R := [], H := [] }) (L := [needSp [d ≠ 0] (LS_al (d - 1) c T lo hi n f)]) (SoundG.cons rHeight_ok (SoundG.cons rIn_ok (SoundG.nil _))) (SoundX.of (SoundRL.nil _) (SoundHL.nil _)) mixed Try.func51 (show Try.f51.body = some (bodyOf Try.f51) by kernel_rfl) (one_loop (fun cj hcj => by
    have e : loopAt (bodyOf Try.f51) 0 = some (.loop B_al) := by kernel_rfl
    rw [e] at hcj; cases hcj
    exact needSp_soundN (ps := [d ≠ 0]) (fun h => (al_ls (d - 1) c T lo hi n f (pre1.resolve_left h) (by rw [Nat.sub_add_cancel (Nat.pos_of_ne_zero h)]; exact pre0)).N))) (t := (Tree.need [isRec 1 n fun k => [i (f k)], (↑n : Int) ≤ (↑n : Int), n ≤ 100, ∀ (k : Nat), k < n → (-1000000 : Int) ≤ f k ∧ f k ≤ (1000000 : Int)] (Tree.need [inI64 (T - sumF f n)] (Tree.need [inI64 (c - (1 : Int))] (Tree.branch ((↑n : Int) == c - (1 : Int)) (Tree.branch (!bt lo (T - sumF f n) hi) (Tree.leaf (AV.x (Value.slice none 0 0))) (Tree.need [(0 + n) * 8 ≤ 140737488355328, ∀ (i : Nat), i < n → ∀ (a : AV), a ∈ [Ytmdeoobmeokmeaa.i (f i)] → AV.one a = true] (Tree.need [(0 + n + 1) * 8 ≤ 140737488355328, ∀ (i : Nat), i < 1 → ∀ (a : AV), a ∈ chunk 1 [iI (T - sumF f n)] i → AV.one a = true] (Tree.leaf (AV.lst 1 1 (chunk 1 [AV.lst 1 (0 + n + 1) (catF (0 + n) (catF 0 (fun x => []) fun k => [iI (f k)]) (chunk 1 [iI (T - sumF f n)]))])))))) (Tree.need [d ≠ 0] (Tree.need [AV.agg [iI c, iI T, iI lo, iI hi] = AV.agg [iI c, iI T, iI lo, iI hi], (AV.lst 1 n fun k => [iI (f k)]) = AV.lst 1 n fun k => [iI (f k)], AV.ptr 0 0 = AV.ptr 0 0, AV.x (Value.slice none 0 0) = AV.x (Value.slice none 0 0), T - sumF f n = T - sumF f n, AV.row 900 = AV.row 900, lo = lo + (↑(0 : Nat) : Int), 0 = List.length (alP T lo hi (d - 1) (tol n f) 0), ∀ (i : Nat), i < List.length (alP T lo hi (d - 1) (tol n f) 0) → [] = [LI (nL (alP T lo hi (d - 1) (tol n f) 0) i)], c = c, T = T, lo = lo, hi = hi] (Tree.leaf (AV.lst 1 (List.length (alP T lo hi (d - 1) (tol n f) (Int.toNat (hi - lo + (1 : Int))))) fun j => [AV.lst 1 (List.length (nL (alP T lo hi (d - 1) (tol n f) (Int.toNat (hi - lo + (1 : Int)))) j)) fun k => [iI (nthJ (nL (alP T lo hi (d - 1) (tol n f) (Int.toNat (hi - lo + (1 : Int)))) j) k)]]))))))))) (by kernel_rfl) ?_
  intro Q hQ
  obtain ⟨q1, q2, q3, q4, q5⟩ := pre0
  have hs := sumF_bd (f := f) (n := n) (N := 200) (by omega) (fun k hk => by have := q4 k hk; omega) n (Nat.le_refl n)
  simp only [Tree.sat, Bool.and_eq_true, Bool.and_eq_false_iff, decide_eq_true_eq, decide_eq_false_iff_not] at hQ
  simp only [Tree.sat, allP, valEq, inI64, true_and, and_true, decide_eq_true_eq, decide_eq_false_iff_not, beq_iff_eq, beq_eq_false_iff_ne, Bool.not_eq_true', Bool.not_eq_false']
  refine ⟨⟨isRec1 n f, by omega, by omega, fun k hk => by have := q4 k hk; omega⟩, by omega, by omega, fun h1 => ⟨fun h2 => ?_, fun h2 => ⟨⟨by omega, ?_⟩, ⟨by omega, ?_⟩, ?_⟩⟩, fun h1 => ⟨by omega, ⟨by omega, rfl, fun j hj => absurd hj (Nat.not_lt_zero _)⟩, ?_⟩⟩
  · obtain rfl : d = 0 := by omega
    have e : allV T lo hi 0 (tol n f) = [] := by
      unfold allV
      rw [tol_sum, h2]
      rfl
    rw [e] at hQ
    exact ⟨LL [], ⟨True.intro, rfl⟩, hQ.2 (.inr h2)⟩
  · intro k hk a ha
    cases List.mem_singleton.1 ha
    rfl
  · intro k hk a ha
    exact one_of ha (by simp [AV.one, Value.oneCell'])
  · exact ⟨.lst 1 1 (chunk 1 [.lst 1 (0 + n + 1) (catF (0 + n) (catF 0 (fun _ => []) fun k => [i (f k)]) (chunk 1 [i (T - sumF f n)]))]), ⟨rfl, rfl, fun j hj => rfl⟩, hQ.1 ⟨by omega, h2⟩⟩
  · have e : alP T lo hi (d - 1) (tol n f) (hi - lo + 1).toNat = allV T lo hi d (tol n f) := by
      rw [alP_all, show d - 1 + 1 = d by omega]
    rw [e]
    exact ⟨LL (allV T lo hi d (tol n f)), ⟨rfl, rfl, fun j hj => rfl⟩, hQ.2 (.inl (by omega))⟩


theorem rAll_at (d : Nat) (c T lo hi : Int) (n : Nat) (f : Nat → Int) (pre0 : alQ c T lo hi d n f) (pre1 : d = 0 ∨ AllOk' (d - 1)) : SoundCAt Try.prog 51 [.agg [i c, i T, i lo, i hi], .lst 1 n (fun k => [i (f k)])] (.leaf (LL (allV T lo hi d (tol n f)))) := by
  refine SoundCAt.weaken (rAll0_at d c T lo hi n f pre0 pre1) fun Q hQ => ?_
  simp only [Tree.sat, Bool.and_eq_true, decide_eq_true_eq] at hQ ⊢
  refine ⟨fun h => ?_, fun _ => ⟨_, hQ, fun _ _ _ h => h⟩⟩
  obtain ⟨rfl, h2⟩ := h
  refine ⟨_, hQ, fun e w v r => ?_⟩
  have e : allV T lo hi 0 (tol n f) = [tol n f ++ [T - sumF f n]] := by
    unfold allV
    rw [tol_sum, h2]
    rfl
  rw [e]
  exact cat_li n f _ r


theorem All_okC : ∀ d, AllOk' d := by
  intro d
  induction d with
  | zero =>
    refine ⟨⟨_, Try.func51, by kernel_rfl, by kernel_rfl⟩, fun avs t h => ?_⟩
    unfold C_All at h
    split at h
    · cases h
      intro Q hQ
      exact (SoundCAt.same (rAll_at 0 _ _ _ _ _ (col 0 _) hQ.1.2 (.inl rfl)) (.cons (.refl _) (.cons (.lst 1 _ _ _ hQ.1.1) .nil))) Q hQ.2
    · cases h
      intro Q hQ
      exact (SoundCAt.same (rAll_at 0 _ _ _ _ 0 (fun _ => 0) hQ.1 (.inl rfl)) (.cons (.refl _) (.cons (.nil 1 _) .nil))) Q hQ.2
    · cases h
  | succ d ih =>
    refine ⟨⟨_, Try.func51, by kernel_rfl, by kernel_rfl⟩, fun avs t h => ?_⟩
    unfold C_All at h
    split at h
    · cases h
      intro Q hQ
      exact (SoundCAt.same (rAll_at (d + 1) _ _ _ _ _ (col 0 _) hQ.1.2 (.inr ih)) (.cons (.refl _) (.cons (.lst 1 _ _ _ hQ.1.1) .nil))) Q hQ.2
    · cases h
      intro Q hQ
      exact (SoundCAt.same (rAll_at (d + 1) _ _ _ _ 0 (fun _ => 0) hQ.1 (.inr ih)) (.cons (.refl _) (.cons (.nil 1 _) .nil))) Q hQ.2
    · cases h

end Go.Proofs.Ytmdeoobmeokmeaa
/- Contracts of functions of the program, by the engine Sx: what each call comes to. Printed by a program of this repo (sxgen.py). -/
set_option linter.unusedSimpArgs false
set_option linter.unusedVariables false
namespace Go.Proofs.Ytmdeoobmeokmeaa
open Go Go.Sx Go.RowKit

/-- The height of a mark, by a list of volumes. -/
def hgt (w : List Int) (k : Nat) : Int := sumF (nthJ w) k
def itW (c T lo hi : Int) (n : Nat) (a b u v : Nat → Int) (w : List Int) : Bool := itB c T lo hi n a b u v w.length (nthJ w)
/-- All truths. -/
def tuL (c T lo hi : Int) (n : Nat) (a b u v : Nat → Int) : List (List Int) := (allV T lo hi (c.toNat - 1) []).filter (itW c T lo hi n a b u v)
/-- The least and the greatest height of a mark among the first ones. -/
def mnH (L : List (List Int)) (k : Nat) : Nat → Int
  | 0 => hgt (nL L 0) k
  | j + 1 => min (mnH L k j) (hgt (nL L (j + 1)) k)
def mxH (L : List (List Int)) (k : Nat) : Nat → Int
  | 0 => hgt (nL L 0) k
  | j + 1 => max (mxH L k j) (hgt (nL L (j + 1)) k)
/-- The greatest difference, of the first marks. -/
def dbL (L : List (List Int)) : Nat → Int
  | 0 => 0
  | k + 1 => max (dbL L k) (mxH L k (L.length - 1) - mnH L k (L.length - 1))


theorem tol_list (w : List Int) : tol w.length (nthJ w) = w := by
  apply List.ext_getElem
  · simp [tol]
  · intro k h1 h2
    rw [← nthJ_get h2]
    simp [tol]
theorem sumF_congr {f g : Nat → Int} : ∀ {n : Nat}, (∀ k, k < n → f k = g k) → sumF f n = sumF g n
  | 0, _ => rfl
  | n + 1, h => by
    show sumF f n + f n = sumF g n + g n
    rw [sumF_congr (fun k hk => h k (by omega)), h n (by omega)]
theorem hgt_all (w : List Int) : hgt w w.length = w.sum := by
  unfold hgt
  rw [← tol_sum, tol_list]
theorem allV_mem {T lo hi : Int} : ∀ {d : Nat} {bs w : List Int}, w ∈ allV T lo hi d bs ↔ ∃ s : List Int, w = bs ++ s ∧ s.length = d + 1 ∧ (∀ x ∈ s, lo ≤ x ∧ x ≤ hi) ∧ w.sum = T
  | 0, bs, w => by
    unfold allV
    constructor
    · intro h
      split at h
      · rename_i hb
        rw [List.mem_singleton] at h
        subst h
        refine ⟨[T - bs.sum], rfl, rfl, fun x hx => ?_, ?_⟩
        · rw [List.mem_singleton] at hx
          subst hx
          exact (bt_iff _ _ _).1 hb
        · rw [List.sum_append]; simp; omega
      · cases h
    · rintro ⟨s, rfl, hl, hx, hs⟩
      match s, hl with
      | [x], _ =>
        have h1 := hx x (by simp)
        rw [List.sum_append] at hs
        simp at hs
        have e : T - bs.sum = x := by omega
        rw [e, if_pos ((bt_iff _ _ _).2 h1)]
        simp
  | d + 1, bs, w => by
    unfold allV
    rw [List.mem_flatMap]
    constructor
    · rintro ⟨q, hq, h⟩
      obtain ⟨s, rfl, hl, hx, hs⟩ := allV_mem.1 h
      rw [List.mem_range] at hq
      refine ⟨(lo + q) :: s, by simp, by simp [hl], fun x hx' => ?_, hs⟩
      rcases List.mem_cons.1 hx' with rfl | hx'
      · omega
      · exact hx x hx'
    · rintro ⟨s, rfl, hl, hx, hs⟩
      match s, hl with
      | x :: s, hl =>
        have h1 := hx x (by simp)
        refine ⟨(x - lo).toNat, List.mem_range.2 (by omega), allV_mem.2 ⟨s, ?_, by simpa using hl, fun y hy => hx y (List.mem_cons_of_mem _ hy), hs⟩⟩
        rw [show lo + (((x - lo).toNat : Nat) : Int) = x by omega]
        simp
theorem allV_len {T lo hi : Int} : ∀ (d : Nat) (bs : List Int), (allV T lo hi d bs).length ≤ (hi - lo + 1).toNat ^ d
  | 0, bs => by
    unfold allV
    split <;> simp
  | d + 1, bs => by
    unfold allV
    rw [List.length_flatMap, Nat.pow_succ]
    have h : ∀ l : List Nat, (l.map (fun q : Nat => (allV T lo hi d (bs ++ [lo + (q : Int)])).length)).sum ≤ l.length * (hi - lo + 1).toNat ^ d := by
      intro l
      induction l with
      | nil => simp
      | cons q l ih =>
        have := allV_len (T := T) (lo := lo) (hi := hi) d (bs ++ [lo + (q : Int)])
        simp only [List.map_cons, List.sum_cons, List.length_cons, Nat.succ_mul]
        omega
    have := h (List.range (hi - lo + 1).toNat)
    rw [List.length_range] at this
    rw [Nat.mul_comm]
    exact this
theorem itW_iff {c T lo hi : Int} {n : Nat} {a b u v : Nat → Int} {w : List Int} : itW c T lo hi n a b u v w = true → (w.length : Int) = c ∧ (∀ x ∈ w, lo ≤ x ∧ x ≤ hi) ∧ w.sum = T := by
  intro h
  unfold itW itB at h
  simp only [Bool.and_eq_true, decide_eq_true_eq] at h
  obtain ⟨⟨h1, _⟩, h3⟩ := h
  obtain ⟨h4, h5⟩ := cellsB_iff.1 h1
  refine ⟨h4, fun x hx => ?_, ?_⟩
  · obtain ⟨k, hk, rfl⟩ := List.mem_iff_getElem.1 hx
    have := h5 k hk
    rw [← nthJ_get hk]
    exact this
  · rw [show c.toNat = w.length by omega] at h3
    rw [← hgt_all]
    exact h3
theorem tuL_mem {c T lo hi : Int} {n : Nat} {a b u v : Nat → Int} {w : List Int} (hc : 1 ≤ c) : w ∈ tuL c T lo hi n a b u v ↔ itW c T lo hi n a b u v w = true := by
  unfold tuL
  rw [List.mem_filter, allV_mem]
  constructor
  · exact fun h => h.2
  · intro h
    obtain ⟨h1, h2, h3⟩ := itW_iff h
    exact ⟨⟨w, by simp, by omega, h2, h3⟩, h⟩
theorem mnH_le {L : List (List Int)} {k : Nat} : ∀ {j q : Nat}, q ≤ j → mnH L k j ≤ hgt (nL L q) k
  | 0, q, h => by
    obtain rfl : q = 0 := by omega
    exact Int.le_refl _
  | j + 1, q, h => by
    unfold mnH
    rcases (show q ≤ j ∨ q = j + 1 by omega) with h1 | rfl
    · have := mnH_le (L := L) (k := k) h1
      omega
    · omega
theorem mxH_ge {L : List (List Int)} {k : Nat} : ∀ {j q : Nat}, q ≤ j → hgt (nL L q) k ≤ mxH L k j
  | 0, q, h => by
    obtain rfl : q = 0 := by omega
    exact Int.le_refl _
  | j + 1, q, h => by
    unfold mxH
    rcases (show q ≤ j ∨ q = j + 1 by omega) with h1 | rfl
    · have := mxH_ge (L := L) (k := k) h1
      omega
    · omega
theorem mnH_at (L : List (List Int)) (k : Nat) : ∀ j, ∃ q, q ≤ j ∧ mnH L k j = hgt (nL L q) k
  | 0 => ⟨0, Nat.le_refl _, rfl⟩
  | j + 1 => by
    obtain ⟨q, h1, h2⟩ := mnH_at L k j
    unfold mnH
    by_cases h : mnH L k j ≤ hgt (nL L (j + 1)) k
    · exact ⟨q, by omega, by omega⟩
    · exact ⟨j + 1, Nat.le_refl _, by omega⟩
theorem mxH_at (L : List (List Int)) (k : Nat) : ∀ j, ∃ q, q ≤ j ∧ mxH L k j = hgt (nL L q) k
  | 0 => ⟨0, Nat.le_refl _, rfl⟩
  | j + 1 => by
    obtain ⟨q, h1, h2⟩ := mxH_at L k j
    unfold mxH
    by_cases h : hgt (nL L (j + 1)) k ≤ mxH L k j
    · exact ⟨q, by omega, by omega⟩
    · exact ⟨j + 1, Nat.le_refl _, by omega⟩
theorem getD_mem {L : List (List Int)} {q : Nat} (h : q < L.length) : nL L q ∈ L := by
  rw [nL_get h]
  exact List.getElem_mem h
theorem mem_getD {L : List (List Int)} {w : List Int} (h : w ∈ L) : ∃ q, q < L.length ∧ nL L q = w := by
  obtain ⟨q, hq, rfl⟩ := List.mem_iff_getElem.1 h
  exact ⟨q, hq, nL_get hq⟩
/-- The truth that is as high, or as low, as it can be, is among them. -/
theorem sh_mem {c T lo hi : Int} {n : Nat} {a b u v : Nat → Int} (h1 : flt c T lo hi n a b u v = 0) (h2 : okB c T lo hi n a b u v = true) (r : Bool) : tol c.toNat (shV c T lo hi n a b u v r) ∈ tuL c T lo hi n a b u v ∧ ∀ k, k ≤ c.toNat → hgt (tol c.toNat (shV c T lo hi n a b u v r)) k = sumF (shV c T lo hi n a b u v r) k := by
  have hb := tube_bd (flt_iff.1 h1).1
  have hs : ∀ k, k ≤ c.toNat → hgt (tol c.toNat (shV c T lo hi n a b u v r)) k = sumF (shV c T lo hi n a b u v r) k := by
    intro k hk
    exact sumF_congr fun j hj => tol_get (by omega)
  refine ⟨(tuL_mem (by omega)).2 ?_, hs⟩
  have hm : ((tol c.toNat (shV c T lo hi n a b u v r)).length : Int) = c := by rw [tol_len]; omega
  refine (it_tr h1 hm).2 ?_
  have ht := (sh_it h1 h2 r).1
  have e : ∀ x, x ≤ c.toNat → sumF (nthJ (tol c.toNat (shV c T lo hi n a b u v r))) x = sumF (shV c T lo hi n a b u v r) x := hs
  have hr := rdOk_of (n := n) (a := a) (b := b) (u := u) (v := v) hb.1 (flt_iff.1 h1).2.2
  obtain ⟨t1, t2, t3, t4⟩ := ht
  refine ⟨rfl, ?_, fun k hk => ?_, fun j hj => ?_⟩
  · rw [e _ (Nat.le_refl _)]; exact t2
  · rw [e _ (by omega), e _ (by omega)]; exact t3 k hk
  · have := hr j hj
    rw [e _ (by omega), e _ (by omega)]
    refine ⟨(t4 j hj).1, fun hbc => ?_⟩
    rw [e _ (by omega)]
    exact (t4 j hj).2 hbc
theorem tu_ok {c T lo hi : Int} {n : Nat} {a b u v : Nat → Int} (h1 : flt c T lo hi n a b u v = 0) : okB c T lo hi n a b u v = true ↔ tuL c T lo hi n a b u v ≠ [] := by
  have hb := tube_bd (flt_iff.1 h1).1
  have hr := rdOk_of (n := n) (a := a) (b := b) (u := u) (v := v) hb.1 (flt_iff.1 h1).2.2
  constructor
  · intro h2 h3
    have := (sh_mem h1 h2 true).1
    rw [h3] at this
    cases this
  · intro h
    obtain ⟨w, hw⟩ := List.exists_mem_of_ne_nil _ h
    have h2 := (tuL_mem (by omega)).1 hw
    exact ok_of_tr hb.2.1 hr ((it_tr h1 (itW_iff h2).1).1 h2)
/-- The ends of the bounds, by all truths. -/
theorem tu_bd {c T lo hi : Int} {n : Nat} {a b u v : Nat → Int} (h1 : flt c T lo hi n a b u v = 0) (h2 : okB c T lo hi n a b u v = true) {k : Nat} (hk : k ≤ c.toNat) : mnH (tuL c T lo hi n a b u v) k ((tuL c T lo hi n a b u v).length - 1) = -(fwB c T lo hi n a b u v k 0) ∧ mxH (tuL c T lo hi n a b u v) k ((tuL c T lo hi n a b u v).length - 1) = fwB c T lo hi n a b u v 0 k := by
  have hb := tube_bd (flt_iff.1 h1).1
  have hr := rdOk_of (n := n) (a := a) (b := b) (u := u) (v := v) hb.1 (flt_iff.1 h1).2.2
  have hne := (tu_ok h1).1 h2
  have hl : 0 < (tuL c T lo hi n a b u v).length := List.length_pos_iff.2 hne
  have hin : ∀ w, w ∈ tuL c T lo hi n a b u v → -(fwB c T lo hi n a b u v k 0) ≤ hgt w k ∧ hgt w k ≤ fwB c T lo hi n a b u v 0 k := by
    intro w hw
    have h3 := (tuL_mem (by omega)).1 hw
    exact tr_bd hb.2.1 hr ((it_tr h1 (itW_iff h3).1).1 h3) hk
  have hs := sh_sum h2
  obtain ⟨g1, g2⟩ := sh_mem h1 h2 true
  obtain ⟨g3, g4⟩ := sh_mem h1 h2 false
  obtain ⟨q1, q2, q3⟩ := mem_getD g1
  obtain ⟨p1, p2, p3⟩ := mem_getD g3
  have e1 := g2 k hk
  have e2 := g4 k hk
  rw [hs.1, ← q3] at e1
  rw [hs.2, ← p3] at e2
  constructor
  · obtain ⟨q, hq, he⟩ := mnH_at (tuL c T lo hi n a b u v) k ((tuL c T lo hi n a b u v).length - 1)
    have h4 := hin _ (getD_mem (L := tuL c T lo hi n a b u v) (q := q) (by omega))
    have h5 := mnH_le (L := tuL c T lo hi n a b u v) (k := k) (j := (tuL c T lo hi n a b u v).length - 1) (q := p1) (by omega)
    rw [e2] at h5
    have h7 : mnH (tuL c T lo hi n a b u v) k ((tuL c T lo hi n a b u v).length - 1) ≤ -fwM c.toNat T lo hi n a b u v k 0 := h5
    have h6 : fwM c.toNat T lo hi n a b u v k 0 = fwB c T lo hi n a b u v k 0 := rfl
    omega
  · obtain ⟨q, hq, he⟩ := mxH_at (tuL c T lo hi n a b u v) k ((tuL c T lo hi n a b u v).length - 1)
    have h4 := hin _ (getD_mem (L := tuL c T lo hi n a b u v) (q := q) (by omega))
    have h5 := mxH_ge (L := tuL c T lo hi n a b u v) (k := k) (j := (tuL c T lo hi n a b u v).length - 1) (q := q1) (by omega)
    rw [e1] at h5
    have h7 : fwM c.toNat T lo hi n a b u v 0 k ≤ mxH (tuL c T lo hi n a b u v) k ((tuL c T lo hi n a b u v).length - 1) := h5
    have h6 : fwM c.toNat T lo hi n a b u v 0 k = fwB c T lo hi n a b u v 0 k := rfl
    omega
theorem tu_db {c T lo hi : Int} {n : Nat} {a b u v : Nat → Int} (h1 : flt c T lo hi n a b u v = 0) (h2 : okB c T lo hi n a b u v = true) : ∀ k, k ≤ c.toNat + 1 → dbL (tuL c T lo hi n a b u v) k = dbF (sfB c T lo hi n a b u v) k
  | 0, _ => rfl
  | k + 1, hk => by
    have ih := tu_db h1 h2 k (by omega)
    have hb := tube_bd (flt_iff.1 h1).1
    obtain ⟨e1, e2⟩ := tu_bd h1 h2 (k := k) (by omega)
    unfold dbL dbF
    rw [ih, e1, e2, sfB_low, sfB_high _ _ _ _ _ _ _ _ _ (by omega)]

end Go.Proofs.Ytmdeoobmeokmeaa
/- Contracts of functions of the program, by the engine Sx: what each call comes to. Printed by a program of this repo (sxgen.py). -/
set_option linter.unusedSimpArgs false
set_option linter.unusedVariables false
namespace Go.Proofs.Ytmdeoobmeokmeaa
open Go Go.Sx Go.RowKit

/-- A list of lists, as it is seen. -/
def lolOf (N : Nat) (F : Nat → List AV) : List (List Int) := (List.range N).map fun k => match F k with
  | [.lst 1 m g] => tol m (col 0 g)
  | _ => []
def isLL (N : Nat) (F : Nat → List AV) : Prop := ∀ k, k < N → F k = [LI (nL (lolOf N F) k)]
/-- Lists, not too long, not too many. -/
def smLL (L : List (List Int)) : Prop := L.length ≤ 1000000 ∧ ∀ k, k < L.length → (nL L k).length ≤ 100
def flT (c T lo hi : Int) (n : Nat) (a b u v : Nat → Int) (L : List (List Int)) (k : Nat) : List (List Int) := (L.take k).filter (itW c T lo hi n a b u v)


theorem lol_len (N : Nat) (F : Nat → List AV) : (lolOf N F).length = N := by simp [lolOf]
theorem lol_LL (L : List (List Int)) : lolOf L.length (fun k => [LI (nL L k)]) = L := by
  apply List.ext_getElem
  · simp [lolOf]
  · intro k h1 h2
    simp only [lolOf, List.getElem_map, List.getElem_range]
    show tol (nL L k).length (nthJ (nL L k)) = _
    rw [tol_list, nL_get h2]
theorem isLL_LL (L : List (List Int)) : isLL L.length (fun k => [LI (nL L k)]) := fun k _ => by
  rw [lol_LL]
theorem flT_all (c T lo hi : Int) (n : Nat) (a b u v : Nat → Int) (L : List (List Int)) : flT c T lo hi n a b u v L L.length = L.filter (itW c T lo hi n a b u v) := by
  unfold flT
  rw [List.take_length]
theorem flT_yes {c T lo hi : Int} {n : Nat} {a b u v : Nat → Int} {L : List (List Int)} {k : Nat} (hk : k < L.length) (h : itB c T lo hi n a b u v (nL L k).length (nthJ (nL L k)) = true) : flT c T lo hi n a b u v L (k + 1) = flT c T lo hi n a b u v L k ++ [nL L k] := by
  have h' : itW c T lo hi n a b u v L[k] = true := by
    rw [← nL_get hk]
    exact h
  unfold flT
  rw [List.take_succ_eq_append_getElem hk, List.filter_append, nL_get hk]
  simp [h']
theorem flT_no {c T lo hi : Int} {n : Nat} {a b u v : Nat → Int} {L : List (List Int)} {k : Nat} (hk : k < L.length) (h : itB c T lo hi n a b u v (nL L k).length (nthJ (nL L k)) = false) : flT c T lo hi n a b u v L (k + 1) = flT c T lo hi n a b u v L k := by
  have h' : itW c T lo hi n a b u v L[k] = false := by
    rw [← nL_get hk]
    exact h
  unfold flT
  rw [List.take_succ_eq_append_getElem hk, List.filter_append]
  simp [h']
theorem flT_len (c T lo hi : Int) (n : Nat) (a b u v : Nat → Int) (L : List (List Int)) (k : Nat) : (flT c T lo hi n a b u v L k).length ≤ L.length := by
  unfold flT
  have h1 := List.length_filter_le (itW c T lo hi n a b u v) (L.take k)
  rw [List.length_take] at h1
  omega
theorem catL1 (L : List (List Int)) (w : List Int) {j : Nat} (h : j < L.length + 1) : catF L.length (fun j => [LI (nL L j)]) (chunk 1 [LI w]) j = [LI (nL (L ++ [w]) j)] := by
  unfold catF
  rw [nL_app]
  by_cases h1 : j < L.length
  · rw [if_pos h1, decide_eq_true h1, show j - L.length = 0 by omega]; rfl
  · rw [if_neg h1, decide_eq_false h1, show j - L.length = 0 by omega]; rfl

noncomputable def E_ts (c T lo hi : Int) (n : Nat) (a b u v : Nat → Int) (L : List (List Int)) : St := (some
  {
    σ :=
      [AV.agg
          [AV.x (Value.int IntKind.i64 c), AV.x (Value.int IntKind.i64 T), AV.x (Value.int IntKind.i64 lo),
            AV.x (Value.int IntKind.i64 hi)],
        AV.lst (1 : Nat) (List.length L) fun k =>
          [AV.lst (1 : Nat) (List.length (nL L k)) fun k_1 => [AV.x (Value.int IntKind.i64 (nthJ (nL L k) k_1))]],
        AV.lst (4 : Nat) n fun k =>
          [AV.x (Value.int IntKind.i64 (a k)), AV.x (Value.int IntKind.i64 (b k)), AV.x (Value.int IntKind.i64 (u k)),
            AV.x (Value.int IntKind.i64 (v k))],
        AV.ptr (0 : Nat) (0 : Nat), AV.top, AV.top, AV.x (Value.slice none (0 : Nat) (0 : Nat)), AV.top, AV.top, AV.top,
        AV.top, AV.top, AV.top, AV.top, AV.top, AV.top, AV.top, AV.top, AV.top, AV.top, AV.top, AV.top, AV.top, AV.top,
        AV.top, AV.top, AV.top, AV.top, AV.top, AV.top],
    m :=
      [((900 : Nat), Res.row (58 : Nat) (1 : Nat) (0 : Nat) fun x => []),
        ((0 : Nat),
          Res.cells (25 : Nat)
            [AV.x (Value.int IntKind.i64 c), AV.x (Value.int IntKind.i64 T), AV.x (Value.int IntKind.i64 lo),
              AV.x (Value.int IntKind.i64 hi)])],
    nx := (901 : Nat) } : Option St).getD { σ := [], m := [], nx := 0 }
noncomputable def B_ts : Code := loopBody (loopAt (bodyOf Try.f53) 0)
noncomputable def inv_ts (c T lo hi : Int) (n : Nat) (a b u v : Nat → Int) (L : List (List Int)) (k : Nat) : St := { σ := ovrS [(7, .row 900), (8, i k)] (E_ts c T lo hi n a b u v L).σ, m := [(900, .row 58 1 (flT c T lo hi n a b u v L k).length (fun j => [LI (nL (flT c T lo hi n a b u v L k) j)])), (0, .cells 25 [i c, i T, i lo, i hi])], nx := (E_ts c T lo hi n a b u v L).nx }
noncomputable def out_ts (c T lo hi : Int) (n : Nat) (a b u v : Nat → Int) (L : List (List Int)) (k : Nat) : AEx → Option St := fun ex => match ex with
  | .exit 0 => some { σ := ovrS [(7, .row 900)] (E_ts c T lo hi n a b u v L).σ, m := [(900, .row 58 1 (flT c T lo hi n a b u v L L.length).length (fun j => [LI (nL (flT c T lo hi n a b u v L L.length) j)])), (0, .cells 25 [i c, i T, i lo, i hi])], nx := (E_ts c T lo hi n a b u v L).nx }
  | _ => none
noncomputable def T_ts (c T lo hi : Int) (n : Nat) (a b u v : Nat → Int) (L : List (List Int)) : CT := .leaf (.exit 0, ( out_ts c T lo hi n a b u v L 0 (.exit 0)).getD (E_ts c T lo hi n a b u v L))
noncomputable def LS_ts (c T lo hi : Int) (n : Nat) (a b u v : Nat → Int) (L : List (List Int)) : LSpec := normSp [(.slot 7, 900, 58, 1)] (sumL (inv_ts c T lo hi n a b u v L (0)) (T_ts c T lo hi n a b u v L))
set_option maxRecDepth 100000 in
theorem ts_ls (c T lo hi : Int) (n : Nat) (a b u v : Nat → Int) (L : List (List Int)) (pre0 : flt c T lo hi n a b u v = 0) (pre1 : smLL L) : LSound Try.prog (.loop B_ts) (LS_ts c T lo hi n a b u v L) := by
  refine loop_roundsN [(.slot 7, 900, 58, 1)] (G := [(43, S_rIsTruth)]) (L := []) (SoundG.cons rIsTruth_ok (SoundG.nil _)) mixed noLoops (X := Nat) (inv_ts c T lo hi n a b u v L) (fun k => k ≤ L.length) (fun k => L.length - k) (out_ts c T lo hi n a b u v L) (x0 := 0) (by simp) ?_ ?_ ?_
  · rintro k
    kernel_rfl
  · rintro k y E h
    unfold out_ts at h
    split at h
    · cases h; kernel_rfl
    · cases h
  · rintro Q hQ k hx
    refine ⟨(k + 1), ?_⟩
    have e : roundN Try.prog [(43, S_rIsTruth)] [] [(.slot 7, 900, 58, 1)] B_ts (inv_ts c T lo hi n a b u v L k) (inv_ts c T lo hi n a b u v L ((k + 1))) (out_ts c T lo hi n a b u v L k) = (Tree.branch (decide ((↑k : Int) < (↑(List.length L) : Int))) (Tree.need [(0 : Int) ≤ (↑k : Int) ∧ (↑k : Int) < (↑(List.length L) : Int)] (Tree.need [isRec 4 n fun k => [iI (a k), iI (b k), iI (u k), iI (v k)], isRec 1 (List.length (nL L k)) fun k_1 => [iI (nthJ (nL L k) k_1)], List.length (nL L k) ≤ 100000, flt c T lo hi n a b u v = (0 : Int)] (Tree.branch (itB c T lo hi n a b u v (List.length (nL L k)) (nthJ (nL L k))) (Tree.need [(0 : Int) ≤ (↑k : Int) ∧ (↑k : Int) < (↑(List.length L) : Int)] (Tree.need [(List.length (flT c T lo hi n a b u v L k) + 1) * 24 ≤ 140737488355328, ∀ (i : Nat), i < 1 → ∀ (a : AV), a ∈ chunk 1 [AV.lst 1 (List.length (nL L k)) fun k_1 => [iI (nthJ (nL L k) k_1)]] i → AV.one a = true] (Tree.need [inI64 ((↑k : Int) + (1 : Int))] (Tree.need [AV.agg [iI c, iI T, iI lo, iI hi] = AV.agg [iI c, iI T, iI lo, iI hi], (AV.lst 1 (List.length L) fun k => [AV.lst 1 (List.length (nL L k)) fun k_1 => [iI (nthJ (nL L k) k_1)]]) = AV.lst 1 (List.length L) fun k => [AV.lst 1 (List.length (nL L k)) fun k_1 => [iI (nthJ (nL L k) k_1)]], (AV.lst 4 n fun k => [iI (a k), iI (b k), iI (u k), iI (v k)]) = AV.lst 4 n fun k => [iI (a k), iI (b k), iI (u k), iI (v k)], AV.ptr 0 0 = AV.ptr 0 0, AV.x (Value.slice none 0 0) = AV.x (Value.slice none 0 0), AV.row 900 = AV.row 900, (↑k : Int) + (1 : Int) = (↑(k + 1) : Int), List.length (flT c T lo hi n a b u v L k) + 1 = List.length (flT c T lo hi n a b u v L (k + 1)), ∀ (i : Nat), i < List.length (flT c T lo hi n a b u v L (k + 1)) → catF (List.length (flT c T lo hi n a b u v L k)) (fun j => [LI (nL (flT c T lo hi n a b u v L k) j)]) (chunk 1 [AV.lst 1 (List.length (nL L k)) fun k_1 => [iI (nthJ (nL L k) k_1)]]) i = [LI (nL (flT c T lo hi n a b u v L (k + 1)) i)], c = c, T = T, lo = lo, hi = hi] (Tree.leaf AEx.normal))))) (Tree.need [inI64 ((↑k : Int) + (1 : Int))] (Tree.need [AV.agg [iI c, iI T, iI lo, iI hi] = AV.agg [iI c, iI T, iI lo, iI hi], (AV.lst 1 (List.length L) fun k => [AV.lst 1 (List.length (nL L k)) fun k_1 => [iI (nthJ (nL L k) k_1)]]) = AV.lst 1 (List.length L) fun k => [AV.lst 1 (List.length (nL L k)) fun k_1 => [iI (nthJ (nL L k) k_1)]], (AV.lst 4 n fun k => [iI (a k), iI (b k), iI (u k), iI (v k)]) = AV.lst 4 n fun k => [iI (a k), iI (b k), iI (u k), iI (v k)], AV.ptr 0 0 = AV.ptr 0 0, AV.x (Value.slice none 0 0) = AV.x (Value.slice none 0 0), AV.row 900 = AV.row 900, (↑k : Int) + (1 : Int) = (↑(k + 1) : Int), List.length (flT c T lo hi n a b u v L k) = List.length (flT c T lo hi n a b u v L (k + 1)), ∀ (i : Nat), i < List.length (flT c T lo hi n a b u v L (k + 1)) → [LI (nL (flT c T lo hi n a b u v L k) i)] = [LI (nL (flT c T lo hi n a b u v L (k + 1)) i)], c = c, T = T, lo = lo, hi = hi] (Tree.leaf AEx.normal)))))) (Tree.need [AV.agg [iI c, iI T, iI lo, iI hi] = AV.agg [iI c, iI T, iI lo, iI hi], (AV.lst 1 (List.length L) fun k => [AV.lst 1 (List.length (nL L k)) fun k_1 => [iI (nthJ (nL L k) k_1)]]) = AV.lst 1 (List.length L) fun k => [AV.lst 1 (List.length (nL L k)) fun k_1 => [iI (nthJ (nL L k) k_1)]], (AV.lst 4 n fun k => [iI (a k), iI (b k), iI (u k), iI (v k)]) = AV.lst 4 n fun k => [iI (a k), iI (b k), iI (u k), iI (v k)], AV.ptr 0 0 = AV.ptr 0 0, AV.x (Value.slice none 0 0) = AV.x (Value.slice none 0 0), AV.row 900 = AV.row 900, List.length (flT c T lo hi n a b u v L k) = List.length (flT c T lo hi n a b u v L (List.length L)), ∀ (i : Nat), i < List.length (flT c T lo hi n a b u v L (List.length L)) → [LI (nL (flT c T lo hi n a b u v L k) i)] = [LI (nL (flT c T lo hi n a b u v L (List.length L)) i)], c = c, T = T, lo = lo, hi = hi] (Tree.leaf (AEx.exit 0)))) := by kernel_rfl
    rw [e]
    simp only [T_ts, out_ts, Tree.sat, Option.getD_some] at hQ
    have hl := flT_len c T lo hi n a b u v L k
    obtain ⟨s1, s2⟩ := pre1
    have s2 := s2 k
    simp only [Tree.sat, allP, fitP, fitL, valEq, inI64, true_and, and_true, decide_eq_true_eq, decide_eq_false_iff_not, Int.toNat_natCast, c10, c40, c41, c42, c43]
    clear e
    refine ⟨fun h => ⟨by omega, ⟨isRec4 n a b u v, isRec1 _ _, by have := s2 (by omega); omega, pre0⟩, fun h2 => ?_, fun h2 => ?_⟩, fun h => ?_⟩
    · rw [flT_yes (by omega) h2, List.length_append]
      (repeat' first | with_reducible apply And.intro | with_reducible intro _)
      all_goals first | exact True.intro | omega | with_reducible rfl | exact one_of (by assumption) (by simp [AV.one, Value.oneCell']) | exact catL1 _ _ (by assumption) | rfl
    · rw [flT_no (by omega) h2]
      (repeat' first | with_reducible apply And.intro | with_reducible intro _)
      all_goals first | exact True.intro | omega | with_reducible rfl | rfl
    · obtain rfl : k = L.length := by omega
      (repeat' first | with_reducible apply And.intro | with_reducible intro _)
      all_goals first | exact True.intro | omega | with_reducible rfl | (rename_i E hE; cases hE; exact hQ) | rfl

set_option maxRecDepth 100000 in
theorem rTruths_at (c T lo hi : Int) (n : Nat) (a b u v : Nat → Int) (L : List (List Int)) (pre0 : flt c T lo hi n a b u v = 0) (pre1 : smLL L) : SoundCAt Try.prog 53 [.agg [i c, i T, i lo, i hi], LL L, rds n a b u v] (.leaf (LL (L.filter (itW c T lo hi n a b u v)))) := by
  refine soundCAt_fin (G := [(43, S_rIsTruth)]) (X := { R := [], H := [] }) (L := [LS_ts c T lo hi n a b u v L]) (SoundG.cons rIsTruth_ok (SoundG.nil _)) (SoundX.of (SoundRL.nil _) (SoundHL.nil _)) mixed Try.func53 (show Try.f53.body = some (bodyOf Try.f53) by kernel_rfl) (one_loop (fun cj hcj => by
    have e : loopAt (bodyOf Try.f53) 0 = some (.loop B_ts) := by kernel_rfl
    rw [e] at hcj; cases hcj
    exact (ts_ls c T lo hi n a b u v L pre0 pre1).N)) (t := (Tree.need [AV.agg [iI c, iI T, iI lo, iI hi] = AV.agg [iI c, iI T, iI lo, iI hi], (AV.lst 1 (List.length L) fun k => [AV.lst 1 (List.length (nL L k)) fun k_1 => [iI (nthJ (nL L k) k_1)]]) = AV.lst 1 (List.length L) fun k => [AV.lst 1 (List.length (nL L k)) fun k_1 => [iI (nthJ (nL L k) k_1)]], (AV.lst 4 n fun k => [iI (a k), iI (b k), iI (u k), iI (v k)]) = AV.lst 4 n fun k => [iI (a k), iI (b k), iI (u k), iI (v k)], AV.ptr 0 0 = AV.ptr 0 0, AV.x (Value.slice none 0 0) = AV.x (Value.slice none 0 0), AV.row 900 = AV.row 900, (0 : Int) = (↑(0 : Nat) : Int), 0 = List.length (flT c T lo hi n a b u v L 0), ∀ (i : Nat), i < List.length (flT c T lo hi n a b u v L 0) → [] = [LI (nL (flT c T lo hi n a b u v L 0) i)], c = c, T = T, lo = lo, hi = hi] (Tree.leaf (AV.lst 1 (List.length (flT c T lo hi n a b u v L (List.length L))) fun j => [AV.lst 1 (List.length (nL (flT c T lo hi n a b u v L (List.length L)) j)) fun k => [iI (nthJ (nL (flT c T lo hi n a b u v L (List.length L)) j) k)]])))) (by kernel_rfl) ?_
  intro Q hQ
  have hQ : Q (LL (L.filter (itW c T lo hi n a b u v))) := hQ
  simp only [Tree.sat, allP, valEq, inI64, true_and, and_true]
  refine ⟨⟨rfl, rfl, fun j hj => absurd hj (Nat.not_lt_zero _)⟩, LL (L.filter (itW c T lo hi n a b u v)), ?_, hQ⟩
  rw [← flT_all]
  exact ⟨rfl, rfl, fun j hj => rfl⟩


noncomputable def C_rTruths : CSpec := fun l => match l with
  | [.agg [.x (.int .i64 c), .x (.int .i64 T), .x (.int .i64 lo), .x (.int .i64 hi)], .lst 1 N F, .lst 4 n f] => some (.need [isRec 4 n f, isLL N F, flt c T lo hi n (col 0 f) (col 1 f) (col 2 f) (col 3 f) = 0, smLL (lolOf N F)] (.leaf (LL ((lolOf N F).filter (itW c T lo hi n (col 0 f) (col 1 f) (col 2 f) (col 3 f))))))
  | _ => none


theorem sameLL {N : Nat} {F : Nat → List AV} (h : isLL N F) : Same (.lst 1 N F) (LL (lolOf N F)) := by
  have := Same.lst 1 N F (fun k => [LI (nL (lolOf N F) k)]) h
  have e : AV.lst 1 N (fun k => [LI (nL (lolOf N F) k)]) = LL (lolOf N F) := by rw [show LL (lolOf N F) = AV.lst 1 (lolOf N F).length (fun k => [LI (nL (lolOf N F) k)]) from rfl, lol_len]
  rw [← e]
  exact this
theorem rTruths_okC : Enters Try.prog 53 ∧ ∀ avs t, C_rTruths avs = some t → SoundCAt Try.prog 53 avs t := by
  refine ⟨⟨_, Try.func53, by kernel_rfl, by kernel_rfl⟩, ?_⟩
  intro avs t h
  unfold C_rTruths at h
  split at h
  · cases h
    intro Q hQ
    obtain ⟨⟨h1, h2, h3, h4⟩, hQ⟩ := hQ
    exact (SoundCAt.same (rTruths_at _ _ _ _ _ (col 0 _) (col 1 _) (col 2 _) (col 3 _) _ h3 h4) (.cons (.refl _) (.cons (sameLL h2) (.cons (.lst 4 _ _ _ h1) .nil)))) Q hQ
  · cases h

end Go.Proofs.Ytmdeoobmeokmeaa
/- Contracts of functions of the program, by the engine Sx: what each call comes to. Printed by a program of this repo (sxgen.py). -/
set_option linter.unusedSimpArgs false
set_option linter.unusedVariables false
namespace Go.Proofs.Ytmdeoobmeokmeaa
open Go Go.Sx Go.RowKit

/-- Lists of so many numbers, none too great. -/
def okLL (c : Nat) (L : List (List Int)) : Prop := c ≤ 100 ∧ 1 ≤ L.length ∧ L.length ≤ 1000000 ∧ ∀ j, j < L.length → (nL L j).length = c ∧ ∀ k, k < c → -1000000 ≤ nthJ (nL L j) k ∧ nthJ (nL L j) k ≤ 1000000


theorem hgt_bd {c : Nat} {L : List (List Int)} (h : okLL c L) {j m : Nat} (hj : j < L.length) (hm : m ≤ c) : -100000000 ≤ hgt (nL L j) m ∧ hgt (nL L j) m ≤ 100000000 := by
  obtain ⟨h1, h2, h3, h4⟩ := h
  obtain ⟨h5, h6⟩ := h4 j hj
  have := sumF_bd (f := nthJ (nL L j)) (n := c) (N := 1000000) (by omega) h6 m hm
  show -100000000 ≤ sumF (nthJ (nL L j)) m ∧ sumF (nthJ (nL L j)) m ≤ 100000000
  omega
theorem mnH_bd {c : Nat} {L : List (List Int)} (h : okLL c L) {j m : Nat} (hj : j < L.length) (hm : m ≤ c) : (-100000000 ≤ mnH L m j ∧ mnH L m j ≤ 100000000) ∧ -100000000 ≤ mxH L m j ∧ mxH L m j ≤ 100000000 := by
  obtain ⟨q, q1, q2⟩ := mnH_at L m j
  obtain ⟨p, p1, p2⟩ := mxH_at L m j
  rw [q2, p2]
  exact ⟨hgt_bd h (by omega) hm, hgt_bd h (by omega) hm⟩

noncomputable def E_bd (c : Nat) (L : List (List Int)) (mk : Int) : St := (some
  {
    σ :=
      [AV.lst (1 : Nat) (List.length L) fun k =>
          [AV.lst (1 : Nat) (List.length (nL L k)) fun k_1 => [AV.x (Value.int IntKind.i64 (nthJ (nL L k) k_1))]],
        AV.x (Value.int IntKind.i64 mk), AV.top, AV.top, AV.ptr (0 : Nat) (0 : Nat), AV.top,
        AV.ptr (10 : Nat) (0 : Nat), AV.top, AV.top, AV.top, AV.top, AV.top, AV.top, AV.top, AV.top, AV.top, AV.top,
        AV.top, AV.top, AV.top, AV.top, AV.top, AV.top, AV.top, AV.top, AV.top, AV.top, AV.top, AV.top, AV.top, AV.top,
        AV.top, AV.top, AV.top, AV.top, AV.top, AV.top, AV.top],
    m :=
      [((10 : Nat),
          Res.cells (23 : Nat)
            [AV.x (Value.int IntKind.i64 (sumF (nthJ (nL L (Int.toNat (0 : Int)))) (Int.toNat mk))),
              AV.x (Value.int IntKind.i64 (sumF (nthJ (nL L (Int.toNat (0 : Int)))) (Int.toNat mk)))]),
        ((0 : Nat),
          Res.cells (23 : Nat) [AV.x (Value.int IntKind.i64 (0 : Int)), AV.x (Value.int IntKind.i64 (0 : Int))])],
    nx := (13 : Nat) } : Option St).getD { σ := [], m := [], nx := 0 }
noncomputable def B_bd : Code := loopBody (loopAt (bodyOf Try.f38) 0)
noncomputable def inv_bd (c : Nat) (L : List (List Int)) (mk : Int) (k : Nat) : St := { σ := ovrS [(7, i ((k : Int) + 1)), (5, i (hgt (nL L k) mk.toNat))] (E_bd c L mk).σ, m := [(10, .cells 23 [i (mnH L mk.toNat k), i (mxH L mk.toNat k)]), (0, .cells 23 [i 0, i 0])], nx := (E_bd c L mk).nx }
noncomputable def out_bd (c : Nat) (L : List (List Int)) (mk : Int) (k : Nat) : AEx → Option St := fun ex => match ex with
  | .exit 0 => some { σ := ovrS [(7, i L.length), (5, i (hgt (nL L (L.length - 1)) mk.toNat))] (E_bd c L mk).σ, m := [(10, .cells 23 [i (mnH L mk.toNat (L.length - 1)), i (mxH L mk.toNat (L.length - 1))]), (0, .cells 23 [i 0, i 0])], nx := (E_bd c L mk).nx }
  | _ => none
noncomputable def T_bd (c : Nat) (L : List (List Int)) (mk : Int) : CT := .leaf (.exit 0, ( out_bd c L mk 0 (.exit 0)).getD (E_bd c L mk))
noncomputable def LS_bd (c : Nat) (L : List (List Int)) (mk : Int) : LSpec := normSp [] (sumL (inv_bd c L mk (0)) (T_bd c L mk))
set_option maxRecDepth 100000 in
theorem bd_ls (c : Nat) (L : List (List Int)) (mk : Int) (pre0 : okLL c L) (pre1 : 0 ≤ mk ∧ mk ≤ c) : LSound Try.prog (.loop B_bd) (LS_bd c L mk) := by
  refine loop_roundsX [] (E := { R := [], H := [] }) (G := [(40, S_rHeight)]) (L := []) (SoundG.cons rHeight_ok (SoundG.nil _)) (SoundX.of (SoundRL.nil _) (SoundHL.nil _)) mixed noLoops (X := Nat) (inv_bd c L mk) (fun k => k + 1 ≤ L.length) (fun k => L.length - (k + 1)) (out_bd c L mk) (x0 := 0) (by have := pre0.2.1; omega) ?_ ?_ ?_
  · rintro k
    kernel_rfl
  · rintro k y E h
    unfold out_bd at h
    split at h
    · cases h; kernel_rfl
    · cases h
  · rintro Q hQ k hx
    refine ⟨(k + 1), ?_⟩
    have e : roundX Try.prog [(40, S_rHeight)] { R := [], H := [] } [] [] B_bd (inv_bd c L mk k) (inv_bd c L mk ((k + 1))) (out_bd c L mk k) = (Tree.branch (decide ((↑k : Int) + (1 : Int) < (↑(List.length L) : Int))) (Tree.need [(0 : Int) ≤ (↑k : Int) + (1 : Int) ∧ (↑k : Int) + (1 : Int) < (↑(List.length L) : Int)] (Tree.need [isRec 1 (List.length (nL L (Int.toNat ((↑k : Int) + (1 : Int))))) fun k_1 => [iI (nthJ (nL L (Int.toNat ((↑k : Int) + (1 : Int)))) k_1)], mk ≤ (↑(List.length (nL L (Int.toNat ((↑k : Int) + (1 : Int))))) : Int), List.length (nL L (Int.toNat ((↑k : Int) + (1 : Int)))) ≤ 100, ∀ (k_1 : Nat), k_1 < List.length (nL L (Int.toNat ((↑k : Int) + (1 : Int)))) → (-1000000 : Int) ≤ nthJ (nL L (Int.toNat ((↑k : Int) + (1 : Int)))) k_1 ∧ nthJ (nL L (Int.toNat ((↑k : Int) + (1 : Int)))) k_1 ≤ (1000000 : Int)] (Tree.need [inI64 ((↑k : Int) + (1 : Int) + (1 : Int))] (Tree.need [(AV.lst 1 (List.length L) fun k => [AV.lst 1 (List.length (nL L k)) fun k_1 => [iI (nthJ (nL L k) k_1)]]) = AV.lst 1 (List.length L) fun k => [AV.lst 1 (List.length (nL L k)) fun k_1 => [iI (nthJ (nL L k) k_1)]], mk = mk, AV.ptr 0 0 = AV.ptr 0 0, sumF (nthJ (nL L (Int.toNat ((↑k : Int) + (1 : Int))))) (Int.toNat mk) = hgt (nL L (k + 1)) (Int.toNat mk), AV.ptr 10 0 = AV.ptr 10 0, (↑k : Int) + (1 : Int) + (1 : Int) = (↑(k + 1) : Int) + (1 : Int), min (mnH L (Int.toNat mk) k) (sumF (nthJ (nL L (Int.toNat ((↑k : Int) + (1 : Int))))) (Int.toNat mk)) = mnH L (Int.toNat mk) (k + 1), max (mxH L (Int.toNat mk) k) (sumF (nthJ (nL L (Int.toNat ((↑k : Int) + (1 : Int))))) (Int.toNat mk)) = mxH L (Int.toNat mk) (k + 1), (0 : Int) = (0 : Int), (0 : Int) = (0 : Int)] (Tree.leaf AEx.normal))))) (Tree.need [(AV.lst 1 (List.length L) fun k => [AV.lst 1 (List.length (nL L k)) fun k_1 => [iI (nthJ (nL L k) k_1)]]) = AV.lst 1 (List.length L) fun k => [AV.lst 1 (List.length (nL L k)) fun k_1 => [iI (nthJ (nL L k) k_1)]], mk = mk, AV.ptr 0 0 = AV.ptr 0 0, hgt (nL L k) (Int.toNat mk) = hgt (nL L (List.length L - 1)) (Int.toNat mk), AV.ptr 10 0 = AV.ptr 10 0, (↑k : Int) + (1 : Int) = (↑(List.length L) : Int), mnH L (Int.toNat mk) k = mnH L (Int.toNat mk) (List.length L - 1), mxH L (Int.toNat mk) k = mxH L (Int.toNat mk) (List.length L - 1), (0 : Int) = (0 : Int), (0 : Int) = (0 : Int)] (Tree.leaf (AEx.exit 0)))) := by kernel_rfl
    rw [e]
    simp only [T_bd, out_bd, Tree.sat, Option.getD_some] at hQ
    obtain ⟨p1, p2, p3, p4⟩ := pre0
    have e1 : ((k : Int) + 1).toNat = k + 1 := by omega
    have hk := p4 (k + 1)
    simp only [Tree.sat, allP, fitP, fitL, valEq, inI64, true_and, and_true, decide_eq_true_eq, decide_eq_false_iff_not, Int.toNat_natCast, e1]
    clear e
    refine ⟨fun h => ?_, fun h => ?_⟩
    · obtain ⟨g1, g2⟩ := hk (by omega)
      rw [g1]
      (repeat' first | with_reducible apply And.intro | with_reducible intro _)
      all_goals first | exact True.intro | omega | with_reducible rfl | exact isRec1 _ _ | (have := g2 _ (by assumption); omega) | rfl
    · obtain rfl : k = L.length - 1 := by omega
      (repeat' first | with_reducible apply And.intro | with_reducible intro _)
      all_goals first | exact True.intro | omega | with_reducible rfl | (rename_i E hE; cases hE; exact hQ) | rfl

set_option maxRecDepth 100000 in
theorem rBounds_at (c : Nat) (L : List (List Int)) (mk : Int) (pre0 : okLL c L) (pre1 : 0 ≤ mk ∧ mk ≤ c) : SoundAt Try.prog 38 [LL L, i mk] (.agg [i (mnH L mk.toNat (L.length - 1)), i (mxH L mk.toNat (L.length - 1))]) := by
  refine soundAt_finX (G := [(40, S_rHeight)]) (X := { R := [], H := [] }) (L := [LS_bd c L mk]) (SoundG.cons rHeight_ok (SoundG.nil _)) (SoundX.of (SoundRL.nil _) (SoundHL.nil _)) mixed Try.func38 (show Try.f38.body = some (bodyOf Try.f38) by kernel_rfl) (one_loop (fun cj hcj => by
    have e : loopAt (bodyOf Try.f38) 0 = some (.loop B_bd) := by kernel_rfl
    rw [e] at hcj; cases hcj
    exact (bd_ls c L mk pre0 pre1).N)) (t := (Tree.need [(0 : Int) ≤ (0 : Int) ∧ (0 : Int) < (↑(List.length L) : Int)] (Tree.need [isRec 1 (List.length (nL L (Int.toNat (0 : Int)))) fun k => [i (nthJ (nL L (Int.toNat (0 : Int))) k)], mk ≤ (↑(List.length (nL L (Int.toNat (0 : Int)))) : Int), List.length (nL L (Int.toNat (0 : Int))) ≤ 100, ∀ (k : Nat), k < List.length (nL L (Int.toNat (0 : Int))) → (-1000000 : Int) ≤ nthJ (nL L (Int.toNat (0 : Int))) k ∧ nthJ (nL L (Int.toNat (0 : Int))) k ≤ (1000000 : Int)] (Tree.need [(AV.lst 1 (List.length L) fun k => [AV.lst 1 (List.length (nL L k)) fun k_1 => [iI (nthJ (nL L k) k_1)]]) = AV.lst 1 (List.length L) fun k => [AV.lst 1 (List.length (nL L k)) fun k_1 => [iI (nthJ (nL L k) k_1)]], mk = mk, AV.ptr 0 0 = AV.ptr 0 0, sumF (nthJ (nL L (Int.toNat (0 : Int)))) (Int.toNat mk) = hgt (nL L 0) (Int.toNat mk), AV.ptr 10 0 = AV.ptr 10 0, (1 : Int) = (↑(0 : Nat) : Int) + (1 : Int), sumF (nthJ (nL L (Int.toNat (0 : Int)))) (Int.toNat mk) = mnH L (Int.toNat mk) 0, sumF (nthJ (nL L (Int.toNat (0 : Int)))) (Int.toNat mk) = mxH L (Int.toNat mk) 0, (0 : Int) = (0 : Int), (0 : Int) = (0 : Int)] (Tree.leaf (RV.agg [RV.x (Value.int IntKind.i64 (mnH L (Int.toNat mk) (List.length L - 1))), RV.x (Value.int IntKind.i64 (mxH L (Int.toNat mk) (List.length L - 1)))])))))) (by kernel_rfl) ?_
  obtain ⟨p1, p2, p3, p4⟩ := pre0
  obtain ⟨g1, g2⟩ := p4 0 (by omega)
  have e0 : (0 : Int).toNat = 0 := rfl
  simp only [Tree.sat, allP, fitP, fitL, valEq, inI64, true_and, and_true, Int.toNat_natCast, e0]
  rw [g1]
  (repeat' first | with_reducible apply And.intro | with_reducible intro _)
  all_goals first | exact True.intro | omega | with_reducible rfl | exact isRec1 _ _ | (have := g2 _ (by assumption); omega) | rfl


def S_rBounds : Sx.Spec := fun l => match l with
  | [.lst 1 N F, .x (.int .i64 mk)] => some ([isLL N F, ∃ c, okLL c (lolOf N F) ∧ 0 ≤ mk ∧ mk ≤ (c : Nat)], .agg [i (mnH (lolOf N F) mk.toNat ((lolOf N F).length - 1)), i (mxH (lolOf N F) mk.toNat ((lolOf N F).length - 1))])
  | _ => none


theorem rBounds_ok : SoundSpec Try.prog 38 S_rBounds := by
  refine ⟨⟨_, Try.func38, by kernel_rfl, by kernel_rfl⟩, ?_⟩
  intro avs ns res h hn
  unfold S_rBounds at h
  split at h
  · rename_i N F mk
    cases h
    have h1 : isLL N F := hn _ (by simp)
    obtain ⟨c, h2, h3⟩ : ∃ c, okLL c (lolOf N F) ∧ 0 ≤ mk ∧ mk ≤ (c : Nat) := hn _ (by simp)
    exact (rBounds_at c (lolOf N F) mk h2 h3).same (.cons (sameLL h1) (.cons (.refl _) .nil))
  · cases h


theorem dbL_bd {c : Nat} {L : List (List Int)} (h : okLL c L) : ∀ {m : Nat}, m ≤ c + 1 → 0 ≤ dbL L m ∧ dbL L m ≤ 200000000
  | 0, _ => by simp [dbL]
  | m + 1, hm => by
    have ih := dbL_bd h (m := m) (by omega)
    have := mnH_bd h (j := L.length - 1) (m := m) (by have := h.2.1; omega) (by omega)
    unfold dbL
    omega

noncomputable def E_db (c T lo hi : Int) (L : List (List Int)) : St := (some
  {
    σ :=
      [AV.agg
          [AV.x (Value.int IntKind.i64 c), AV.x (Value.int IntKind.i64 T), AV.x (Value.int IntKind.i64 lo),
            AV.x (Value.int IntKind.i64 hi)],
        AV.lst (1 : Nat) (List.length L) fun k =>
          [AV.lst (1 : Nat) (List.length (nL L k)) fun k_1 => [AV.x (Value.int IntKind.i64 (nthJ (nL L k) k_1))]],
        AV.ptr (0 : Nat) (0 : Nat), AV.top, AV.x (Value.int IntKind.i64 (0 : Int)), AV.top, AV.top, AV.top, AV.top,
        AV.top, AV.top, AV.top, AV.top, AV.top, AV.top, AV.top, AV.top, AV.top, AV.top, AV.top, AV.top, AV.top, AV.top,
        AV.top, AV.top],
    m :=
      [((0 : Nat),
          Res.cells (25 : Nat)
            [AV.x (Value.int IntKind.i64 c), AV.x (Value.int IntKind.i64 T), AV.x (Value.int IntKind.i64 lo),
              AV.x (Value.int IntKind.i64 hi)])],
    nx := (4 : Nat) } : Option St).getD { σ := [], m := [], nx := 0 }
noncomputable def B_db : Code := loopBody (loopAt (bodyOf Try.f37) 0)
noncomputable def inv_db (c T lo hi : Int) (L : List (List Int)) (k : Nat) : St := { σ := ovrS [(5, i (dbL L k)), (6, i k)] (E_db c T lo hi L).σ, m := [(0, .cells 25 [i c, i T, i lo, i hi])], nx := (E_db c T lo hi L).nx }
noncomputable def out_db (c T lo hi : Int) (L : List (List Int)) (k : Nat) : AEx → Option St := fun ex => match ex with
  | .exit 0 => some { σ := ovrS [(5, i (dbL L (c.toNat + 1))), (6, i (c + 1))] (E_db c T lo hi L).σ, m := [(0, .cells 25 [i c, i T, i lo, i hi])], nx := (E_db c T lo hi L).nx }
  | _ => none
noncomputable def T_db (c T lo hi : Int) (L : List (List Int)) : CT := .leaf (.exit 0, ( out_db c T lo hi L 0 (.exit 0)).getD (E_db c T lo hi L))
noncomputable def LS_db (c T lo hi : Int) (L : List (List Int)) : LSpec := normSp [] (sumL (inv_db c T lo hi L (0)) (T_db c T lo hi L))
set_option maxRecDepth 100000 in
theorem db_ls (c T lo hi : Int) (L : List (List Int)) (pre0 : 1 ≤ c ∧ c ≤ 10) (pre1 : okLL c.toNat L) : LSound Try.prog (.loop B_db) (LS_db c T lo hi L) := by
  refine loop_roundsX [] (E := { R := [], H := [] }) (G := [(38, S_rBounds)]) (L := []) (SoundG.cons rBounds_ok (SoundG.nil _)) (SoundX.of (SoundRL.nil _) (SoundHL.nil _)) mixed noLoops (X := Nat) (inv_db c T lo hi L) (fun k => k ≤ c.toNat + 1) (fun k => c.toNat + 1 - k) (out_db c T lo hi L) (x0 := 0) (by simp) ?_ ?_ ?_
  · rintro k
    kernel_rfl
  · rintro k y E h
    unfold out_db at h
    split at h
    · cases h; kernel_rfl
    · cases h
  · rintro Q hQ k hx
    refine ⟨(k + 1), ?_⟩
    have e : roundX Try.prog [(38, S_rBounds)] { R := [], H := [] } [] [] B_db (inv_db c T lo hi L k) (inv_db c T lo hi L ((k + 1))) (out_db c T lo hi L k) = (Tree.branch (decide ((↑k : Int) ≤ c)) (Tree.need [isLL (List.length L) fun k => [AV.lst 1 (List.length (nL L k)) fun k_1 => [iI (nthJ (nL L k) k_1)]], ∃ c, okLL c (lolOf (List.length L) fun k => [AV.lst 1 (List.length (nL L k)) fun k_1 => [iI (nthJ (nL L k) k_1)]]) ∧ (0 : Int) ≤ (↑k : Int) ∧ (↑k : Int) ≤ (↑c : Int)] (Tree.need [inI64 (mxH (lolOf (List.length L) fun k => [AV.lst 1 (List.length (nL L k)) fun k_1 => [iI (nthJ (nL L k) k_1)]]) k (List.length (lolOf (List.length L) fun k => [AV.lst 1 (List.length (nL L k)) fun k_1 => [iI (nthJ (nL L k) k_1)]]) - 1) - mnH (lolOf (List.length L) fun k => [AV.lst 1 (List.length (nL L k)) fun k_1 => [iI (nthJ (nL L k) k_1)]]) k (List.length (lolOf (List.length L) fun k => [AV.lst 1 (List.length (nL L k)) fun k_1 => [iI (nthJ (nL L k) k_1)]]) - 1))] (Tree.need [inI64 ((↑k : Int) + (1 : Int))] (Tree.need [AV.agg [iI c, iI T, iI lo, iI hi] = AV.agg [iI c, iI T, iI lo, iI hi], (AV.lst 1 (List.length L) fun k => [AV.lst 1 (List.length (nL L k)) fun k_1 => [iI (nthJ (nL L k) k_1)]]) = AV.lst 1 (List.length L) fun k => [AV.lst 1 (List.length (nL L k)) fun k_1 => [iI (nthJ (nL L k) k_1)]], AV.ptr 0 0 = AV.ptr 0 0, (0 : Int) = (0 : Int), max (dbL L k) (mxH (lolOf (List.length L) fun k => [AV.lst 1 (List.length (nL L k)) fun k_1 => [iI (nthJ (nL L k) k_1)]]) k (List.length (lolOf (List.length L) fun k => [AV.lst 1 (List.length (nL L k)) fun k_1 => [iI (nthJ (nL L k) k_1)]]) - 1) - mnH (lolOf (List.length L) fun k => [AV.lst 1 (List.length (nL L k)) fun k_1 => [iI (nthJ (nL L k) k_1)]]) k (List.length (lolOf (List.length L) fun k => [AV.lst 1 (List.length (nL L k)) fun k_1 => [iI (nthJ (nL L k) k_1)]]) - 1)) = dbL L (k + 1), (↑k : Int) + (1 : Int) = (↑(k + 1) : Int), c = c, T = T, lo = lo, hi = hi] (Tree.leaf AEx.normal))))) (Tree.need [AV.agg [iI c, iI T, iI lo, iI hi] = AV.agg [iI c, iI T, iI lo, iI hi], (AV.lst 1 (List.length L) fun k => [AV.lst 1 (List.length (nL L k)) fun k_1 => [iI (nthJ (nL L k) k_1)]]) = AV.lst 1 (List.length L) fun k => [AV.lst 1 (List.length (nL L k)) fun k_1 => [iI (nthJ (nL L k) k_1)]], AV.ptr 0 0 = AV.ptr 0 0, (0 : Int) = (0 : Int), dbL L k = dbL L (Int.toNat c + 1), (↑k : Int) = c + (1 : Int), c = c, T = T, lo = lo, hi = hi] (Tree.leaf (AEx.exit 0)))) := by kernel_rfl
    rw [e]
    simp only [T_db, out_db, Tree.sat, Option.getD_some] at hQ
    have hb := fun h => dbL_bd pre1 (m := k) h
    have hm := fun h => mnH_bd pre1 (j := L.length - 1) (m := k) (by have := pre1.2.1; omega) h
    simp only [Tree.sat, allP, fitP, fitL, valEq, inI64, true_and, and_true, decide_eq_true_eq, decide_eq_false_iff_not, Int.toNat_natCast, lol_LL]
    clear e
    refine ⟨fun h => ?_, fun h => ?_⟩
    · have hb := hb (by omega)
      have hm := hm (by omega)
      (repeat' first | with_reducible apply And.intro | with_reducible intro _)
      all_goals first | exact True.intro | omega | with_reducible rfl | exact isLL_LL _ | exact ⟨_, pre1, by omega, by omega⟩ | rfl
    · obtain rfl : k = c.toNat + 1 := by omega
      (repeat' first | with_reducible apply And.intro | with_reducible intro _)
      all_goals first | exact True.intro | omega | with_reducible rfl | (rename_i E hE; cases hE; exact hQ) | rfl

set_option maxRecDepth 100000 in
theorem rDoubt_at (c T lo hi : Int) (L : List (List Int)) (pre0 : 1 ≤ c ∧ c ≤ 10) (pre1 : okLL c.toNat L) : SoundAt Try.prog 37 [.agg [i c, i T, i lo, i hi], LL L] (i (dbL L (c.toNat + 1))) := by
  refine soundAt_finX (G := [(38, S_rBounds)]) (X := { R := [], H := [] }) (L := [LS_db c T lo hi L]) (SoundG.cons rBounds_ok (SoundG.nil _)) (SoundX.of (SoundRL.nil _) (SoundHL.nil _)) mixed Try.func37 (show Try.f37.body = some (bodyOf Try.f37) by kernel_rfl) (one_loop (fun cj hcj => by
    have e : loopAt (bodyOf Try.f37) 0 = some (.loop B_db) := by kernel_rfl
    rw [e] at hcj; cases hcj
    exact (db_ls c T lo hi L pre0 pre1).N)) (t := (Tree.need [AV.agg [iI c, iI T, iI lo, iI hi] = AV.agg [iI c, iI T, iI lo, iI hi], (AV.lst 1 (List.length L) fun k => [AV.lst 1 (List.length (nL L k)) fun k_1 => [iI (nthJ (nL L k) k_1)]]) = AV.lst 1 (List.length L) fun k => [AV.lst 1 (List.length (nL L k)) fun k_1 => [iI (nthJ (nL L k) k_1)]], AV.ptr 0 0 = AV.ptr 0 0, (0 : Int) = (0 : Int), (0 : Int) = dbL L 0, (0 : Int) = (↑(0 : Nat) : Int), c = c, T = T, lo = lo, hi = hi] (Tree.leaf (RV.x (Value.int IntKind.i64 (dbL L (Int.toNat c + 1))))))) (by kernel_rfl) ?_
  simp only [Tree.sat, allP, fitP, fitL, valEq, inI64, true_and, and_true]
  (repeat' first | with_reducible apply And.intro | with_reducible intro _)
  all_goals first | exact True.intro | omega | with_reducible rfl | rfl


def S_rDoubt : Sx.Spec := fun l => match l with
  | [.agg [.x (.int .i64 c), .x (.int .i64 T), .x (.int .i64 lo), .x (.int .i64 hi)], .lst 1 N F] => some ([isLL N F, 1 ≤ c ∧ c ≤ 10, okLL c.toNat (lolOf N F)], i (dbL (lolOf N F) (c.toNat + 1)))
  | _ => none


theorem rDoubt_ok : SoundSpec Try.prog 37 S_rDoubt := by
  refine ⟨⟨_, Try.func37, by kernel_rfl, by kernel_rfl⟩, ?_⟩
  intro avs ns res h hn
  unfold S_rDoubt at h
  split at h
  · rename_i c T lo hi N F
    cases h
    have h1 : isLL N F := hn _ (by simp)
    exact (rDoubt_at c T lo hi (lolOf N F) (hn _ (by simp)) (hn _ (by simp))).same (.cons (.refl _) (.cons (sameLL h1) .nil))
  · cases h

end Go.Proofs.Ytmdeoobmeokmeaa
/- Contracts of functions of the program, by the engine Sx: what each call comes to. Printed by a program of this repo (sxgen.py). -/
set_option linter.unusedSimpArgs false
set_option linter.unusedVariables false
namespace Go.Proofs.Ytmdeoobmeokmeaa
open Go Go.Sx Go.RowKit

/-- A number, times itself, as long as it is not too great. -/
def powN (m : Int) : Nat → Int
  | 0 => 1
  | k + 1 => if powN m k ≤ 400 then powN m k * m else powN m k
def fewB (c T lo hi : Int) (n : Nat) (a b u v : Nat → Int) : Bool := decide (n ≤ 15) && (!decide (flt c T lo hi n a b u v = 0) || (decide (powN (hi - lo + 1) (c.toNat - 1) ≤ 400) && decide (n ≤ 6)))


theorem powN_bd {m : Int} (h : 1 ≤ m ∧ m ≤ 200) : ∀ k, 1 ≤ powN m k ∧ powN m k ≤ 80000
  | 0 => by simp [powN]
  | k + 1 => by
    have ih := powN_bd h k
    unfold powN
    split
    · have h1 : 1 * 1 ≤ powN m k * m := Int.mul_le_mul ih.1 h.1 (by omega) (by omega)
      have h2 : powN m k * m ≤ 400 * 200 := Int.mul_le_mul (by omega) h.2 (by omega) (by omega)
      omega
    · exact ih
theorem powN_stay {m : Int} {k : Nat} (h : 400 < powN m k) : ∀ j, powN m (k + j) = powN m k
  | 0 => rfl
  | j + 1 => by
    have ih := powN_stay h j
    rw [show powN m (k + (j + 1)) = if powN m (k + j) ≤ 400 then powN m (k + j) * m else powN m (k + j) from rfl, ih, if_neg (by omega)]
theorem powN_pow {m : Nat} (hm : 1 ≤ m ∧ m ≤ 200) : ∀ k, powN m k ≤ 400 → powN m k = ((m ^ k : Nat) : Int)
  | 0, _ => by simp [powN]
  | k + 1, h => by
    have hb := powN_bd (m := m) (by omega) k
    have h1 : powN m k ≤ 400 := by
      rcases Int.lt_or_le 400 (powN m k) with h1 | h1
      · have := powN_stay h1 1
        omega
      · exact h1
    have ih := powN_pow hm k h1
    rw [show powN m (k + 1) = if powN m k ≤ 400 then powN m k * m else powN m k from rfl, if_pos h1, ih, Nat.pow_succ]
    simp

noncomputable def E_fe (c T lo hi : Int) (n : Nat) (a b u v : Nat → Int) : St := (some
  {
    σ :=
      [AV.agg
          [AV.x (Value.int IntKind.i64 c), AV.x (Value.int IntKind.i64 T), AV.x (Value.int IntKind.i64 lo),
            AV.x (Value.int IntKind.i64 hi)],
        AV.lst (4 : Nat) n fun k =>
          [AV.x (Value.int IntKind.i64 (a k)), AV.x (Value.int IntKind.i64 (b k)), AV.x (Value.int IntKind.i64 (u k)),
            AV.x (Value.int IntKind.i64 (v k))],
        AV.ptr (0 : Nat) (0 : Nat), AV.top, AV.lit false, AV.top, AV.top, AV.top, AV.top, AV.top, AV.top, AV.top,
        AV.top, AV.top, AV.top, AV.top, AV.top, AV.top, AV.top, AV.top, AV.top, AV.top, AV.top, AV.top, AV.top, AV.top,
        AV.top, AV.top, AV.top, AV.top, AV.top, AV.top, AV.top, AV.top, AV.top, AV.top, AV.top, AV.top, AV.top, AV.top,
        AV.top],
    m :=
      [((0 : Nat),
          Res.cells (25 : Nat)
            [AV.x (Value.int IntKind.i64 c), AV.x (Value.int IntKind.i64 T), AV.x (Value.int IntKind.i64 lo),
              AV.x (Value.int IntKind.i64 hi)])],
    nx := (11 : Nat) } : Option St).getD { σ := [], m := [], nx := 0 }
noncomputable def B_fe : Code := loopBody (loopAt (bodyOf Try.f19) 0)
noncomputable def inv_fe (c T lo hi : Int) (n : Nat) (a b u v : Nat → Int) (k : Nat) : St := { σ := ovrS [(5, i (powN (hi - lo + 1) k)), (6, i ((k : Int) + 1))] (E_fe c T lo hi n a b u v).σ, m := [(0, .cells 25 [i c, i T, i lo, i hi])], nx := (E_fe c T lo hi n a b u v).nx }
noncomputable def out_fe (c T lo hi : Int) (n : Nat) (a b u v : Nat → Int) (k : Nat) : AEx → Option St := fun ex => match ex with
  | .exit 0 => some { σ := ovrS [(5, i (powN (hi - lo + 1) (c.toNat - 1)))] (E_fe c T lo hi n a b u v).σ, m := [(0, .cells 25 [i c, i T, i lo, i hi])], nx := (E_fe c T lo hi n a b u v).nx }
  | _ => none
noncomputable def T_fe (c T lo hi : Int) (n : Nat) (a b u v : Nat → Int) : CT := .leaf (.exit 0, ( out_fe c T lo hi n a b u v 0 (.exit 0)).getD (E_fe c T lo hi n a b u v))
noncomputable def LS_fe (c T lo hi : Int) (n : Nat) (a b u v : Nat → Int) : LSpec := normSp [] (sumL (inv_fe c T lo hi n a b u v (0)) (T_fe c T lo hi n a b u v))
set_option maxRecDepth 100000 in
theorem fe_ls (c T lo hi : Int) (n : Nat) (a b u v : Nat → Int) (pre0 : tubeB c T lo hi = true) : LSound Try.prog (.loop B_fe) (LS_fe c T lo hi n a b u v) := by
  refine loop_roundsX [] (E := { R := [], H := [] }) (G := [(63, S_rFault)]) (L := []) (SoundG.cons rFault_ok (SoundG.nil _)) (SoundX.of (SoundRL.nil _) (SoundHL.nil _)) mixed noLoops (X := Nat) (inv_fe c T lo hi n a b u v) (fun k => k + 1 ≤ c.toNat) (fun k => c.toNat - k) (out_fe c T lo hi n a b u v) (x0 := 0) (by have := tube_bd pre0; omega) ?_ ?_ ?_
  · rintro k
    kernel_rfl
  · rintro k y E h
    unfold out_fe at h
    split at h
    · cases h; kernel_rfl
    · cases h
  · rintro Q hQ k hx
    refine ⟨(k + 1), ?_⟩
    have e : roundX Try.prog [(63, S_rFault)] { R := [], H := [] } [] [] B_fe (inv_fe c T lo hi n a b u v k) (inv_fe c T lo hi n a b u v ((k + 1))) (out_fe c T lo hi n a b u v k) = (Tree.branch (decide ((↑k : Int) + (1 : Int) < c)) (Tree.branch (decide (powN (hi - lo + (1 : Int)) k ≤ (400 : Int))) (Tree.need [inI64 (hi - lo)] (Tree.need [inI64 (hi - lo + (1 : Int))] (Tree.need [inI64 (powN (hi - lo + (1 : Int)) k * (hi - lo + (1 : Int)))] (Tree.need [inI64 ((↑k : Int) + (1 : Int) + (1 : Int))] (Tree.need [AV.agg [iI c, iI T, iI lo, iI hi] = AV.agg [iI c, iI T, iI lo, iI hi], (AV.lst 4 n fun k => [iI (a k), iI (b k), iI (u k), iI (v k)]) = AV.lst 4 n fun k => [iI (a k), iI (b k), iI (u k), iI (v k)], AV.ptr 0 0 = AV.ptr 0 0, AV.lit false = AV.lit false, powN (hi - lo + (1 : Int)) k * (hi - lo + (1 : Int)) = powN (hi - lo + (1 : Int)) (k + 1), (↑k : Int) + (1 : Int) + (1 : Int) = (↑(k + 1) : Int) + (1 : Int), c = c, T = T, lo = lo, hi = hi] (Tree.leaf AEx.normal)))))) (Tree.need [AV.agg [iI c, iI T, iI lo, iI hi] = AV.agg [iI c, iI T, iI lo, iI hi], (AV.lst 4 n fun k => [iI (a k), iI (b k), iI (u k), iI (v k)]) = AV.lst 4 n fun k => [iI (a k), iI (b k), iI (u k), iI (v k)], AV.ptr 0 0 = AV.ptr 0 0, AV.lit false = AV.lit false, powN (hi - lo + (1 : Int)) k = powN (hi - lo + (1 : Int)) (Int.toNat c - 1), c = c, T = T, lo = lo, hi = hi] (Tree.leaf (AEx.exit 0)))) (Tree.need [AV.agg [iI c, iI T, iI lo, iI hi] = AV.agg [iI c, iI T, iI lo, iI hi], (AV.lst 4 n fun k => [iI (a k), iI (b k), iI (u k), iI (v k)]) = AV.lst 4 n fun k => [iI (a k), iI (b k), iI (u k), iI (v k)], AV.ptr 0 0 = AV.ptr 0 0, AV.lit false = AV.lit false, powN (hi - lo + (1 : Int)) k = powN (hi - lo + (1 : Int)) (Int.toNat c - 1), c = c, T = T, lo = lo, hi = hi] (Tree.leaf (AEx.exit 0)))) := by kernel_rfl
    rw [e]
    simp only [T_fe, out_fe, Tree.sat, Option.getD_some] at hQ
    have hb := tube_bd pre0
    have hp := powN_bd (m := hi - lo + 1) (by omega) k
    have hp2 := powN_bd (m := hi - lo + 1) (by omega) (k + 1)
    have hs : powN (hi - lo + 1) (k + 1) = if powN (hi - lo + 1) k ≤ 400 then powN (hi - lo + 1) k * (hi - lo + 1) else powN (hi - lo + 1) k := rfl
    simp only [Tree.sat, allP, fitP, fitL, valEq, inI64, true_and, and_true, decide_eq_true_eq, decide_eq_false_iff_not, Int.toNat_natCast]
    clear e
    refine ⟨fun h => ⟨fun h2 => ?_, fun h2 => ?_⟩, fun h => ?_⟩
    · rw [if_pos h2] at hs
      rw [← hs]
      (repeat' first | with_reducible apply And.intro | with_reducible intro _)
      all_goals first | exact True.intro | omega | with_reducible rfl | rfl
    · have e3 := powN_stay (m := hi - lo + 1) (k := k) (by omega) (c.toNat - 1 - k)
      rw [show k + (c.toNat - 1 - k) = c.toNat - 1 by omega] at e3
      rw [e3]
      (repeat' first | with_reducible apply And.intro | with_reducible intro _)
      all_goals first | exact True.intro | omega | with_reducible rfl | (rename_i E hE; cases hE; exact hQ) | rfl
    · obtain rfl : k = c.toNat - 1 := by omega
      (repeat' first | with_reducible apply And.intro | with_reducible intro _)
      all_goals first | exact True.intro | omega | with_reducible rfl | (rename_i E hE; cases hE; exact hQ) | rfl

set_option maxRecDepth 100000 in
theorem Few_at (c T lo hi : Int) (n : Nat) (a b u v : Nat → Int) : SoundAt Try.prog 19 [.agg [i c, i T, i lo, i hi], rds n a b u v] (bl (fewB c T lo hi n a b u v)) := by
  refine soundAt_finX (G := [(63, S_rFault)]) (X := { R := [], H := [] }) (L := [needSp [tubeB c T lo hi = true] (LS_fe c T lo hi n a b u v)]) (SoundG.cons rFault_ok (SoundG.nil _)) (SoundX.of (SoundRL.nil _) (SoundHL.nil _)) mixed Try.func19 (show Try.f19.body = some (bodyOf Try.f19) by kernel_rfl) (one_loop (fun cj hcj => by
    have e : loopAt (bodyOf Try.f19) 0 = some (.loop B_fe) := by kernel_rfl
    rw [e] at hcj; cases hcj
    exact (needSp_sound (ps := [tubeB c T lo hi = true]) (fun h => fe_ls c T lo hi n a b u v h)).N)) (t := (Tree.branch (decide ((↑n : Int) > (15 : Int))) (Tree.leaf (RV.x (Value.bool false))) (Tree.need [isRec 4 n fun k => [i (a k), i (b k), i (u k), i (v k)]] (Tree.branch (flt c T lo hi n a b u v != (0 : Int)) (Tree.leaf (RV.x (Value.bool true))) (Tree.need [tubeB c T lo hi = true] (Tree.need [AV.agg [iI c, iI T, iI lo, iI hi] = AV.agg [iI c, iI T, iI lo, iI hi], (AV.lst 4 n fun k => [iI (a k), iI (b k), iI (u k), iI (v k)]) = AV.lst 4 n fun k => [iI (a k), iI (b k), iI (u k), iI (v k)], AV.ptr 0 0 = AV.ptr 0 0, AV.lit false = AV.lit false, (1 : Int) = powN (hi - lo + (1 : Int)) 0, (1 : Int) = (↑(0 : Nat) : Int) + (1 : Int), c = c, T = T, lo = lo, hi = hi] (Tree.branch (decide (powN (hi - lo + (1 : Int)) (Int.toNat c - 1) ≤ (400 : Int))) (Tree.leaf (RV.x (Value.bool (decide ((↑n : Int) ≤ (6 : Int)))))) (Tree.leaf (RV.x (Value.bool false)))))))))) (by kernel_rfl) ?_
  simp only [Tree.sat, allP, fitP, fitL, valEq, inI64, true_and, and_true, decide_eq_true_eq, decide_eq_false_iff_not, bne_iff_ne, ne_eq, bne_eq_false_iff_eq]
  refine ⟨fun h => ?_, fun h => ⟨isRec4 n a b u v, fun h2 => ?_, fun h2 => ⟨(flt_iff.1 h2).1, ⟨rfl, rfl⟩, fun h3 => ?_, fun h3 => ?_⟩⟩⟩
  · have : ¬ n ≤ 15 := by omega
    simp [fewB, this]
  · have : n ≤ 15 := by omega
    simp [fewB, this, h2]
  · have : n ≤ 15 := by omega
    simp [fewB, this, h2, h3]
    by_cases h4 : n ≤ 6
    · simp [h4]; omega
    · simp [h4]; omega
  · have : n ≤ 15 := by omega
    simp [fewB, this, h2, h3]

def S_Few : Sx.Spec := fun l => match l with
  | [.agg [.x (.int .i64 c), .x (.int .i64 T), .x (.int .i64 lo), .x (.int .i64 hi)], .lst 4 n f] => some ([isRec 4 n f], bl (fewB c T lo hi n (col 0 f) (col 1 f) (col 2 f) (col 3 f)))
  | _ => none

theorem Few_ok : SoundSpec Try.prog 19 S_Few := by
  refine ⟨⟨_, Try.func19, by kernel_rfl, by kernel_rfl⟩, ?_⟩
  intro avs ns res h hn
  unfold S_Few at h
  split at h
  · rename_i c T lo hi n f
    cases h
    have hr0 : isRec 4 n f := hn _ (by simp)
    exact (Few_at c T lo hi n (col 0 f) (col 1 f) (col 2 f) (col 3 f)).same (.cons (.refl _) (.cons (.lst 4 n _ _ hr0) .nil))
  · cases h


theorem few_all {c T lo hi : Int} {n : Nat} {a b u v : Nat → Int} (h : fewB c T lo hi n a b u v = true) (hf : flt c T lo hi n a b u v = 0) : (allV T lo hi (c.toNat - 1) []).length ≤ 400 ∧ n ≤ 6 := by
  have hb := tube_bd (flt_iff.1 hf).1
  simp [fewB, hf] at h
  obtain ⟨_, h1, h2⟩ := h
  refine ⟨?_, h2⟩
  have e : (((hi - lo + 1).toNat : Nat) : Int) = hi - lo + 1 := by omega
  rw [← e] at h1
  have h3 := powN_pow (m := (hi - lo + 1).toNat) (by omega) (c.toNat - 1) h1
  have h4 := allV_len (T := T) (lo := lo) (hi := hi) (c.toNat - 1) []
  rw [h3] at h1
  omega


/-- What 'truths' hands back. -/
def tuA (c T lo hi : Int) (n : Nat) (a b u v : Nat → Int) (r : Bool) : List (List Int) := if fltB c T lo hi n a b u v r = 0 then tuL c T lo hi n a b u v else []


theorem smLL_all {T lo hi : Int} {d : Nat} (h : (allV T lo hi d []).length ≤ 1000000) (hd : d < 100) : smLL (allV T lo hi d []) := by
  refine ⟨h, fun k hk => ?_⟩
  obtain ⟨s, h1, h2, _⟩ := allV_mem.1 (getD_mem hk)
  rw [h1]
  simp [h2]
  omega

set_option maxRecDepth 100000 in
theorem truths_at (c T lo hi : Int) (n : Nat) (a b u v : Nat → Int) (r : Bool) (pre0 : flt c T lo hi n a b u v = 0 → (allV T lo hi (c.toNat - 1) []).length ≤ 1000000) : SoundCAt Try.prog 25 [.agg [i c, i T, i lo, i hi], rds n a b u v, bl r] (.leaf (.tup [LL (tuA c T lo hi n a b u v r), i (fltB c T lo hi n a b u v r)])) := by
  refine soundCAt_fin (G := [(47, S_fault)]) (X := { R := [], H := [], C := [(51, (C_All (c.toNat - 1))), (53, C_rTruths)] }) (L := []) (SoundG.cons fault_ok (SoundG.nil _)) (SoundX.ofC (SoundRL.nil _) (SoundHL.nil _) (SoundCL.cons (All_okC (c.toNat - 1)) (SoundCL.cons rTruths_okC (SoundCL.nil _)))) mixed Try.func25 (show Try.f25.body = some (bodyOf Try.f25) by kernel_rfl) noLoopsS (t := (Tree.need [isRec 4 n fun k => [i (a k), i (b k), i (u k), i (v k)]] (Tree.branch (flt c T lo hi n a b u v == (0 : Int)) (Tree.branch (!r) (Tree.branch ((2 : Int) != (0 : Int)) (Tree.leaf (AV.tup [AV.x (Value.slice none 0 0), iI (2 : Int)])) (Tree.need [alQ c T lo hi (Int.toNat c - 1) 0 fun x => (0 : Int)] (Tree.need [isRec 4 n fun k => [i (a k), i (b k), i (u k), i (v k)], isLL (List.length (allV T lo hi (Int.toNat c - 1) [])) fun k => [LI (nL (allV T lo hi (Int.toNat c - 1) []) k)], flt c T lo hi n a b u v = (0 : Int), smLL (lolOf (List.length (allV T lo hi (Int.toNat c - 1) [])) fun k => [LI (nL (allV T lo hi (Int.toNat c - 1) []) k)])] (Tree.branch ((↑(List.length (List.filter (itW c T lo hi n a b u v) (lolOf (List.length (allV T lo hi (Int.toNat c - 1) [])) fun k => [LI (nL (allV T lo hi (Int.toNat c - 1) []) k)]))) : Int) == (0 : Int)) (Tree.leaf (AV.tup [AV.x (Value.slice none 0 0), iI (9 : Int)])) (Tree.leaf (AV.tup [AV.lst 1 (List.length (List.filter (itW c T lo hi n a b u v) (lolOf (List.length (allV T lo hi (Int.toNat c - 1) [])) fun k => [LI (nL (allV T lo hi (Int.toNat c - 1) []) k)]))) fun k => [AV.lst 1 (List.length (nL (List.filter (itW c T lo hi n a b u v) (lolOf (List.length (allV T lo hi (Int.toNat c - 1) [])) fun k => [LI (nL (allV T lo hi (Int.toNat c - 1) []) k)])) k)) fun k_1 => [iI (nthJ (nL (List.filter (itW c T lo hi n a b u v) (lolOf (List.length (allV T lo hi (Int.toNat c - 1) [])) fun k => [LI (nL (allV T lo hi (Int.toNat c - 1) []) k)])) k) k_1)]], iI (0 : Int)])))))) (Tree.branch (flt c T lo hi n a b u v != (0 : Int)) (Tree.leaf (AV.tup [AV.x (Value.slice none 0 0), iI (flt c T lo hi n a b u v)])) (Tree.need [alQ c T lo hi (Int.toNat c - 1) 0 fun x => (0 : Int)] (Tree.need [isRec 4 n fun k => [i (a k), i (b k), i (u k), i (v k)], isLL (List.length (allV T lo hi (Int.toNat c - 1) [])) fun k => [LI (nL (allV T lo hi (Int.toNat c - 1) []) k)], flt c T lo hi n a b u v = (0 : Int), smLL (lolOf (List.length (allV T lo hi (Int.toNat c - 1) [])) fun k => [LI (nL (allV T lo hi (Int.toNat c - 1) []) k)])] (Tree.branch ((↑(List.length (List.filter (itW c T lo hi n a b u v) (lolOf (List.length (allV T lo hi (Int.toNat c - 1) [])) fun k => [LI (nL (allV T lo hi (Int.toNat c - 1) []) k)]))) : Int) == (0 : Int)) (Tree.leaf (AV.tup [AV.x (Value.slice none 0 0), iI (9 : Int)])) (Tree.leaf (AV.tup [AV.lst 1 (List.length (List.filter (itW c T lo hi n a b u v) (lolOf (List.length (allV T lo hi (Int.toNat c - 1) [])) fun k => [LI (nL (allV T lo hi (Int.toNat c - 1) []) k)]))) fun k => [AV.lst 1 (List.length (nL (List.filter (itW c T lo hi n a b u v) (lolOf (List.length (allV T lo hi (Int.toNat c - 1) [])) fun k => [LI (nL (allV T lo hi (Int.toNat c - 1) []) k)])) k)) fun k_1 => [iI (nthJ (nL (List.filter (itW c T lo hi n a b u v) (lolOf (List.length (allV T lo hi (Int.toNat c - 1) [])) fun k => [LI (nL (allV T lo hi (Int.toNat c - 1) []) k)])) k) k_1)]], iI (0 : Int)]))))))) (Tree.branch (flt c T lo hi n a b u v != (0 : Int)) (Tree.leaf (AV.tup [AV.x (Value.slice none 0 0), iI (flt c T lo hi n a b u v)])) (Tree.need [alQ c T lo hi (Int.toNat c - 1) 0 fun x => (0 : Int)] (Tree.need [isRec 4 n fun k => [i (a k), i (b k), i (u k), i (v k)], isLL (List.length (allV T lo hi (Int.toNat c - 1) [])) fun k => [LI (nL (allV T lo hi (Int.toNat c - 1) []) k)], flt c T lo hi n a b u v = (0 : Int), smLL (lolOf (List.length (allV T lo hi (Int.toNat c - 1) [])) fun k => [LI (nL (allV T lo hi (Int.toNat c - 1) []) k)])] (Tree.branch ((↑(List.length (List.filter (itW c T lo hi n a b u v) (lolOf (List.length (allV T lo hi (Int.toNat c - 1) [])) fun k => [LI (nL (allV T lo hi (Int.toNat c - 1) []) k)]))) : Int) == (0 : Int)) (Tree.leaf (AV.tup [AV.x (Value.slice none 0 0), iI (9 : Int)])) (Tree.leaf (AV.tup [AV.lst 1 (List.length (List.filter (itW c T lo hi n a b u v) (lolOf (List.length (allV T lo hi (Int.toNat c - 1) [])) fun k => [LI (nL (allV T lo hi (Int.toNat c - 1) []) k)]))) fun k => [AV.lst 1 (List.length (nL (List.filter (itW c T lo hi n a b u v) (lolOf (List.length (allV T lo hi (Int.toNat c - 1) [])) fun k => [LI (nL (allV T lo hi (Int.toNat c - 1) []) k)])) k)) fun k_1 => [iI (nthJ (nL (List.filter (itW c T lo hi n a b u v) (lolOf (List.length (allV T lo hi (Int.toNat c - 1) [])) fun k => [LI (nL (allV T lo hi (Int.toNat c - 1) []) k)])) k) k_1)]], iI (0 : Int)]))))))))) (by kernel_rfl) ?_
  intro Q hQ
  have htu : List.filter (itW c T lo hi n a b u v) (allV T lo hi (c.toNat - 1) []) = tuL c T lo hi n a b u v := rfl
  simp only [lol_LL, htu]
  have hQ : Q (.tup [LL (tuA c T lo hi n a b u v r), i (fltB c T lo hi n a b u v r)]) := hQ
  simp only [Tree.sat, allP, true_and, and_true, decide_eq_true_eq, decide_eq_false_iff_not, bne_iff_ne, ne_eq, bne_eq_false_iff_eq, beq_iff_eq, beq_eq_false_iff_ne, Bool.not_eq_true', Bool.not_eq_false']
  have err : ∀ x : Int, tuA c T lo hi n a b u v r = [] → fltB c T lo hi n a b u v r = x → ∃ r', repP (.tup [.x (.slice none 0 0), iI x]) r' ∧ Q r' := by
    intro x h1 h2
    refine ⟨_, ?_, hQ⟩
    rw [h1, h2]
    exact ⟨⟨True.intro, rfl⟩, ⟨rfl, rfl⟩, True.intro⟩
  refine ⟨isRec4 n a b u v, fun h1 => ⟨fun h2 => ⟨fun h3 => ?_, fun h3 => absurd h3 (by decide)⟩, fun h2 => ⟨fun h3 => absurd h1 h3, fun _ => ?_⟩⟩, fun h1 => ⟨fun h2 => ?_, fun h2 => absurd h2 h1⟩⟩
  · have e : fltB c T lo hi n a b u v r = 2 := by simp [fltB, h1, h2]
    exact err 2 (by simp [tuA, e]) e
  · have hb := tube_bd (flt_iff.1 h1).1
    have ho := tu_ok (n := n) (a := a) (b := b) (u := u) (v := v) h1
    refine ⟨⟨by omega, by omega, hb.2.1, fun k hk => absurd hk (Nat.not_lt_zero _), pre0 h1⟩, ⟨isRec4 n a b u v, isLL_LL _, h1, smLL_all (pre0 h1) (by omega)⟩, fun h4 => ?_, fun h4 => ?_⟩
    · have h5 : tuL c T lo hi n a b u v = [] := List.eq_nil_of_length_eq_zero (by omega)
      have h6 : okB c T lo hi n a b u v = false := by
        rw [← Bool.not_eq_true, ho]
        exact fun h => h h5
      have e : fltB c T lo hi n a b u v r = 9 := by simp [fltB, h1, h2, h6]
      exact err 9 (by simp [tuA, e]) e
    · have h5 : tuL c T lo hi n a b u v ≠ [] := fun h => h4 (by rw [h]; rfl)
      have e : fltB c T lo hi n a b u v r = 0 := by simp [fltB, h1, h2, ho.2 h5]
      refine ⟨_, ?_, hQ⟩
      rw [show tuA c T lo hi n a b u v r = tuL c T lo hi n a b u v by simp [tuA, e], e]
      exact ⟨⟨rfl, rfl, fun j hj => rfl⟩, ⟨rfl, rfl⟩, True.intro⟩
  · have e : fltB c T lo hi n a b u v r = flt c T lo hi n a b u v := by simp [fltB, h1]
    exact err _ (by simp [tuA, e, h1]) e


noncomputable def C_truths : CSpec := fun l => match l with
  | [.agg [.x (.int .i64 c), .x (.int .i64 T), .x (.int .i64 lo), .x (.int .i64 hi)], .lst 4 n f, .x (.bool r)] => some (.need [isRec 4 n f, flt c T lo hi n (col 0 f) (col 1 f) (col 2 f) (col 3 f) = 0 → (allV T lo hi (c.toNat - 1) []).length ≤ 1000000] (.leaf (.tup [LL (tuA c T lo hi n (col 0 f) (col 1 f) (col 2 f) (col 3 f) r), i (fltB c T lo hi n (col 0 f) (col 1 f) (col 2 f) (col 3 f) r)])))
  | [.agg [.x (.int .i64 c), .x (.int .i64 T), .x (.int .i64 lo), .x (.int .i64 hi)], .lst 4 n f, .lit r] => some (.need [isRec 4 n f, flt c T lo hi n (col 0 f) (col 1 f) (col 2 f) (col 3 f) = 0 → (allV T lo hi (c.toNat - 1) []).length ≤ 1000000] (.leaf (.tup [LL (tuA c T lo hi n (col 0 f) (col 1 f) (col 2 f) (col 3 f) r), i (fltB c T lo hi n (col 0 f) (col 1 f) (col 2 f) (col 3 f) r)])))
  | _ => none


theorem RepL.lit0 {e : Env} {w : World} {r : Bool} : ∀ {l : List AV} {vs : List Value}, RepL e w (l ++ [.lit r]) vs → RepL e w (l ++ [.x (.bool r)]) vs
  | [], vs, h => by
    obtain ⟨v, vs', rfl, hv, hvs⟩ := h.cons_inv
    cases hv
    exact RepL.cons (.x _) hvs
  | a :: l, vs, h => by
    obtain ⟨v, vs', rfl, hv, hvs⟩ := h.cons_inv
    exact RepL.cons hv (RepL.lit0 hvs)
theorem SoundCAt.lit0 {P : Program} {f : FuncId} {l : List AV} {r : Bool} {t : Tree AV} (h : SoundCAt P f (l ++ [.x (.bool r)]) t) : SoundCAt P f (l ++ [.lit r]) t :=
  fun Q hQ e w args hro hidf hrep => h Q hQ e w args hro (fun a ha => by
    rcases List.mem_append.1 ha with h1 | h1
    · exact hidf a (List.mem_append_left _ h1)
    · cases List.mem_singleton.1 h1
      exact .x _) (RepL.lit0 hrep)
theorem truths_okC : Enters Try.prog 25 ∧ ∀ avs t, C_truths avs = some t → SoundCAt Try.prog 25 avs t := by
  refine ⟨⟨_, Try.func25, by kernel_rfl, by kernel_rfl⟩, ?_⟩
  intro avs t h
  unfold C_truths at h
  split at h
  · cases h
    intro Q hQ
    obtain ⟨⟨h1, h2⟩, hQ⟩ := hQ
    exact (SoundCAt.same (truths_at _ _ _ _ _ (col 0 _) (col 1 _) (col 2 _) (col 3 _) _ h2) (.cons (.refl _) (.cons (.lst 4 _ _ _ h1) (.cons (.refl _) .nil)))) Q hQ
  · rename_i c T lo hi n f r
    cases h
    intro Q hQ
    obtain ⟨⟨h1, h2⟩, hQ⟩ := hQ
    have h0 := SoundCAt.same (truths_at c T lo hi n (col 0 f) (col 1 f) (col 2 f) (col 3 f) r h2) (avs := [.agg [i c, i T, i lo, i hi], .lst 4 n f, .x (.bool r)]) (.cons (.refl _) (.cons (.lst 4 _ _ _ h1) (.cons (.refl _) .nil)))
    exact (SoundCAt.lit0 (l := [.agg [i c, i T, i lo, i hi], .lst 4 n f]) h0) Q hQ
  · cases h

end Go.Proofs.Ytmdeoobmeokmeaa
/- Contracts of functions of the program, by the engine Sx: what each call comes to. Printed by a program of this repo (sxgen.py). -/
set_option linter.unusedSimpArgs false
set_option linter.unusedVariables false
namespace Go.Proofs.Ytmdeoobmeokmeaa
open Go Go.Sx Go.RowKit

theorem ok_tu {c T lo hi : Int} {n : Nat} {a b u v : Nat → Int} (h1 : flt c T lo hi n a b u v = 0) (h2 : okB c T lo hi n a b u v = true) (h3 : (allV T lo hi (c.toNat - 1) []).length ≤ 1000000) : okLL c.toNat (tuL c T lo hi n a b u v) := by
  have hb := tube_bd (flt_iff.1 h1).1
  refine ⟨by omega, List.length_pos_iff.2 ((tu_ok h1).1 h2), ?_, fun j hj => ?_⟩
  · have := List.length_filter_le (itW c T lo hi n a b u v) (allV T lo hi (c.toNat - 1) [])
    exact Nat.le_trans this h3
  · have hw := itW_iff ((tuL_mem (by omega)).1 (getD_mem hj))
    refine ⟨by omega, fun k hk => ?_⟩
    have := hw.2.1 (nthJ (nL (tuL c T lo hi n a b u v) j) k) (by
      have hk' : k < (nL (tuL c T lo hi n a b u v) j).length := by omega
      rw [nthJ_get hk']
      exact List.getElem_mem hk')
    omega
theorem few_n {c T lo hi : Int} {n : Nat} {a b u v : Nat → Int} (h : fewB c T lo hi n a b u v = true) : n ≤ 100000 := by
  have : n ≤ 15 := by
    simp [fewB] at h
    exact h.1
  omega
theorem tuA_t {c T lo hi : Int} {n : Nat} {a b u v : Nat → Int} {r : Bool} (h : fltB c T lo hi n a b u v r = 0) : tuA c T lo hi n a b u v r = tuL c T lo hi n a b u v := if_pos h

noncomputable def E_hh (c T lo hi : Int) (n : Nat) (a b u v : Nat → Int) : St := (some
  {
    σ :=
      [AV.agg
          [AV.x (Value.int IntKind.i64 c), AV.x (Value.int IntKind.i64 T), AV.x (Value.int IntKind.i64 lo),
            AV.x (Value.int IntKind.i64 hi)],
        AV.lst (4 : Nat) n fun k =>
          [AV.x (Value.int IntKind.i64 (a k)), AV.x (Value.int IntKind.i64 (b k)), AV.x (Value.int IntKind.i64 (u k)),
            AV.x (Value.int IntKind.i64 (v k))],
        AV.ptr (0 : Nat) (0 : Nat), AV.top, AV.top,
        AV.lst (2 : Nat) (lenB c T lo hi n a b u v) fun k =>
          [AV.x (Value.int IntKind.i64 (-fwB c T lo hi n a b u v k (0 : Nat))),
            AV.x (Value.int IntKind.i64 (fwB c T lo hi n a b u v (0 : Nat) k))],
        AV.x (Value.int IntKind.i64 (eB c T lo hi n a b u v)),
        AV.lst (2 : Nat) (lenB c T lo hi n a b u v) fun k =>
          [AV.x (Value.int IntKind.i64 (plB c T (-fwB c T lo hi n a b u v k (0 : Nat)))),
            AV.x (Value.int IntKind.i64 (plB c T (fwB c T lo hi n a b u v (0 : Nat) k)))],
        AV.x (Value.int IntKind.i64 (eB c T lo hi n a b u v)), AV.x (Value.int IntKind.i64 (dtB c T lo hi n a b u v)),
        AV.x (Value.int IntKind.i64 (eB c T lo hi n a b u v)),
        AV.lst (1 : Nat) (List.length (tuA c T lo hi n a b u v true)) fun k =>
          [AV.lst (1 : Nat) (List.length (nL (tuA c T lo hi n a b u v true) k)) fun k_1 =>
              [AV.x (Value.int IntKind.i64 (nthJ (nL (tuA c T lo hi n a b u v true) k) k_1))]],
        AV.x (Value.int IntKind.i64 (fltB c T lo hi n a b u v true)), AV.top, AV.top, AV.top, AV.top, AV.top, AV.top,
        AV.top, AV.top, AV.top, AV.top, AV.top, AV.top, AV.top, AV.top, AV.top, AV.top, AV.top, AV.top, AV.top, AV.top,
        AV.top, AV.top, AV.top, AV.top, AV.top, AV.top, AV.top, AV.top, AV.top, AV.top, AV.top, AV.top, AV.top, AV.top,
        AV.top, AV.top, AV.top, AV.top, AV.top, AV.top, AV.top, AV.top, AV.top, AV.top, AV.top, AV.top, AV.top, AV.top,
        AV.top, AV.top, AV.top, AV.top, AV.top, AV.top, AV.top, AV.top, AV.top, AV.top, AV.top, AV.top, AV.top, AV.top,
        AV.top, AV.top, AV.top, AV.top, AV.top, AV.top, AV.top, AV.top, AV.top, AV.top, AV.top, AV.top, AV.top, AV.top,
        AV.top, AV.top, AV.top, AV.top, AV.top, AV.top, AV.top, AV.top, AV.top, AV.top, AV.top, AV.top, AV.top, AV.top,
        AV.top, AV.top, AV.top, AV.top, AV.top, AV.top, AV.top, AV.top, AV.top, AV.top, AV.top, AV.top, AV.top, AV.top,
        AV.top, AV.top, AV.top, AV.top, AV.top, AV.top, AV.top, AV.top, AV.top, AV.top, AV.top, AV.top, AV.top, AV.top,
        AV.top, AV.top, AV.top, AV.top, AV.top, AV.top, AV.top, AV.top, AV.top, AV.top, AV.top, AV.top, AV.top, AV.top,
        AV.top, AV.top, AV.top, AV.top, AV.top, AV.top, AV.top, AV.top, AV.top, AV.top, AV.top, AV.top, AV.top, AV.top,
        AV.top, AV.top, AV.top, AV.top, AV.top],
    m :=
      [((0 : Nat),
          Res.cells (25 : Nat)
            [AV.x (Value.int IntKind.i64 c), AV.x (Value.int IntKind.i64 T), AV.x (Value.int IntKind.i64 lo),
              AV.x (Value.int IntKind.i64 hi)])],
    nx := (80 : Nat) } : Option St).getD { σ := [], m := [], nx := 0 }
noncomputable def B_hh : Code := loopBody (loopAt (bodyOf Try.f7) 0)
noncomputable def inv_hh (c T lo hi : Int) (n : Nat) (a b u v : Nat → Int) (k : Nat) : St := { σ := ovrS [(13, i k)] (E_hh c T lo hi n a b u v).σ, m := (E_hh c T lo hi n a b u v).m, nx := (E_hh c T lo hi n a b u v).nx }
noncomputable def out_hh (c T lo hi : Int) (n : Nat) (a b u v : Nat → Int) (k : Nat) : AEx → Option St := fun ex => match ex with
  | .exit 0 => some { σ := ovrS [(13, i (c + 1))] (E_hh c T lo hi n a b u v).σ, m := (E_hh c T lo hi n a b u v).m, nx := (E_hh c T lo hi n a b u v).nx }
  | _ => none
noncomputable def T_hh (c T lo hi : Int) (n : Nat) (a b u v : Nat → Int) : CT := .leaf (.exit 0, ( out_hh c T lo hi n a b u v 0 (.exit 0)).getD (E_hh c T lo hi n a b u v))
noncomputable def LS_hh (c T lo hi : Int) (n : Nat) (a b u v : Nat → Int) : LSpec := normSp [] (sumL (inv_hh c T lo hi n a b u v (0)) (T_hh c T lo hi n a b u v))
set_option maxRecDepth 100000 in
theorem hh_ls (c T lo hi : Int) (n : Nat) (a b u v : Nat → Int) (pre0 : eB c T lo hi n a b u v = 0) (pre1 : (allV T lo hi (c.toNat - 1) []).length ≤ 1000000) : LSound Try.prog (.loop B_hh) (LS_hh c T lo hi n a b u v) := by
  refine loop_roundsX [] (E := { R := [], H := [], C := [(25, C_truths)] }) (G := [(19, S_Few), (22, S_lTube), (23, S_lReadings), (29, S_Heights), (35, S_Places), (36, S_Doubt), (20, S_wakes), (37, S_rDoubt), (38, S_rBounds), (24, S_lto)]) (L := []) (SoundG.cons Few_ok (SoundG.cons lTube_ok (SoundG.cons lReadings_ok (SoundG.cons Heights_ok (SoundG.cons Places_ok (SoundG.cons Doubt_ok (SoundG.cons wakes_ok (SoundG.cons rDoubt_ok (SoundG.cons rBounds_ok (SoundG.cons lto_ok (SoundG.nil _))))))))))) (SoundX.ofC (SoundRL.nil _) (SoundHL.nil _) (SoundCL.cons truths_okC (SoundCL.nil _))) mixed noLoops (X := Nat) (inv_hh c T lo hi n a b u v) (fun k => k ≤ c.toNat + 1) (fun k => c.toNat + 1 - k) (out_hh c T lo hi n a b u v) (x0 := 0) (by omega) ?_ ?_ ?_
  · rintro k
    kernel_rfl
  · rintro k y E h
    unfold out_hh at h
    split at h
    · cases h; kernel_rfl
    · cases h
  · rintro Q hQ k hx
    refine ⟨(k + 1), ?_⟩
    have e : roundX Try.prog [(19, S_Few), (22, S_lTube), (23, S_lReadings), (29, S_Heights), (35, S_Places), (36, S_Doubt), (20, S_wakes), (37, S_rDoubt), (38, S_rBounds), (24, S_lto)] { R := [], H := [], C := [(25, C_truths)] } [] [] B_hh (inv_hh c T lo hi n a b u v k) (inv_hh c T lo hi n a b u v ((k + 1))) (out_hh c T lo hi n a b u v k) = (Tree.branch (decide ((↑k : Int) < (↑(lenB c T lo hi n a b u v) : Int))) (Tree.need [isLL (List.length (tuA c T lo hi n a b u v true)) fun k => [AV.lst 1 (List.length (nL (tuA c T lo hi n a b u v true) k)) fun k_1 => [iI (nthJ (nL (tuA c T lo hi n a b u v true) k) k_1)]], ∃ c_1, okLL c_1 (lolOf (List.length (tuA c T lo hi n a b u v true)) fun k => [AV.lst 1 (List.length (nL (tuA c T lo hi n a b u v true) k)) fun k_1 => [iI (nthJ (nL (tuA c T lo hi n a b u v true) k) k_1)]]) ∧ (0 : Int) ≤ (↑k : Int) ∧ (↑k : Int) ≤ (↑c_1 : Int)] (Tree.need [(0 : Int) ≤ (↑k : Int) ∧ (↑k : Int) < (↑(lenB c T lo hi n a b u v) : Int)] (Tree.branch (!(-fwB c T lo hi n a b u v k 0 == mnH (lolOf (List.length (tuA c T lo hi n a b u v true)) fun k => [AV.lst 1 (List.length (nL (tuA c T lo hi n a b u v true) k)) fun k_1 => [iI (nthJ (nL (tuA c T lo hi n a b u v true) k) k_1)]]) k (List.length (lolOf (List.length (tuA c T lo hi n a b u v true)) fun k => [AV.lst 1 (List.length (nL (tuA c T lo hi n a b u v true) k)) fun k_1 => [iI (nthJ (nL (tuA c T lo hi n a b u v true) k) k_1)]]) - 1) && (fwB c T lo hi n a b u v 0 k == mxH (lolOf (List.length (tuA c T lo hi n a b u v true)) fun k => [AV.lst 1 (List.length (nL (tuA c T lo hi n a b u v true) k)) fun k_1 => [iI (nthJ (nL (tuA c T lo hi n a b u v true) k) k_1)]]) k (List.length (lolOf (List.length (tuA c T lo hi n a b u v true)) fun k => [AV.lst 1 (List.length (nL (tuA c T lo hi n a b u v true) k)) fun k_1 => [iI (nthJ (nL (tuA c T lo hi n a b u v true) k) k_1)]]) - 1) && true))) Tree.fail (Tree.need [(0 : Int) ≤ (↑k : Int) ∧ (↑k : Int) < (↑(lenB c T lo hi n a b u v) : Int)] (Tree.need [inI64 ((1000 : Int) * c)] (Tree.need [inI64 ((1000 : Int) * c * mnH (lolOf (List.length (tuA c T lo hi n a b u v true)) fun k => [AV.lst 1 (List.length (nL (tuA c T lo hi n a b u v true) k)) fun k_1 => [iI (nthJ (nL (tuA c T lo hi n a b u v true) k) k_1)]]) k (List.length (lolOf (List.length (tuA c T lo hi n a b u v true)) fun k => [AV.lst 1 (List.length (nL (tuA c T lo hi n a b u v true) k)) fun k_1 => [iI (nthJ (nL (tuA c T lo hi n a b u v true) k) k_1)]]) - 1))] (Tree.need [T ≠ (0 : Int), inI64 (Int.tdiv ((1000 : Int) * c * mnH (lolOf (List.length (tuA c T lo hi n a b u v true)) fun k => [AV.lst 1 (List.length (nL (tuA c T lo hi n a b u v true) k)) fun k_1 => [iI (nthJ (nL (tuA c T lo hi n a b u v true) k) k_1)]]) k (List.length (lolOf (List.length (tuA c T lo hi n a b u v true)) fun k => [AV.lst 1 (List.length (nL (tuA c T lo hi n a b u v true) k)) fun k_1 => [iI (nthJ (nL (tuA c T lo hi n a b u v true) k) k_1)]]) - 1)) T)] (Tree.branch (plB c T (-fwB c T lo hi n a b u v k 0) != Int.tdiv ((1000 : Int) * c * mnH (lolOf (List.length (tuA c T lo hi n a b u v true)) fun k => [AV.lst 1 (List.length (nL (tuA c T lo hi n a b u v true) k)) fun k_1 => [iI (nthJ (nL (tuA c T lo hi n a b u v true) k) k_1)]]) k (List.length (lolOf (List.length (tuA c T lo hi n a b u v true)) fun k => [AV.lst 1 (List.length (nL (tuA c T lo hi n a b u v true) k)) fun k_1 => [iI (nthJ (nL (tuA c T lo hi n a b u v true) k) k_1)]]) - 1)) T) Tree.fail (Tree.need [(0 : Int) ≤ (↑k : Int) ∧ (↑k : Int) < (↑(lenB c T lo hi n a b u v) : Int)] (Tree.need [inI64 ((1000 : Int) * c)] (Tree.need [inI64 ((1000 : Int) * c * mxH (lolOf (List.length (tuA c T lo hi n a b u v true)) fun k => [AV.lst 1 (List.length (nL (tuA c T lo hi n a b u v true) k)) fun k_1 => [iI (nthJ (nL (tuA c T lo hi n a b u v true) k) k_1)]]) k (List.length (lolOf (List.length (tuA c T lo hi n a b u v true)) fun k => [AV.lst 1 (List.length (nL (tuA c T lo hi n a b u v true) k)) fun k_1 => [iI (nthJ (nL (tuA c T lo hi n a b u v true) k) k_1)]]) - 1))] (Tree.need [T ≠ (0 : Int), inI64 (Int.tdiv ((1000 : Int) * c * mxH (lolOf (List.length (tuA c T lo hi n a b u v true)) fun k => [AV.lst 1 (List.length (nL (tuA c T lo hi n a b u v true) k)) fun k_1 => [iI (nthJ (nL (tuA c T lo hi n a b u v true) k) k_1)]]) k (List.length (lolOf (List.length (tuA c T lo hi n a b u v true)) fun k => [AV.lst 1 (List.length (nL (tuA c T lo hi n a b u v true) k)) fun k_1 => [iI (nthJ (nL (tuA c T lo hi n a b u v true) k) k_1)]]) - 1)) T)] (Tree.branch (plB c T (fwB c T lo hi n a b u v 0 k) != Int.tdiv ((1000 : Int) * c * mxH (lolOf (List.length (tuA c T lo hi n a b u v true)) fun k => [AV.lst 1 (List.length (nL (tuA c T lo hi n a b u v true) k)) fun k_1 => [iI (nthJ (nL (tuA c T lo hi n a b u v true) k) k_1)]]) k (List.length (lolOf (List.length (tuA c T lo hi n a b u v true)) fun k => [AV.lst 1 (List.length (nL (tuA c T lo hi n a b u v true) k)) fun k_1 => [iI (nthJ (nL (tuA c T lo hi n a b u v true) k) k_1)]]) - 1)) T) Tree.fail (Tree.need [inI64 ((↑k : Int) + (1 : Int))] (Tree.need [AV.agg [iI c, iI T, iI lo, iI hi] = AV.agg [iI c, iI T, iI lo, iI hi], (AV.lst 4 n fun k => [iI (a k), iI (b k), iI (u k), iI (v k)]) = AV.lst 4 n fun k => [iI (a k), iI (b k), iI (u k), iI (v k)], AV.ptr 0 0 = AV.ptr 0 0, (AV.lst 2 (lenB c T lo hi n a b u v) fun k => [iI (-fwB c T lo hi n a b u v k 0), iI (fwB c T lo hi n a b u v 0 k)]) = AV.lst 2 (lenB c T lo hi n a b u v) fun k => [iI (-fwB c T lo hi n a b u v k 0), iI (fwB c T lo hi n a b u v 0 k)], eB c T lo hi n a b u v = eB c T lo hi n a b u v, (AV.lst 2 (lenB c T lo hi n a b u v) fun k => [iI (plB c T (-fwB c T lo hi n a b u v k 0)), iI (plB c T (fwB c T lo hi n a b u v 0 k))]) = AV.lst 2 (lenB c T lo hi n a b u v) fun k => [iI (plB c T (-fwB c T lo hi n a b u v k 0)), iI (plB c T (fwB c T lo hi n a b u v 0 k))], eB c T lo hi n a b u v = eB c T lo hi n a b u v, dtB c T lo hi n a b u v = dtB c T lo hi n a b u v, eB c T lo hi n a b u v = eB c T lo hi n a b u v, (AV.lst 1 (List.length (tuA c T lo hi n a b u v true)) fun k => [AV.lst 1 (List.length (nL (tuA c T lo hi n a b u v true) k)) fun k_1 => [iI (nthJ (nL (tuA c T lo hi n a b u v true) k) k_1)]]) = AV.lst 1 (List.length (tuA c T lo hi n a b u v true)) fun k => [AV.lst 1 (List.length (nL (tuA c T lo hi n a b u v true) k)) fun k_1 => [iI (nthJ (nL (tuA c T lo hi n a b u v true) k) k_1)]], fltB c T lo hi n a b u v true = fltB c T lo hi n a b u v true, (↑k : Int) + (1 : Int) = (↑(k + 1) : Int), c = c, T = T, lo = lo, hi = hi] (Tree.leaf AEx.normal)))))))))))))))) (Tree.need [AV.agg [iI c, iI T, iI lo, iI hi] = AV.agg [iI c, iI T, iI lo, iI hi], (AV.lst 4 n fun k => [iI (a k), iI (b k), iI (u k), iI (v k)]) = AV.lst 4 n fun k => [iI (a k), iI (b k), iI (u k), iI (v k)], AV.ptr 0 0 = AV.ptr 0 0, (AV.lst 2 (lenB c T lo hi n a b u v) fun k => [iI (-fwB c T lo hi n a b u v k 0), iI (fwB c T lo hi n a b u v 0 k)]) = AV.lst 2 (lenB c T lo hi n a b u v) fun k => [iI (-fwB c T lo hi n a b u v k 0), iI (fwB c T lo hi n a b u v 0 k)], eB c T lo hi n a b u v = eB c T lo hi n a b u v, (AV.lst 2 (lenB c T lo hi n a b u v) fun k => [iI (plB c T (-fwB c T lo hi n a b u v k 0)), iI (plB c T (fwB c T lo hi n a b u v 0 k))]) = AV.lst 2 (lenB c T lo hi n a b u v) fun k => [iI (plB c T (-fwB c T lo hi n a b u v k 0)), iI (plB c T (fwB c T lo hi n a b u v 0 k))], eB c T lo hi n a b u v = eB c T lo hi n a b u v, dtB c T lo hi n a b u v = dtB c T lo hi n a b u v, eB c T lo hi n a b u v = eB c T lo hi n a b u v, (AV.lst 1 (List.length (tuA c T lo hi n a b u v true)) fun k => [AV.lst 1 (List.length (nL (tuA c T lo hi n a b u v true) k)) fun k_1 => [iI (nthJ (nL (tuA c T lo hi n a b u v true) k) k_1)]]) = AV.lst 1 (List.length (tuA c T lo hi n a b u v true)) fun k => [AV.lst 1 (List.length (nL (tuA c T lo hi n a b u v true) k)) fun k_1 => [iI (nthJ (nL (tuA c T lo hi n a b u v true) k) k_1)]], fltB c T lo hi n a b u v true = fltB c T lo hi n a b u v true, (↑k : Int) = c + (1 : Int), c = c, T = T, lo = lo, hi = hi] (Tree.leaf (AEx.exit 0)))) := by kernel_rfl
    rw [e]
    simp only [T_hh, out_hh, Tree.sat, Option.getD_some] at hQ
    have h1 : flt c T lo hi n a b u v = 0 := (fltB_iff.1 pre0).1
    have h2 : okB c T lo hi n a b u v = true := (fltB_iff.1 pre0).2.2
    have hb := tube_bd (flt_iff.1 h1).1
    have hr := rdOk_of (n := n) (a := a) (b := b) (u := u) (v := v) hb.1 (flt_iff.1 h1).2.2
    have hA : tuA c T lo hi n a b u v true = tuL c T lo hi n a b u v := tuA_t pre0
    have hl : lenB c T lo hi n a b u v = c.toNat + 1 := if_pos pre0
    have hok := ok_tu h1 h2 pre1
    have hB := fun hk => tu_bd h1 h2 (k := k) hk
    simp only [Tree.sat, allP, fitP, fitL, valEq, inI64, true_and, and_true, decide_eq_true_eq, decide_eq_false_iff_not, Int.toNat_natCast, lol_LL, hA, hl, Bool.not_eq_true', Bool.not_eq_false', bne_iff_ne, ne_eq, bne_eq_false_iff_eq, Bool.and_true, Bool.and_eq_true, beq_iff_eq]
    clear e
    refine ⟨fun h => ?_, fun h => ?_⟩
    · obtain ⟨e1, e2⟩ := hB (by omega)
      rw [e1, e2]
      have t1 := tr_range (by omega) (tr_lo hb.2.1 hr h2) (x := k) (by omega)
      have t2 := tr_range (by omega) (tr_hi hb.2.1 hr h2) (x := k) (by omega)
      have m1 := mul_bd (x := 1000 * c) (y := -fwB c T lo hi n a b u v k 0) (X := 10000) (Y := 2000) (by omega) (by have : 0 ≤ -fwB c T lo hi n a b u v k 0 ∧ -fwB c T lo hi n a b u v k 0 ≤ T := t1; omega)
      have m2 := tdiv_le (b := T) m1
      have m3 := mul_bd (x := 1000 * c) (y := fwB c T lo hi n a b u v 0 k) (X := 10000) (Y := 2000) (by omega) (by have : 0 ≤ fwB c T lo hi n a b u v 0 k ∧ fwB c T lo hi n a b u v 0 k ≤ T := t2; omega)
      have m4 := tdiv_le (b := T) m3
      simp only [beq_self_eq_true, Bool.and_self, Bool.not_true]
      (repeat' first | with_reducible apply And.intro | with_reducible intro _)
      all_goals first | exact True.intro | omega | with_reducible rfl | exact isLL_LL _ | exact ⟨_, hok, by omega, by omega⟩ | (rename_i h; exact absurd rfl h) | (rename_i h; cases h; done) | rfl
    · (repeat' first | with_reducible apply And.intro | with_reducible intro _)
      all_goals first | exact True.intro | omega | with_reducible rfl | (rename_i E hE; cases hE; exact hQ) | rfl

set_option maxRecDepth 100000 in
theorem BoreHeights_at (c T lo hi : Int) (n : Nat) (a b u v : Nat → Int) : SoundAt Try.prog 7 [.agg [i c, i T, i lo, i hi], rds n a b u v] (bl true) := by
  refine soundAt_finX (G := [(19, S_Few), (22, S_lTube), (23, S_lReadings), (29, S_Heights), (35, S_Places), (36, S_Doubt), (20, S_wakes), (37, S_rDoubt), (38, S_rBounds), (24, S_lto)]) (X := { R := [], H := [], C := [(25, C_truths)] }) (L := [needSp [eB c T lo hi n a b u v = 0, (allV T lo hi (c.toNat - 1) []).length ≤ 1000000] (LS_hh c T lo hi n a b u v)]) (SoundG.cons Few_ok (SoundG.cons lTube_ok (SoundG.cons lReadings_ok (SoundG.cons Heights_ok (SoundG.cons Places_ok (SoundG.cons Doubt_ok (SoundG.cons wakes_ok (SoundG.cons rDoubt_ok (SoundG.cons rBounds_ok (SoundG.cons lto_ok (SoundG.nil _))))))))))) (SoundX.ofC (SoundRL.nil _) (SoundHL.nil _) (SoundCL.cons truths_okC (SoundCL.nil _))) mixed Try.func7 (show Try.f7.body = some (bodyOf Try.f7) by kernel_rfl) (one_loop (fun cj hcj => by
    have e : loopAt (bodyOf Try.f7) 0 = some (.loop B_hh) := by kernel_rfl
    rw [e] at hcj; cases hcj
    exact (needSp_sound (ps := [eB c T lo hi n a b u v = 0, (allV T lo hi (c.toNat - 1) []).length ≤ 1000000]) (fun h => hh_ls c T lo hi n a b u v h.1 h.2)).N)) (t := (Tree.need [isRec 4 n fun k => [i (a k), i (b k), i (u k), i (v k)]] (Tree.branch (!fewB c T lo hi n a b u v) (Tree.leaf (RV.x (Value.bool true))) (Tree.need [isRec 4 n fun k => [i (a k), i (b k), i (u k), i (v k)], n ≤ 100000] (Tree.need [isRec 4 n fun k => [i (a k), i (b k), i (u k), i (v k)]] (Tree.need [isRec 4 n fun k => [i (a k), i (b k), i (u k), i (v k)], n ≤ 100000] (Tree.need [isRec 4 n fun k => [i (a k), i (b k), i (u k), i (v k)]] (Tree.need [isRec 4 n fun k => [i (a k), i (b k), i (u k), i (v k)], n ≤ 100000] (Tree.need [isRec 4 n fun k => [i (a k), i (b k), i (u k), i (v k)]] (Tree.need [isRec 4 n fun k => [i (a k), i (b k), i (u k), i (v k)], flt c T lo hi n a b u v = (0 : Int) → List.length (allV T lo hi (Int.toNat c - 1) []) ≤ 1000000] (Tree.branch (fltB c T lo hi n a b u v true != (0 : Int)) (Tree.branch (eB c T lo hi n a b u v == fltB c T lo hi n a b u v true) (Tree.branch (eB c T lo hi n a b u v == fltB c T lo hi n a b u v true) (Tree.branch (eB c T lo hi n a b u v == fltB c T lo hi n a b u v true) (Tree.need [inI64 ((↑(lenB c T lo hi n a b u v) : Int) + (↑(lenB c T lo hi n a b u v) : Int))] (Tree.branch ((↑(lenB c T lo hi n a b u v) : Int) + (↑(lenB c T lo hi n a b u v) : Int) == (0 : Int)) (Tree.branch (dtB c T lo hi n a b u v == (0 : Int)) (Tree.leaf (RV.x (Value.bool true))) (Tree.leaf (RV.x (Value.bool false)))) (Tree.leaf (RV.x (Value.bool false))))) (Tree.leaf (RV.x (Value.bool false)))) (Tree.leaf (RV.x (Value.bool false)))) (Tree.leaf (RV.x (Value.bool false)))) (Tree.branch (eB c T lo hi n a b u v != (0 : Int)) (Tree.leaf (RV.x (Value.bool false))) (Tree.branch (eB c T lo hi n a b u v != (0 : Int)) (Tree.leaf (RV.x (Value.bool false))) (Tree.branch (eB c T lo hi n a b u v != (0 : Int)) (Tree.leaf (RV.x (Value.bool false))) (Tree.need [inI64 (c + (1 : Int))] (Tree.branch ((↑(lenB c T lo hi n a b u v) : Int) != c + (1 : Int)) (Tree.leaf (RV.x (Value.bool false))) (Tree.need [inI64 (c + (1 : Int))] (Tree.branch ((↑(lenB c T lo hi n a b u v) : Int) != c + (1 : Int)) (Tree.leaf (RV.x (Value.bool false))) (Tree.need [isLL (List.length (tuA c T lo hi n a b u v true)) fun k => [LI (nL (tuA c T lo hi n a b u v true) k)], (1 : Int) ≤ c ∧ c ≤ (10 : Int), okLL (Int.toNat c) (lolOf (List.length (tuA c T lo hi n a b u v true)) fun k => [LI (nL (tuA c T lo hi n a b u v true) k)])] (Tree.branch (dtB c T lo hi n a b u v != dbL (lolOf (List.length (tuA c T lo hi n a b u v true)) fun k => [LI (nL (tuA c T lo hi n a b u v true) k)]) (Int.toNat c + 1)) (Tree.leaf (RV.x (Value.bool false))) (Tree.need [eB c T lo hi n a b u v = (0 : Int), List.length (allV T lo hi (Int.toNat c - 1) []) ≤ 1000000] (Tree.need [AV.agg [iI c, iI T, iI lo, iI hi] = AV.agg [iI c, iI T, iI lo, iI hi], (AV.lst 4 n fun k => [iI (a k), iI (b k), iI (u k), iI (v k)]) = AV.lst 4 n fun k => [iI (a k), iI (b k), iI (u k), iI (v k)], AV.ptr 0 0 = AV.ptr 0 0, (AV.lst 2 (lenB c T lo hi n a b u v) fun k => [iI (-fwB c T lo hi n a b u v k 0), iI (fwB c T lo hi n a b u v 0 k)]) = AV.lst 2 (lenB c T lo hi n a b u v) fun k => [iI (-fwB c T lo hi n a b u v k 0), iI (fwB c T lo hi n a b u v 0 k)], eB c T lo hi n a b u v = eB c T lo hi n a b u v, (AV.lst 2 (lenB c T lo hi n a b u v) fun k => [iI (plB c T (-fwB c T lo hi n a b u v k 0)), iI (plB c T (fwB c T lo hi n a b u v 0 k))]) = AV.lst 2 (lenB c T lo hi n a b u v) fun k => [iI (plB c T (-fwB c T lo hi n a b u v k 0)), iI (plB c T (fwB c T lo hi n a b u v 0 k))], eB c T lo hi n a b u v = eB c T lo hi n a b u v, dtB c T lo hi n a b u v = dtB c T lo hi n a b u v, eB c T lo hi n a b u v = eB c T lo hi n a b u v, (AV.lst 1 (List.length (tuA c T lo hi n a b u v true)) fun k => [AV.lst 1 (List.length (nL (tuA c T lo hi n a b u v true) k)) fun k_1 => [iI (nthJ (nL (tuA c T lo hi n a b u v true) k) k_1)]]) = AV.lst 1 (List.length (tuA c T lo hi n a b u v true)) fun k => [AV.lst 1 (List.length (nL (tuA c T lo hi n a b u v true) k)) fun k_1 => [iI (nthJ (nL (tuA c T lo hi n a b u v true) k) k_1)]], fltB c T lo hi n a b u v true = fltB c T lo hi n a b u v true, (0 : Int) = (↑(0 : Nat) : Int), c = c, T = T, lo = lo, hi = hi] (Tree.leaf (RV.x (Value.bool true))))))))))))))))))))))))) (by kernel_rfl) ?_
  have hPA : fewB c T lo hi n a b u v = true → flt c T lo hi n a b u v = 0 → (allV T lo hi (c.toNat - 1) []).length ≤ 1000000 := fun h1 h2 => by have := (few_all h1 h2).1; omega
  have hE : fltB c T lo hi n a b u v true = eB c T lo hi n a b u v := rfl
  simp only [Tree.sat, allP, fitP, fitL, valEq, inI64, true_and, and_true, decide_eq_true_eq, decide_eq_false_iff_not, Int.toNat_natCast, lol_LL, hE, Bool.not_eq_true', Bool.not_eq_false', bne_iff_ne, ne_eq, bne_eq_false_iff_eq, Bool.and_true, Bool.and_eq_true, beq_iff_eq, beq_eq_false_iff_ne, not_true_eq_false, false_imp_iff, true_imp_iff]
  refine ⟨isRec4 n a b u v, fun _ => trivial, fun hfew => ⟨⟨isRec4 n a b u v, few_n hfew⟩, isRec4 n a b u v, ⟨isRec4 n a b u v, few_n hfew⟩, isRec4 n a b u v, ⟨isRec4 n a b u v, few_n hfew⟩, isRec4 n a b u v, ⟨isRec4 n a b u v, hPA hfew⟩, fun he => ?_, fun he => ?_⟩⟩
  · have hl : lenB c T lo hi n a b u v = 0 := if_neg he
    have hd : dtB c T lo hi n a b u v = 0 := if_neg he
    rw [hl, hd]
    (repeat' first | with_reducible apply And.intro | with_reducible intro _)
    all_goals first | exact True.intro | omega | with_reducible rfl | (rename_i h; exact absurd rfl h) | rfl
  · have h1 : flt c T lo hi n a b u v = 0 := (fltB_iff.1 he).1
    have h2 : okB c T lo hi n a b u v = true := (fltB_iff.1 he).2.2
    have hb := tube_bd (flt_iff.1 h1).1
    have hA : tuA c T lo hi n a b u v true = tuL c T lo hi n a b u v := tuA_t he
    have hl : lenB c T lo hi n a b u v = c.toNat + 1 := if_pos he
    have hok := ok_tu h1 h2 (hPA hfew h1)
    have hd : dtB c T lo hi n a b u v = dbL (tuL c T lo hi n a b u v) (c.toNat + 1) := by
      rw [tu_db h1 h2 _ (Nat.le_refl _)]
      exact if_pos he
    have hPA' := hPA hfew h1
    rw [hA, hl, hd]
    (repeat' first | with_reducible apply And.intro | with_reducible intro _)
    all_goals first | exact True.intro | omega | with_reducible rfl | exact isLL_LL _ | exact hok | exact he | (rename_i h; exact absurd he h) | (rename_i h; exact absurd rfl h) | assumption | rfl

end Go.Proofs.Ytmdeoobmeokmeaa
/- Contracts of functions of the program, by the engine Sx: what each call comes to. Printed by a program of this repo (sxgen.py). -/
set_option linter.unusedSimpArgs false
set_option linter.unusedVariables false
namespace Go.Proofs.Ytmdeoobmeokmeaa
open Go Go.Sx Go.RowKit
set_option maxRecDepth 100000 in
theorem BoreShows_at (c T lo hi : Int) (n : Nat) (a b u v : Nat → Int) (mk : Int) (r : Bool) : SoundAt Try.prog 9 [.agg [i c, i T, i lo, i hi], rds n a b u v, i mk, bl r] (bl true) := by
  refine soundAt_finX (G := [(19, S_Few), (22, S_lTube), (23, S_lReadings), (41, S_Shows), (42, S_rIn), (43, S_rIsTruth), (38, S_rBounds), (40, S_rHeight), (20, S_wakes)]) (X := { R := [], H := [], C := [(25, C_truths)] }) (L := []) (SoundG.cons Few_ok (SoundG.cons lTube_ok (SoundG.cons lReadings_ok (SoundG.cons Shows_ok (SoundG.cons rIn_ok (SoundG.cons rIsTruth_ok (SoundG.cons rBounds_ok (SoundG.cons rHeight_ok (SoundG.cons wakes_ok (SoundG.nil _)))))))))) (SoundX.ofC (SoundRL.nil _) (SoundHL.nil _) (SoundCL.cons truths_okC (SoundCL.nil _))) mixed Try.func9 (show Try.f9.body = some (bodyOf Try.f9) by kernel_rfl) noLoopsS (t := (Tree.need [isRec 4 n fun k => [i (a k), i (b k), i (u k), i (v k)]] (Tree.branch (!fewB c T lo hi n a b u v) (Tree.leaf (RV.x (Value.bool true))) (Tree.need [isRec 4 n fun k => [i (a k), i (b k), i (u k), i (v k)], n ≤ 100000] (Tree.need [isRec 4 n fun k => [i (a k), i (b k), i (u k), i (v k)]] (Tree.need [isRec 4 n fun k => [i (a k), i (b k), i (u k), i (v k)], flt c T lo hi n a b u v = (0 : Int) → List.length (allV T lo hi (Int.toNat c - 1) []) ≤ 1000000] (Tree.branch (fltB c T lo hi n a b u v (bt (0 : Int) mk c) != (0 : Int)) (Tree.branch (shE c T lo hi n a b u v mk == fltB c T lo hi n a b u v (bt (0 : Int) mk c)) (Tree.branch ((↑(shL c T lo hi n a b u v mk) : Int) == (0 : Int)) (Tree.leaf (RV.x (Value.bool true))) (Tree.leaf (RV.x (Value.bool false)))) (Tree.leaf (RV.x (Value.bool false)))) (Tree.branch (shE c T lo hi n a b u v mk != (0 : Int)) (Tree.leaf (RV.x (Value.bool false))) (Tree.need [isRec 4 n fun k => [i (a k), i (b k), i (u k), i (v k)], isRec 1 (shL c T lo hi n a b u v mk) fun k => [i (shV c T lo hi n a b u v r k)], shL c T lo hi n a b u v mk ≤ 100000, flt c T lo hi n a b u v = (0 : Int)] (Tree.branch (!itB c T lo hi n a b u v (shL c T lo hi n a b u v mk) (shV c T lo hi n a b u v r)) (Tree.leaf (RV.x (Value.bool false))) (Tree.need [isLL (List.length (tuA c T lo hi n a b u v (bt (0 : Int) mk c))) fun k => [LI (nL (tuA c T lo hi n a b u v (bt (0 : Int) mk c)) k)], ∃ c_1, okLL c_1 (lolOf (List.length (tuA c T lo hi n a b u v (bt (0 : Int) mk c))) fun k => [LI (nL (tuA c T lo hi n a b u v (bt (0 : Int) mk c)) k)]) ∧ (0 : Int) ≤ mk ∧ mk ≤ (↑c_1 : Int)] (Tree.branch r (Tree.need [isRec 1 (shL c T lo hi n a b u v mk) fun k => [i (shV c T lo hi n a b u v r k)], mk ≤ (↑(shL c T lo hi n a b u v mk) : Int), shL c T lo hi n a b u v mk ≤ 100, ∀ (k : Nat), k < shL c T lo hi n a b u v mk → (-1000000 : Int) ≤ shV c T lo hi n a b u v r k ∧ shV c T lo hi n a b u v r k ≤ (1000000 : Int)] (Tree.branch (sumF (shV c T lo hi n a b u v r) (Int.toNat mk) == mxH (lolOf (List.length (tuA c T lo hi n a b u v (bt (0 : Int) mk c))) fun k => [LI (nL (tuA c T lo hi n a b u v (bt (0 : Int) mk c)) k)]) (Int.toNat mk) (List.length (lolOf (List.length (tuA c T lo hi n a b u v (bt (0 : Int) mk c))) fun k => [LI (nL (tuA c T lo hi n a b u v (bt (0 : Int) mk c)) k)]) - 1)) (Tree.leaf (RV.x (Value.bool true))) (Tree.leaf (RV.x (Value.bool false))))) (Tree.need [isRec 1 (shL c T lo hi n a b u v mk) fun k => [i (shV c T lo hi n a b u v r k)], mk ≤ (↑(shL c T lo hi n a b u v mk) : Int), shL c T lo hi n a b u v mk ≤ 100, ∀ (k : Nat), k < shL c T lo hi n a b u v mk → (-1000000 : Int) ≤ shV c T lo hi n a b u v r k ∧ shV c T lo hi n a b u v r k ≤ (1000000 : Int)] (Tree.branch (sumF (shV c T lo hi n a b u v r) (Int.toNat mk) == mnH (lolOf (List.length (tuA c T lo hi n a b u v (bt (0 : Int) mk c))) fun k => [LI (nL (tuA c T lo hi n a b u v (bt (0 : Int) mk c)) k)]) (Int.toNat mk) (List.length (lolOf (List.length (tuA c T lo hi n a b u v (bt (0 : Int) mk c))) fun k => [LI (nL (tuA c T lo hi n a b u v (bt (0 : Int) mk c)) k)]) - 1)) (Tree.leaf (RV.x (Value.bool true))) (Tree.leaf (RV.x (Value.bool false))))))))))))))))) (by kernel_rfl) ?_
  have hPA : fewB c T lo hi n a b u v = true → flt c T lo hi n a b u v = 0 → (allV T lo hi (c.toNat - 1) []).length ≤ 1000000 := fun h1 h2 => by have := (few_all h1 h2).1; omega
  have hE : shE c T lo hi n a b u v mk = fltB c T lo hi n a b u v (bt 0 mk c) := rfl
  simp only [Tree.sat, allP, fitP, fitL, valEq, inI64, true_and, and_true, decide_eq_true_eq, decide_eq_false_iff_not, Int.toNat_natCast, lol_LL, hE, Bool.not_eq_true', Bool.not_eq_false', bne_iff_ne, ne_eq, bne_eq_false_iff_eq, Bool.and_true, Bool.and_eq_true, beq_iff_eq, beq_eq_false_iff_ne, not_true_eq_false, false_imp_iff, true_imp_iff, c10, c40, c41, c42, c43]
  refine ⟨isRec4 n a b u v, fun _ => trivial, fun hfew => ⟨⟨isRec4 n a b u v, few_n hfew⟩, isRec4 n a b u v, ⟨isRec4 n a b u v, hPA hfew⟩, fun he => ?_, fun he => ?_⟩⟩
  · have hl : shL c T lo hi n a b u v mk = 0 := if_neg he
    rw [hl]
    (repeat' first | with_reducible apply And.intro | with_reducible intro _)
    all_goals first | exact True.intro | omega | with_reducible rfl | (rename_i h; exact absurd rfl h) | rfl
  · obtain ⟨h1, h3, h2⟩ := fltB_iff.1 he
    have hb := tube_bd (flt_iff.1 h1).1
    have hm := (bt_iff _ _ _).1 h3
    have hA : tuA c T lo hi n a b u v (bt 0 mk c) = tuL c T lo hi n a b u v := tuA_t he
    have hl : shL c T lo hi n a b u v mk = c.toNat := if_pos he
    have hok := ok_tu h1 h2 (hPA hfew h1)
    obtain ⟨e1, e2⟩ := tu_bd h1 h2 (k := mk.toNat) (by omega)
    have hs := sh_sum h2
    obtain ⟨s1, s2, s3⟩ := sh_it h1 h2 r
    rw [hl, hA, e1, e2, s2]
    have f1 : r = true → sumF (shV c T lo hi n a b u v r) mk.toNat = fwB c T lo hi n a b u v 0 mk.toNat := by
      rintro rfl
      rw [hs.1]; rfl
    have f2 : r = false → sumF (shV c T lo hi n a b u v r) mk.toNat = -fwB c T lo hi n a b u v mk.toNat 0 := by
      rintro rfl
      rw [hs.2]; rfl
    (repeat' first | with_reducible apply And.intro | with_reducible intro _)
    all_goals first | exact True.intro | omega | with_reducible rfl | exact isLL_LL _ | exact ⟨_, hok, by omega, by omega⟩ | exact h1 | exact isRec4 _ _ _ _ _ | exact isRec1 _ _ | (have := s3 _ (by assumption); omega) | (rename_i h; exact absurd he h) | (rename_i h; exact absurd (f1 (by assumption)) h) | (rename_i h; exact absurd (f2 (by assumption)) h) | (rename_i h; cases h; done) | rfl


theorem rec_one (x1 x2 x3 x4 : Int) : isRec 4 1 (chunk 4 [iI x1, iI x2, iI x3, iI x4]) := fun k hk => by
  obtain rfl : k = 0 := by omega
  rfl
theorem ok_flt {c T lo hi : Int} {n : Nat} {a b u v : Nat → Int} {L : List (List Int)} (h1 : tubeB c T lo hi = true) (h2 : smLL L) (h3 : L.filter (itW c T lo hi n a b u v) ≠ []) : okLL c.toNat (L.filter (itW c T lo hi n a b u v)) := by
  have hb := tube_bd h1
  refine ⟨by omega, List.length_pos_iff.2 h3, ?_, fun j hj => ?_⟩
  · exact Nat.le_trans (List.length_filter_le _ _) h2.1
  · have hw := itW_iff (List.mem_filter.1 (getD_mem hj)).2
    refine ⟨by omega, fun k hk => ?_⟩
    have := hw.2.1 (nthJ (nL (L.filter (itW c T lo hi n a b u v)) j) k) (by
      have hk' : k < (nL (L.filter (itW c T lo hi n a b u v)) j).length := by omega
      rw [nthJ_get hk']
      exact List.getElem_mem hk')
    omega


/-- The truths behind a thread from a mark that ends in a cell, and the worst doubt behind so many of these. -/
def aftL (c T lo hi : Int) (L : List (List Int)) (mk p q : Int) (j : Nat) : List (List Int) := L.filter (itW c T lo hi 1 (fun _ => mk) (fun _ => mk + j) (fun _ => p) (fun _ => q))
def behL (c T lo hi : Int) (L : List (List Int)) (mk p q : Int) : Nat → Int
  | 0 => 0
  | j + 1 => if aftL c T lo hi L mk p q j = [] then behL c T lo hi L mk p q j else max (behL c T lo hi L mk p q j) (dbL (aftL c T lo hi L mk p q j) (c.toNat + 1))

noncomputable def E_be (c T lo hi : Int) (L : List (List Int)) (mk p q : Int) : St := (some
  {
    σ :=
      [AV.agg
          [AV.x (Value.int IntKind.i64 c), AV.x (Value.int IntKind.i64 T), AV.x (Value.int IntKind.i64 lo),
            AV.x (Value.int IntKind.i64 hi)],
        AV.lst (1 : Nat) (List.length L) fun k =>
          [AV.lst (1 : Nat) (List.length (nL L k)) fun k_1 => [AV.x (Value.int IntKind.i64 (nthJ (nL L k) k_1))]],
        AV.x (Value.int IntKind.i64 mk), AV.agg [AV.x (Value.int IntKind.i64 p), AV.x (Value.int IntKind.i64 q)],
        AV.ptr (0 : Nat) (0 : Nat), AV.top, AV.top, AV.ptr (1 : Nat) (0 : Nat), AV.x (Value.int IntKind.i64 (0 : Int)),
        AV.top, AV.top, AV.top, AV.top, AV.top, AV.top, AV.top, AV.top, AV.top, AV.top, AV.top, AV.top, AV.top, AV.top,
        AV.top, AV.top, AV.top, AV.top, AV.top, AV.top, AV.top, AV.top, AV.top, AV.top, AV.top, AV.top, AV.top],
    m :=
      [((1 : Nat), Res.cells (23 : Nat) [AV.x (Value.int IntKind.i64 p), AV.x (Value.int IntKind.i64 q)]),
        ((0 : Nat),
          Res.cells (25 : Nat)
            [AV.x (Value.int IntKind.i64 c), AV.x (Value.int IntKind.i64 T), AV.x (Value.int IntKind.i64 lo),
              AV.x (Value.int IntKind.i64 hi)])],
    nx := (6 : Nat) } : Option St).getD { σ := [], m := [], nx := 0 }
noncomputable def B_be : Code := loopBody (loopAt (bodyOf Try.f72) 0)
noncomputable def inv_be (c T lo hi : Int) (L : List (List Int)) (mk p q : Int) (j : Nat) : St := { σ := ovrS [(9, i (behL c T lo hi L mk p q j)), (10, i (mk + j))] (E_be c T lo hi L mk p q).σ, m := (E_be c T lo hi L mk p q).m, nx := (E_be c T lo hi L mk p q).nx }
noncomputable def out_be (c T lo hi : Int) (L : List (List Int)) (mk p q : Int) (j : Nat) : AEx → Option St := fun ex => match ex with
  | .exit 0 => some { σ := ovrS [(9, i (behL c T lo hi L mk p q (c + 1 - mk).toNat))] (E_be c T lo hi L mk p q).σ, m := (E_be c T lo hi L mk p q).m, nx := (E_be c T lo hi L mk p q).nx }
  | _ => none
noncomputable def T_be (c T lo hi : Int) (L : List (List Int)) (mk p q : Int) : CT := .leaf (.exit 0, ( out_be c T lo hi L mk p q 0 (.exit 0)).getD (E_be c T lo hi L mk p q))
noncomputable def LS_be (c T lo hi : Int) (L : List (List Int)) (mk p q : Int) : LSpec := normSp [] (sumL (inv_be c T lo hi L mk p q (0)) (T_be c T lo hi L mk p q))
set_option maxRecDepth 100000 in
theorem be_ls (c T lo hi : Int) (L : List (List Int)) (mk p q : Int) (pre0 : tubeB c T lo hi = true) (pre1 : 0 ≤ mk ∧ mk ≤ c - 1) (pre2 : insB 0 p q 2000 = true) (pre3 : smLL L) : LSound Try.prog (.loop B_be) (LS_be c T lo hi L mk p q) := by
  refine loop_roundsX [] (E := { R := [], H := [], C := [(53, C_rTruths)] }) (G := [(37, S_rDoubt)]) (L := []) (SoundG.cons rDoubt_ok (SoundG.nil _)) (SoundX.ofC (SoundRL.nil _) (SoundHL.nil _) (SoundCL.cons rTruths_okC (SoundCL.nil _))) mixed noLoops (X := Nat) (inv_be c T lo hi L mk p q) (fun j => j ≤ (c + 1 - mk).toNat) (fun j => (c + 1 - mk).toNat - j) (out_be c T lo hi L mk p q) (x0 := 0) (by omega) ?_ ?_ ?_
  · rintro j
    kernel_rfl
  · rintro j y E h
    unfold out_be at h
    split at h
    · cases h; kernel_rfl
    · cases h
  · rintro Q hQ j hx
    refine ⟨(j + 1), ?_⟩
    have e : roundX Try.prog [(37, S_rDoubt)] { R := [], H := [], C := [(53, C_rTruths)] } [] [] B_be (inv_be c T lo hi L mk p q j) (inv_be c T lo hi L mk p q ((j + 1))) (out_be c T lo hi L mk p q j) = (Tree.branch (decide (mk + (↑j : Int) ≤ c)) (Tree.need [isRec 4 1 (chunk 4 [iI mk, iI (mk + (↑j : Int)), iI p, iI q]), isLL (List.length L) fun k => [AV.lst 1 (List.length (nL L k)) fun k_1 => [iI (nthJ (nL L k) k_1)]], flt c T lo hi 1 (col 0 (chunk 4 [iI mk, iI (mk + (↑j : Int)), iI p, iI q])) (col 1 (chunk 4 [iI mk, iI (mk + (↑j : Int)), iI p, iI q])) (col 2 (chunk 4 [iI mk, iI (mk + (↑j : Int)), iI p, iI q])) (col 3 (chunk 4 [iI mk, iI (mk + (↑j : Int)), iI p, iI q])) = (0 : Int), smLL (lolOf (List.length L) fun k => [AV.lst 1 (List.length (nL L k)) fun k_1 => [iI (nthJ (nL L k) k_1)]])] (Tree.branch (decide ((↑(List.length (List.filter (itW c T lo hi 1 (col 0 (chunk 4 [iI mk, iI (mk + (↑j : Int)), iI p, iI q])) (col 1 (chunk 4 [iI mk, iI (mk + (↑j : Int)), iI p, iI q])) (col 2 (chunk 4 [iI mk, iI (mk + (↑j : Int)), iI p, iI q])) (col 3 (chunk 4 [iI mk, iI (mk + (↑j : Int)), iI p, iI q]))) (lolOf (List.length L) fun k => [AV.lst 1 (List.length (nL L k)) fun k_1 => [iI (nthJ (nL L k) k_1)]]))) : Int) > (0 : Int))) (Tree.need [isLL (List.length (List.filter (itW c T lo hi 1 (col 0 (chunk 4 [iI mk, iI (mk + (↑j : Int)), iI p, iI q])) (col 1 (chunk 4 [iI mk, iI (mk + (↑j : Int)), iI p, iI q])) (col 2 (chunk 4 [iI mk, iI (mk + (↑j : Int)), iI p, iI q])) (col 3 (chunk 4 [iI mk, iI (mk + (↑j : Int)), iI p, iI q]))) (lolOf (List.length L) fun k => [AV.lst 1 (List.length (nL L k)) fun k_1 => [iI (nthJ (nL L k) k_1)]]))) fun k => [LI (nL (List.filter (itW c T lo hi 1 (col 0 (chunk 4 [iI mk, iI (mk + (↑j : Int)), iI p, iI q])) (col 1 (chunk 4 [iI mk, iI (mk + (↑j : Int)), iI p, iI q])) (col 2 (chunk 4 [iI mk, iI (mk + (↑j : Int)), iI p, iI q])) (col 3 (chunk 4 [iI mk, iI (mk + (↑j : Int)), iI p, iI q]))) (lolOf (List.length L) fun k => [AV.lst 1 (List.length (nL L k)) fun k_1 => [iI (nthJ (nL L k) k_1)]])) k)], (1 : Int) ≤ c ∧ c ≤ (10 : Int), okLL (Int.toNat c) (lolOf (List.length (List.filter (itW c T lo hi 1 (col 0 (chunk 4 [iI mk, iI (mk + (↑j : Int)), iI p, iI q])) (col 1 (chunk 4 [iI mk, iI (mk + (↑j : Int)), iI p, iI q])) (col 2 (chunk 4 [iI mk, iI (mk + (↑j : Int)), iI p, iI q])) (col 3 (chunk 4 [iI mk, iI (mk + (↑j : Int)), iI p, iI q]))) (lolOf (List.length L) fun k => [AV.lst 1 (List.length (nL L k)) fun k_1 => [iI (nthJ (nL L k) k_1)]]))) fun k => [LI (nL (List.filter (itW c T lo hi 1 (col 0 (chunk 4 [iI mk, iI (mk + (↑j : Int)), iI p, iI q])) (col 1 (chunk 4 [iI mk, iI (mk + (↑j : Int)), iI p, iI q])) (col 2 (chunk 4 [iI mk, iI (mk + (↑j : Int)), iI p, iI q])) (col 3 (chunk 4 [iI mk, iI (mk + (↑j : Int)), iI p, iI q]))) (lolOf (List.length L) fun k => [AV.lst 1 (List.length (nL L k)) fun k_1 => [iI (nthJ (nL L k) k_1)]])) k)])] (Tree.need [inI64 (mk + (↑j : Int) + (1 : Int))] (Tree.need [AV.agg [iI c, iI T, iI lo, iI hi] = AV.agg [iI c, iI T, iI lo, iI hi], (AV.lst 1 (List.length L) fun k => [AV.lst 1 (List.length (nL L k)) fun k_1 => [iI (nthJ (nL L k) k_1)]]) = AV.lst 1 (List.length L) fun k => [AV.lst 1 (List.length (nL L k)) fun k_1 => [iI (nthJ (nL L k) k_1)]], mk = mk, AV.agg [iI p, iI q] = AV.agg [iI p, iI q], AV.ptr 0 0 = AV.ptr 0 0, AV.ptr 1 0 = AV.ptr 1 0, (0 : Int) = (0 : Int), max (behL c T lo hi L mk p q j) (dbL (lolOf (List.length (List.filter (itW c T lo hi 1 (col 0 (chunk 4 [iI mk, iI (mk + (↑j : Int)), iI p, iI q])) (col 1 (chunk 4 [iI mk, iI (mk + (↑j : Int)), iI p, iI q])) (col 2 (chunk 4 [iI mk, iI (mk + (↑j : Int)), iI p, iI q])) (col 3 (chunk 4 [iI mk, iI (mk + (↑j : Int)), iI p, iI q]))) (lolOf (List.length L) fun k => [AV.lst 1 (List.length (nL L k)) fun k_1 => [iI (nthJ (nL L k) k_1)]]))) fun k => [LI (nL (List.filter (itW c T lo hi 1 (col 0 (chunk 4 [iI mk, iI (mk + (↑j : Int)), iI p, iI q])) (col 1 (chunk 4 [iI mk, iI (mk + (↑j : Int)), iI p, iI q])) (col 2 (chunk 4 [iI mk, iI (mk + (↑j : Int)), iI p, iI q])) (col 3 (chunk 4 [iI mk, iI (mk + (↑j : Int)), iI p, iI q]))) (lolOf (List.length L) fun k => [AV.lst 1 (List.length (nL L k)) fun k_1 => [iI (nthJ (nL L k) k_1)]])) k)]) (Int.toNat c + 1)) = behL c T lo hi L mk p q (j + 1), mk + (↑j : Int) + (1 : Int) = mk + (↑(j + 1) : Int), p = p, q = q, c = c, T = T, lo = lo, hi = hi] (Tree.leaf AEx.normal)))) (Tree.need [inI64 (mk + (↑j : Int) + (1 : Int))] (Tree.need [AV.agg [iI c, iI T, iI lo, iI hi] = AV.agg [iI c, iI T, iI lo, iI hi], (AV.lst 1 (List.length L) fun k => [AV.lst 1 (List.length (nL L k)) fun k_1 => [iI (nthJ (nL L k) k_1)]]) = AV.lst 1 (List.length L) fun k => [AV.lst 1 (List.length (nL L k)) fun k_1 => [iI (nthJ (nL L k) k_1)]], mk = mk, AV.agg [iI p, iI q] = AV.agg [iI p, iI q], AV.ptr 0 0 = AV.ptr 0 0, AV.ptr 1 0 = AV.ptr 1 0, (0 : Int) = (0 : Int), behL c T lo hi L mk p q j = behL c T lo hi L mk p q (j + 1), mk + (↑j : Int) + (1 : Int) = mk + (↑(j + 1) : Int), p = p, q = q, c = c, T = T, lo = lo, hi = hi] (Tree.leaf AEx.normal))))) (Tree.need [AV.agg [iI c, iI T, iI lo, iI hi] = AV.agg [iI c, iI T, iI lo, iI hi], (AV.lst 1 (List.length L) fun k => [AV.lst 1 (List.length (nL L k)) fun k_1 => [iI (nthJ (nL L k) k_1)]]) = AV.lst 1 (List.length L) fun k => [AV.lst 1 (List.length (nL L k)) fun k_1 => [iI (nthJ (nL L k) k_1)]], mk = mk, AV.agg [iI p, iI q] = AV.agg [iI p, iI q], AV.ptr 0 0 = AV.ptr 0 0, AV.ptr 1 0 = AV.ptr 1 0, (0 : Int) = (0 : Int), behL c T lo hi L mk p q j = behL c T lo hi L mk p q (Int.toNat (c + (1 : Int) - mk)), p = p, q = q, c = c, T = T, lo = lo, hi = hi] (Tree.leaf (AEx.exit 0)))) := by kernel_rfl
    rw [e]
    simp only [T_be, out_be, Tree.sat, Option.getD_some] at hQ
    have hb := tube_bd pre0
    have hi1 := (insB_iff _ _ _ _).1 pre2
    have hW : List.filter (itW c T lo hi 1 (col 0 (chunk 4 [iI mk, iI (mk + (j : Int)), iI p, iI q])) (col 1 (chunk 4 [iI mk, iI (mk + (j : Int)), iI p, iI q])) (col 2 (chunk 4 [iI mk, iI (mk + (j : Int)), iI p, iI q])) (col 3 (chunk 4 [iI mk, iI (mk + (j : Int)), iI p, iI q]))) L = aftL c T lo hi L mk p q j := by
      unfold aftL
      congr 1
    have hf : mk + (j : Int) ≤ c → flt c T lo hi 1 (col 0 (chunk 4 [iI mk, iI (mk + (j : Int)), iI p, iI q])) (col 1 (chunk 4 [iI mk, iI (mk + (j : Int)), iI p, iI q])) (col 2 (chunk 4 [iI mk, iI (mk + (j : Int)), iI p, iI q])) (col 3 (chunk 4 [iI mk, iI (mk + (j : Int)), iI p, iI q])) = 0 := fun hj => by
      refine flt_ok pre0 (by omega) (allI_iff.2 fun k hk => ?_)
      obtain rfl : k = 0 := by omega
      exact rdB_of (a := mk) (b := mk + (j : Int)) (u := p) (v := q) (by omega)
    have hne : aftL c T lo hi L mk p q j ≠ [] → okLL c.toNat (aftL c T lo hi L mk p q j) := fun hne => ok_flt pre0 pre3 hne
    have e2 : behL c T lo hi L mk p q (j + 1) = if aftL c T lo hi L mk p q j = [] then behL c T lo hi L mk p q j else max (behL c T lo hi L mk p q j) (dbL (aftL c T lo hi L mk p q j) (c.toNat + 1)) := rfl
    simp only [Tree.sat, allP, fitP, fitL, valEq, inI64, true_and, and_true, decide_eq_true_eq, decide_eq_false_iff_not, Int.toNat_natCast, lol_LL, hW, gt_iff_lt]
    clear e
    refine ⟨fun h => ⟨⟨rec_one _ _ _ _, isLL_LL _, hf h, pre3⟩, fun h2 => ?_, fun h2 => ?_⟩, fun h => ?_⟩
    · have h3 : aftL c T lo hi L mk p q j ≠ [] := fun h3 => by rw [h3] at h2; simp at h2
      rw [if_neg h3] at e2
      rw [e2]
      (repeat' first | with_reducible apply And.intro | with_reducible intro _)
      all_goals first | exact True.intro | omega | with_reducible rfl | exact isLL_LL _ | exact hne h3 | rfl
    · have h3 : aftL c T lo hi L mk p q j = [] := List.eq_nil_of_length_eq_zero (by omega)
      rw [if_pos h3] at e2
      rw [e2]
      (repeat' first | with_reducible apply And.intro | with_reducible intro _)
      all_goals first | exact True.intro | omega | with_reducible rfl | rfl
    · obtain rfl : j = (c + 1 - mk).toNat := by omega
      (repeat' first | with_reducible apply And.intro | with_reducible intro _)
      all_goals first | exact True.intro | omega | with_reducible rfl | (rename_i E hE; cases hE; exact hQ) | rfl

set_option maxRecDepth 100000 in
theorem rBehind_at (c T lo hi : Int) (L : List (List Int)) (mk p q : Int) (pre0 : tubeB c T lo hi = true) (pre1 : 0 ≤ mk ∧ mk ≤ c - 1) (pre2 : insB 0 p q 2000 = true) (pre3 : smLL L) : SoundAt Try.prog 72 [.agg [i c, i T, i lo, i hi], LL L, i mk, .agg [i p, i q]] (i (behL c T lo hi L mk p q (c + 1 - mk).toNat)) := by
  refine soundAt_finX (G := [(37, S_rDoubt)]) (X := { R := [], H := [], C := [(53, C_rTruths)] }) (L := [LS_be c T lo hi L mk p q]) (SoundG.cons rDoubt_ok (SoundG.nil _)) (SoundX.ofC (SoundRL.nil _) (SoundHL.nil _) (SoundCL.cons rTruths_okC (SoundCL.nil _))) mixed Try.func72 (show Try.f72.body = some (bodyOf Try.f72) by kernel_rfl) (one_loop (fun cj hcj => by
    have e : loopAt (bodyOf Try.f72) 0 = some (.loop B_be) := by kernel_rfl
    rw [e] at hcj; cases hcj
    exact (be_ls c T lo hi L mk p q pre0 pre1 pre2 pre3).N)) (t := (Tree.need [AV.agg [iI c, iI T, iI lo, iI hi] = AV.agg [iI c, iI T, iI lo, iI hi], (AV.lst 1 (List.length L) fun k => [AV.lst 1 (List.length (nL L k)) fun k_1 => [iI (nthJ (nL L k) k_1)]]) = AV.lst 1 (List.length L) fun k => [AV.lst 1 (List.length (nL L k)) fun k_1 => [iI (nthJ (nL L k) k_1)]], mk = mk, AV.agg [iI p, iI q] = AV.agg [iI p, iI q], AV.ptr 0 0 = AV.ptr 0 0, AV.ptr 1 0 = AV.ptr 1 0, (0 : Int) = (0 : Int), (0 : Int) = behL c T lo hi L mk p q 0, mk = mk + (↑(0 : Nat) : Int), p = p, q = q, c = c, T = T, lo = lo, hi = hi] (Tree.leaf (RV.x (Value.int IntKind.i64 (behL c T lo hi L mk p q (Int.toNat (c + (1 : Int) - mk)))))))) (by kernel_rfl) ?_
  simp only [Tree.sat, allP, fitP, fitL, valEq, inI64, true_and, and_true]
  (repeat' first | with_reducible apply And.intro | with_reducible intro _)
  all_goals first | exact True.intro | omega | with_reducible rfl | rfl


def S_rBehind : Sx.Spec := fun l => match l with
  | [.agg [.x (.int .i64 c), .x (.int .i64 T), .x (.int .i64 lo), .x (.int .i64 hi)], .lst 1 N F, .x (.int .i64 mk), .agg [.x (.int .i64 p), .x (.int .i64 q)]] => some ([isLL N F, tubeB c T lo hi = true, 0 ≤ mk ∧ mk ≤ c - 1, insB 0 p q 2000 = true, smLL (lolOf N F)], i (behL c T lo hi (lolOf N F) mk p q (c + 1 - mk).toNat))
  | _ => none


theorem rBehind_ok : SoundSpec Try.prog 72 S_rBehind := by
  refine ⟨⟨_, Try.func72, by kernel_rfl, by kernel_rfl⟩, ?_⟩
  intro avs ns res h hn
  unfold S_rBehind at h
  split at h
  · rename_i c T lo hi N F mk p q
    cases h
    have h1 : isLL N F := hn _ (by simp)
    exact (rBehind_at c T lo hi (lolOf N F) mk p q (hn _ (by simp)) (hn _ (by simp)) (hn _ (by simp)) (hn _ (by simp))).same (.cons (.refl _) (.cons (sameLL h1) (.cons (.refl _) (.cons (.refl _) .nil))))
  · cases h


/-- The best mark, and the doubt behind it, of the first ones. -/
def rnT (c T lo hi : Int) (L : List (List Int)) (p q : Int) : Nat → Int × Int
  | 0 => (0, behL c T lo hi L 0 p q (c + 1).toNat)
  | k + 1 => if behL c T lo hi L ((k : Int) + 1) p q (c + 1 - ((k : Int) + 1)).toNat < (rnT c T lo hi L p q k).2 then ((k : Int) + 1, behL c T lo hi L ((k : Int) + 1) p q (c + 1 - ((k : Int) + 1)).toNat) else rnT c T lo hi L p q k

noncomputable def E_rn (c T lo hi : Int) (L : List (List Int)) (p q : Int) : St := (some
  {
    σ :=
      [AV.agg
          [AV.x (Value.int IntKind.i64 c), AV.x (Value.int IntKind.i64 T), AV.x (Value.int IntKind.i64 lo),
            AV.x (Value.int IntKind.i64 hi)],
        AV.lst (1 : Nat) (List.length L) fun k =>
          [AV.lst (1 : Nat) (List.length (nL L k)) fun k_1 => [AV.x (Value.int IntKind.i64 (nthJ (nL L k) k_1))]],
        AV.agg [AV.x (Value.int IntKind.i64 p), AV.x (Value.int IntKind.i64 q)], AV.ptr (0 : Nat) (0 : Nat), AV.top,
        AV.ptr (1 : Nat) (0 : Nat), AV.x (Value.int IntKind.i64 (0 : Int)), AV.x (Value.int IntKind.i64 (0 : Int)),
        AV.top, AV.top, AV.top, AV.top, AV.top, AV.top, AV.top, AV.top, AV.top, AV.top, AV.top, AV.top, AV.top, AV.top,
        AV.top, AV.top, AV.top, AV.top, AV.top, AV.top, AV.top, AV.top, AV.top, AV.top, AV.top, AV.top],
    m :=
      [((1 : Nat), Res.cells (23 : Nat) [AV.x (Value.int IntKind.i64 p), AV.x (Value.int IntKind.i64 q)]),
        ((0 : Nat),
          Res.cells (25 : Nat)
            [AV.x (Value.int IntKind.i64 c), AV.x (Value.int IntKind.i64 T), AV.x (Value.int IntKind.i64 lo),
              AV.x (Value.int IntKind.i64 hi)])],
    nx := (11 : Nat) } : Option St).getD { σ := [], m := [], nx := 0 }
noncomputable def B_rn : Code := loopBody (loopAt (bodyOf Try.f27) 0)
noncomputable def inv_rn (c T lo hi : Int) (L : List (List Int)) (p q : Int) (k : Nat) : St := { σ := ovrS [(8, i (rnT c T lo hi L p q k).1), (9, i (rnT c T lo hi L p q k).2), (10, i ((k : Int) + 1))] (E_rn c T lo hi L p q).σ, m := (E_rn c T lo hi L p q).m, nx := (E_rn c T lo hi L p q).nx }
noncomputable def out_rn (c T lo hi : Int) (L : List (List Int)) (p q : Int) (k : Nat) : AEx → Option St := fun ex => match ex with
  | .exit 0 => some { σ := ovrS [(8, i (rnT c T lo hi L p q (c.toNat - 1)).1), (9, i (rnT c T lo hi L p q (c.toNat - 1)).2)] (E_rn c T lo hi L p q).σ, m := (E_rn c T lo hi L p q).m, nx := (E_rn c T lo hi L p q).nx }
  | _ => none
noncomputable def T_rn (c T lo hi : Int) (L : List (List Int)) (p q : Int) : CT := .leaf (.exit 0, ( out_rn c T lo hi L p q 0 (.exit 0)).getD (E_rn c T lo hi L p q))
noncomputable def LS_rn (c T lo hi : Int) (L : List (List Int)) (p q : Int) : LSpec := normSp [] (sumL (inv_rn c T lo hi L p q (0)) (T_rn c T lo hi L p q))
set_option maxRecDepth 100000 in
theorem rn_ls (c T lo hi : Int) (L : List (List Int)) (p q : Int) (pre0 : tubeB c T lo hi = true) (pre1 : insB 0 p q 2000 = true) (pre2 : smLL L) : LSound Try.prog (.loop B_rn) (LS_rn c T lo hi L p q) := by
  refine loop_roundsX [] (E := { R := [], H := [] }) (G := [(72, S_rBehind)]) (L := []) (SoundG.cons rBehind_ok (SoundG.nil _)) (SoundX.of (SoundRL.nil _) (SoundHL.nil _)) mixed noLoops (X := Nat) (inv_rn c T lo hi L p q) (fun k => k + 1 ≤ c.toNat) (fun k => c.toNat - (k + 1)) (out_rn c T lo hi L p q) (x0 := 0) (by have := tube_bd pre0; omega) ?_ ?_ ?_
  · rintro k
    kernel_rfl
  · rintro k y E h
    unfold out_rn at h
    split at h
    · cases h; kernel_rfl
    · cases h
  · rintro Q hQ k hx
    refine ⟨(k + 1), ?_⟩
    have e : roundX Try.prog [(72, S_rBehind)] { R := [], H := [] } [] [] B_rn (inv_rn c T lo hi L p q k) (inv_rn c T lo hi L p q ((k + 1))) (out_rn c T lo hi L p q k) = (Tree.branch (decide ((↑k : Int) + (1 : Int) < c)) (Tree.need [isLL (List.length L) fun k => [AV.lst 1 (List.length (nL L k)) fun k_1 => [iI (nthJ (nL L k) k_1)]], tubeB c T lo hi = true, (0 : Int) ≤ (↑k : Int) + (1 : Int) ∧ (↑k : Int) + (1 : Int) ≤ c - (1 : Int), insB (0 : Int) p q (2000 : Int) = true, smLL (lolOf (List.length L) fun k => [AV.lst 1 (List.length (nL L k)) fun k_1 => [iI (nthJ (nL L k) k_1)]])] (Tree.branch (decide (behL c T lo hi (lolOf (List.length L) fun k => [AV.lst 1 (List.length (nL L k)) fun k_1 => [iI (nthJ (nL L k) k_1)]]) ((↑k : Int) + (1 : Int)) p q (Int.toNat (c + (1 : Int) - ((↑k : Int) + (1 : Int)))) < Prod.snd (rnT c T lo hi L p q k))) (Tree.need [inI64 ((↑k : Int) + (1 : Int) + (1 : Int))] (Tree.need [AV.agg [iI c, iI T, iI lo, iI hi] = AV.agg [iI c, iI T, iI lo, iI hi], (AV.lst 1 (List.length L) fun k => [AV.lst 1 (List.length (nL L k)) fun k_1 => [iI (nthJ (nL L k) k_1)]]) = AV.lst 1 (List.length L) fun k => [AV.lst 1 (List.length (nL L k)) fun k_1 => [iI (nthJ (nL L k) k_1)]], AV.agg [iI p, iI q] = AV.agg [iI p, iI q], AV.ptr 0 0 = AV.ptr 0 0, AV.ptr 1 0 = AV.ptr 1 0, (0 : Int) = (0 : Int), (0 : Int) = (0 : Int), (↑k : Int) + (1 : Int) = Prod.fst (rnT c T lo hi L p q (k + 1)), behL c T lo hi (lolOf (List.length L) fun k => [AV.lst 1 (List.length (nL L k)) fun k_1 => [iI (nthJ (nL L k) k_1)]]) ((↑k : Int) + (1 : Int)) p q (Int.toNat (c + (1 : Int) - ((↑k : Int) + (1 : Int)))) = Prod.snd (rnT c T lo hi L p q (k + 1)), (↑k : Int) + (1 : Int) + (1 : Int) = (↑(k + 1) : Int) + (1 : Int), p = p, q = q, c = c, T = T, lo = lo, hi = hi] (Tree.leaf AEx.normal))) (Tree.need [inI64 ((↑k : Int) + (1 : Int) + (1 : Int))] (Tree.need [AV.agg [iI c, iI T, iI lo, iI hi] = AV.agg [iI c, iI T, iI lo, iI hi], (AV.lst 1 (List.length L) fun k => [AV.lst 1 (List.length (nL L k)) fun k_1 => [iI (nthJ (nL L k) k_1)]]) = AV.lst 1 (List.length L) fun k => [AV.lst 1 (List.length (nL L k)) fun k_1 => [iI (nthJ (nL L k) k_1)]], AV.agg [iI p, iI q] = AV.agg [iI p, iI q], AV.ptr 0 0 = AV.ptr 0 0, AV.ptr 1 0 = AV.ptr 1 0, (0 : Int) = (0 : Int), (0 : Int) = (0 : Int), Prod.fst (rnT c T lo hi L p q k) = Prod.fst (rnT c T lo hi L p q (k + 1)), Prod.snd (rnT c T lo hi L p q k) = Prod.snd (rnT c T lo hi L p q (k + 1)), (↑k : Int) + (1 : Int) + (1 : Int) = (↑(k + 1) : Int) + (1 : Int), p = p, q = q, c = c, T = T, lo = lo, hi = hi] (Tree.leaf AEx.normal))))) (Tree.need [AV.agg [iI c, iI T, iI lo, iI hi] = AV.agg [iI c, iI T, iI lo, iI hi], (AV.lst 1 (List.length L) fun k => [AV.lst 1 (List.length (nL L k)) fun k_1 => [iI (nthJ (nL L k) k_1)]]) = AV.lst 1 (List.length L) fun k => [AV.lst 1 (List.length (nL L k)) fun k_1 => [iI (nthJ (nL L k) k_1)]], AV.agg [iI p, iI q] = AV.agg [iI p, iI q], AV.ptr 0 0 = AV.ptr 0 0, AV.ptr 1 0 = AV.ptr 1 0, (0 : Int) = (0 : Int), (0 : Int) = (0 : Int), Prod.fst (rnT c T lo hi L p q k) = Prod.fst (rnT c T lo hi L p q (Int.toNat c - 1)), Prod.snd (rnT c T lo hi L p q k) = Prod.snd (rnT c T lo hi L p q (Int.toNat c - 1)), p = p, q = q, c = c, T = T, lo = lo, hi = hi] (Tree.leaf (AEx.exit 0)))) := by kernel_rfl
    rw [e]
    simp only [T_rn, out_rn, Tree.sat, Option.getD_some] at hQ
    have hb := tube_bd pre0
    have hs : rnT c T lo hi L p q (k + 1) = if behL c T lo hi L ((k : Int) + 1) p q (c + 1 - ((k : Int) + 1)).toNat < (rnT c T lo hi L p q k).2 then ((k : Int) + 1, behL c T lo hi L ((k : Int) + 1) p q (c + 1 - ((k : Int) + 1)).toNat) else rnT c T lo hi L p q k := rfl
    simp only [Tree.sat, allP, fitP, fitL, valEq, inI64, true_and, and_true, decide_eq_true_eq, decide_eq_false_iff_not, Int.toNat_natCast, lol_LL]
    clear e
    refine ⟨fun h => ⟨⟨isLL_LL _, pre0, by omega, pre1, pre2⟩, fun h2 => ?_, fun h2 => ?_⟩, fun h => ?_⟩
    · rw [if_pos h2] at hs
      rw [hs]
      (repeat' first | with_reducible apply And.intro | with_reducible intro _)
      all_goals first | exact True.intro | omega | with_reducible rfl | rfl
    · rw [if_neg h2] at hs
      rw [hs]
      (repeat' first | with_reducible apply And.intro | with_reducible intro _)
      all_goals first | exact True.intro | omega | with_reducible rfl | rfl
    · obtain rfl : k = c.toNat - 1 := by omega
      (repeat' first | with_reducible apply And.intro | with_reducible intro _)
      all_goals first | exact True.intro | omega | with_reducible rfl | (rename_i E hE; cases hE; exact hQ) | rfl

set_option maxRecDepth 100000 in
theorem rNext_at (c T lo hi : Int) (L : List (List Int)) (p q : Int) (pre0 : tubeB c T lo hi = true) (pre1 : insB 0 p q 2000 = true) (pre2 : smLL L) : SoundAt Try.prog 27 [.agg [i c, i T, i lo, i hi], LL L, .agg [i p, i q]] (.tup [i (rnT c T lo hi L p q (c.toNat - 1)).1, i (rnT c T lo hi L p q (c.toNat - 1)).2]) := by
  refine soundAt_finX (G := [(72, S_rBehind)]) (X := { R := [], H := [] }) (L := [LS_rn c T lo hi L p q]) (SoundG.cons rBehind_ok (SoundG.nil _)) (SoundX.of (SoundRL.nil _) (SoundHL.nil _)) mixed Try.func27 (show Try.f27.body = some (bodyOf Try.f27) by kernel_rfl) (one_loop (fun cj hcj => by
    have e : loopAt (bodyOf Try.f27) 0 = some (.loop B_rn) := by kernel_rfl
    rw [e] at hcj; cases hcj
    exact (rn_ls c T lo hi L p q pre0 pre1 pre2).N)) (t := (Tree.need [isLL (List.length L) fun k => [LI (nL L k)], tubeB c T lo hi = true, (0 : Int) ≤ (0 : Int) ∧ (0 : Int) ≤ c - (1 : Int), insB (0 : Int) p q (2000 : Int) = true, smLL (lolOf (List.length L) fun k => [LI (nL L k)])] (Tree.need [AV.agg [iI c, iI T, iI lo, iI hi] = AV.agg [iI c, iI T, iI lo, iI hi], (AV.lst 1 (List.length L) fun k => [AV.lst 1 (List.length (nL L k)) fun k_1 => [iI (nthJ (nL L k) k_1)]]) = AV.lst 1 (List.length L) fun k => [AV.lst 1 (List.length (nL L k)) fun k_1 => [iI (nthJ (nL L k) k_1)]], AV.agg [iI p, iI q] = AV.agg [iI p, iI q], AV.ptr 0 0 = AV.ptr 0 0, AV.ptr 1 0 = AV.ptr 1 0, (0 : Int) = (0 : Int), (0 : Int) = (0 : Int), (0 : Int) = Prod.fst (rnT c T lo hi L p q 0), behL c T lo hi (lolOf (List.length L) fun k => [LI (nL L k)]) (0 : Int) p q (Int.toNat (c + (1 : Int) - (0 : Int))) = Prod.snd (rnT c T lo hi L p q 0), (1 : Int) = (↑(0 : Nat) : Int) + (1 : Int), p = p, q = q, c = c, T = T, lo = lo, hi = hi] (Tree.leaf (RV.tup [RV.x (Value.int IntKind.i64 (Prod.fst (rnT c T lo hi L p q (Int.toNat c - 1)))), RV.x (Value.int IntKind.i64 (Prod.snd (rnT c T lo hi L p q (Int.toNat c - 1))))]))))) (by kernel_rfl) ?_
  have hb := tube_bd pre0
  simp only [Tree.sat, allP, fitP, fitL, valEq, inI64, true_and, and_true, lol_LL, Int.sub_zero]
  (repeat' first | with_reducible apply And.intro | with_reducible intro _)
  all_goals first | exact True.intro | omega | with_reducible rfl | exact isLL_LL _ | exact pre0 | exact pre1 | exact pre2 | rfl


def S_rNext : Sx.Spec := fun l => match l with
  | [.agg [.x (.int .i64 c), .x (.int .i64 T), .x (.int .i64 lo), .x (.int .i64 hi)], .lst 1 N F, .agg [.x (.int .i64 p), .x (.int .i64 q)]] => some ([isLL N F, tubeB c T lo hi = true, insB 0 p q 2000 = true, smLL (lolOf N F)], .tup [i (rnT c T lo hi (lolOf N F) p q (c.toNat - 1)).1, i (rnT c T lo hi (lolOf N F) p q (c.toNat - 1)).2])
  | _ => none


theorem rNext_ok : SoundSpec Try.prog 27 S_rNext := by
  refine ⟨⟨_, Try.func27, by kernel_rfl, by kernel_rfl⟩, ?_⟩
  intro avs ns res h hn
  unfold S_rNext at h
  split at h
  · rename_i c T lo hi N F p q
    cases h
    have h1 : isLL N F := hn _ (by simp)
    exact (rNext_at c T lo hi (lolOf N F) p q (hn _ (by simp)) (hn _ (by simp)) (hn _ (by simp))).same (.cons (.refl _) (.cons (sameLL h1) (.cons (.refl _) .nil)))
  · cases h
theorem itW_ex {c T lo hi : Int} {n : Nat} {a b u v : Nat → Int} {x1 x2 x3 x4 : Int} (w : List Int) : itW c T lo hi (n + 1) (exL n a x1) (exL n b x2) (exL n u x3) (exL n v x4) w = (itW c T lo hi 1 (fun _ => x1) (fun _ => x2) (fun _ => x3) (fun _ => x4) w && itW c T lo hi n a b u v w) := by
  unfold itW itB
  have e : allI (fun j => rrB c (sumF (nthJ w)) (exL n a x1 j) (exL n b x2 j) (exL n u x3 j) (exL n v x4 j)) n = allI (fun j => rrB c (sumF (nthJ w)) (a j) (b j) (u j) (v j)) n := by
    rw [Bool.eq_iff_iff, allI_iff, allI_iff]
    constructor
    · intro h j hj
      have := h j hj
      rw [exL_lt hj, exL_lt hj, exL_lt hj, exL_lt hj] at this
      exact this
    · intro h j hj
      rw [exL_lt hj, exL_lt hj, exL_lt hj, exL_lt hj]
      exact h j hj
  simp only [allI, exL_eq, e, Bool.true_and]
  generalize cellsB c lo hi w.length (nthJ w) = x
  generalize allI _ n = y
  generalize rrB c _ x1 x2 x3 x4 = z
  generalize decide (sumF (nthJ w) c.toNat = T) = t
  cases x <;> cases y <;> cases z <;> cases t <;> rfl
theorem tuL_ex {c T lo hi : Int} {n : Nat} {a b u v : Nat → Int} {x1 x2 x3 x4 : Int} : tuL c T lo hi (n + 1) (exL n a x1) (exL n b x2) (exL n u x3) (exL n v x4) = (tuL c T lo hi n a b u v).filter (itW c T lo hi 1 (fun _ => x1) (fun _ => x2) (fun _ => x3) (fun _ => x4)) := by
  unfold tuL
  rw [List.filter_filter]
  congr 1
  funext w
  exact itW_ex w
theorem nw_beh {c T lo hi : Int} {n : Nat} {a b u v : Nat → Int} {p q : Int} {k : Nat} (hn : n ≤ 11) (h : flt c T lo hi n a b u v = 0) (hp : 0 ≤ p ∧ p ≤ q ∧ q ≤ 2000) (hk : (k : Int) < c) : ∀ j, j ≤ (c - k + 1).toNat → nwW c T lo hi n a b u v p q k j = behL c T lo hi (tuL c T lo hi n a b u v) k p q j
  | 0, _ => rfl
  | j + 1, hj => by
    have ih := nw_beh (j := j) hn h hp hk (by omega)
    have hrd : rdB c k ((k : Int) + j) p q = true := rdB_of (by omega)
    have h2 := ex_flt (x1 := k) (x2 := (k : Int) + j) (x3 := p) (x4 := q) hn h hrd
    have he : aftL c T lo hi (tuL c T lo hi n a b u v) k p q j = tuL c T lo hi (n + 1) (exL n a k) (exL n b ((k : Int) + j)) (exL n u p) (exL n v q) := tuL_ex.symm
    have ho := tu_ok h2
    unfold nwW behL
    rw [ih, he]
    by_cases h3 : tuL c T lo hi (n + 1) (exL n a k) (exL n b ((k : Int) + j)) (exL n u p) (exL n v q) = []
    · rw [if_pos h3, if_neg (show ¬ nwO c T lo hi n a b u v p q k j = true from fun h4 => (ho.1 h4) h3)]
    · have h4 := ho.2 h3
      rw [if_neg h3, if_pos (show nwO c T lo hi n a b u v p q k j = true from h4), tu_db h2 h4 _ (Nat.le_refl _)]
      rfl
theorem nx_rn {c T lo hi : Int} {n : Nat} {a b u v : Nat → Int} {p q : Int} (hn : n ≤ 11) (h : flt c T lo hi n a b u v = 0) (hp : 0 ≤ p ∧ p ≤ q ∧ q ≤ 2000) : ∀ k : Nat, (k : Int) + 1 ≤ c → nxT c T lo hi n a b u v p q (k + 1) = rnT c T lo hi (tuL c T lo hi n a b u v) p q k
  | 0, hk => by
    have h1 := nw_beh (k := 0) hn h hp (by omega) (c - (0 : Nat) + 1).toNat (Nat.le_refl _)
    have h2 := nwW_le (k := 0) hn h hp (by omega) (c - (0 : Nat) + 1).toNat (Nat.le_refl _)
    rw [show nxT c T lo hi n a b u v p q (0 + 1) = if decide (0 = 0) || decide (nwW c T lo hi n a b u v p q 0 (c - ((0 : Nat) : Int) + 1).toNat < (nxT c T lo hi n a b u v p q 0).2) then (((0 : Nat) : Int), min (nwW c T lo hi n a b u v p q 0 (c - ((0 : Nat) : Int) + 1).toNat) (dbF (sfB c T lo hi n a b u v) (c.toNat + 1))) else nxT c T lo hi n a b u v p q 0 from rfl, if_pos (by simp), Int.min_eq_left h2, h1, show (c - ((0 : Nat) : Int) + 1).toNat = (c + 1).toNat by omega]
    rfl
  | k + 1, hk => by
    have ih := nx_rn hn h hp k (by omega)
    have h1 := nw_beh (k := k + 1) hn h hp (by omega) (c - ((k + 1 : Nat) : Int) + 1).toNat (Nat.le_refl _)
    have h2 := nwW_le (k := k + 1) hn h hp (by omega) (c - ((k + 1 : Nat) : Int) + 1).toNat (Nat.le_refl _)
    have e1 : (((k + 1 : Nat) : Int)) = (k : Int) + 1 := by omega
    have e2 : (c - ((k + 1 : Nat) : Int) + 1).toNat = (c + 1 - ((k : Int) + 1)).toNat := by omega
    rw [show nxT c T lo hi n a b u v p q (k + 1 + 1) = if decide (k + 1 = 0) || decide (nwW c T lo hi n a b u v p q (k + 1) (c - ((k + 1 : Nat) : Int) + 1).toNat < (nxT c T lo hi n a b u v p q (k + 1)).2) then (((k + 1 : Nat) : Int), min (nwW c T lo hi n a b u v p q (k + 1) (c - ((k + 1 : Nat) : Int) + 1).toNat) (dbF (sfB c T lo hi n a b u v) (c.toNat + 1))) else nxT c T lo hi n a b u v p q (k + 1) from rfl]
    rw [show rnT c T lo hi (tuL c T lo hi n a b u v) p q (k + 1) = if behL c T lo hi (tuL c T lo hi n a b u v) ((k : Int) + 1) p q (c + 1 - ((k : Int) + 1)).toNat < (rnT c T lo hi (tuL c T lo hi n a b u v) p q k).2 then ((k : Int) + 1, behL c T lo hi (tuL c T lo hi n a b u v) ((k : Int) + 1) p q (c + 1 - ((k : Int) + 1)).toNat) else rnT c T lo hi (tuL c T lo hi n a b u v) p q k from rfl]
    rw [Int.min_eq_left h2, h1, ih, e2, e1]
    simp

set_option maxRecDepth 100000 in
theorem BoreNexts_at (c T lo hi : Int) (n : Nat) (a b u v : Nat → Int) (p q : Int) : SoundAt Try.prog 3 [.agg [i c, i T, i lo, i hi], rds n a b u v, .agg [i p, i q]] (bl true) := by
  refine soundAt_finX (G := [(19, S_Few), (22, S_lTube), (23, S_lReadings), (24, S_lto), (21, S_Next), (26, S_rSpan), (27, S_rNext), (20, S_wakes)]) (X := { R := [], H := [], C := [(25, C_truths)] }) (L := []) (SoundG.cons Few_ok (SoundG.cons lTube_ok (SoundG.cons lReadings_ok (SoundG.cons lto_ok (SoundG.cons Next_ok (SoundG.cons rSpan_ok (SoundG.cons rNext_ok (SoundG.cons wakes_ok (SoundG.nil _))))))))) (SoundX.ofC (SoundRL.nil _) (SoundHL.nil _) (SoundCL.cons truths_okC (SoundCL.nil _))) mixed Try.func3 (show Try.f3.body = some (bodyOf Try.f3) by kernel_rfl) noLoopsS (t := (Tree.need [isRec 4 n fun k => [i (a k), i (b k), i (u k), i (v k)]] (Tree.branch (!fewB c T lo hi n a b u v) (Tree.leaf (RV.x (Value.bool true))) (Tree.need [isRec 4 n fun k => [i (a k), i (b k), i (u k), i (v k)], n ≤ 100000] (Tree.need [isRec 4 n fun k => [i (a k), i (b k), i (u k), i (v k)]] (Tree.need [isRec 4 n fun k => [i (a k), i (b k), i (u k), i (v k)], flt c T lo hi n a b u v = (0 : Int) → List.length (allV T lo hi (Int.toNat c - 1) []) ≤ 1000000] (Tree.branch (fltB c T lo hi n a b u v (insB (0 : Int) p q (2000 : Int)) != (0 : Int)) (Tree.branch (nxE c T lo hi n a b u v p q == fltB c T lo hi n a b u v (insB (0 : Int) p q (2000 : Int))) (Tree.branch (nxRM c T lo hi n a b u v p q == (0 : Int)) (Tree.branch (nxRD c T lo hi n a b u v p q == (0 : Int)) (Tree.leaf (RV.x (Value.bool true))) (Tree.leaf (RV.x (Value.bool false)))) (Tree.leaf (RV.x (Value.bool false)))) (Tree.leaf (RV.x (Value.bool false)))) (Tree.need [isLL (List.length (tuA c T lo hi n a b u v (insB (0 : Int) p q (2000 : Int)))) fun k => [LI (nL (tuA c T lo hi n a b u v (insB (0 : Int) p q (2000 : Int))) k)], tubeB c T lo hi = true, insB (0 : Int) p q (2000 : Int) = true, smLL (lolOf (List.length (tuA c T lo hi n a b u v (insB (0 : Int) p q (2000 : Int)))) fun k => [LI (nL (tuA c T lo hi n a b u v (insB (0 : Int) p q (2000 : Int))) k)])] (Tree.branch (nxE c T lo hi n a b u v p q == (0 : Int)) (Tree.branch (nxRM c T lo hi n a b u v p q == Prod.fst (rnT c T lo hi (lolOf (List.length (tuA c T lo hi n a b u v (insB (0 : Int) p q (2000 : Int)))) fun k => [LI (nL (tuA c T lo hi n a b u v (insB (0 : Int) p q (2000 : Int))) k)]) p q (Int.toNat c - 1))) (Tree.branch (nxRD c T lo hi n a b u v p q == Prod.snd (rnT c T lo hi (lolOf (List.length (tuA c T lo hi n a b u v (insB (0 : Int) p q (2000 : Int)))) fun k => [LI (nL (tuA c T lo hi n a b u v (insB (0 : Int) p q (2000 : Int))) k)]) p q (Int.toNat c - 1))) (Tree.leaf (RV.x (Value.bool true))) (Tree.leaf (RV.x (Value.bool false)))) (Tree.leaf (RV.x (Value.bool false)))) (Tree.leaf (RV.x (Value.bool false)))))))))))) (by kernel_rfl) ?_
  have hPA : fewB c T lo hi n a b u v = true → flt c T lo hi n a b u v = 0 → (allV T lo hi (c.toNat - 1) []).length ≤ 1000000 := fun h1 h2 => by have := (few_all h1 h2).1; omega
  have hE : nxE c T lo hi n a b u v p q = fltB c T lo hi n a b u v (insB 0 p q 2000) := rfl
  simp only [Tree.sat, allP, fitP, fitL, valEq, inI64, true_and, and_true, decide_eq_true_eq, decide_eq_false_iff_not, Int.toNat_natCast, lol_LL, hE, Bool.not_eq_true', Bool.not_eq_false', bne_iff_ne, ne_eq, bne_eq_false_iff_eq, Bool.and_true, Bool.and_eq_true, beq_iff_eq, beq_eq_false_iff_ne, not_true_eq_false, false_imp_iff, true_imp_iff]
  refine ⟨isRec4 n a b u v, fun _ => trivial, fun hfew => ⟨⟨isRec4 n a b u v, few_n hfew⟩, isRec4 n a b u v, ⟨isRec4 n a b u v, hPA hfew⟩, fun he => ?_, fun he => ?_⟩⟩
  · have h1 : nxRM c T lo hi n a b u v p q = 0 := if_neg he
    have h2 : nxRD c T lo hi n a b u v p q = 0 := if_neg he
    rw [h1, h2]
    (repeat' first | with_reducible apply And.intro | with_reducible intro _)
    all_goals first | exact True.intro | omega | with_reducible rfl | (rename_i h; exact absurd rfl h) | rfl
  · obtain ⟨h1, h3, h2⟩ := fltB_iff.1 he
    have hb := tube_bd (flt_iff.1 h1).1
    have hi1 := (insB_iff _ _ _ _).1 h3
    have hA : tuA c T lo hi n a b u v (insB 0 p q 2000) = tuL c T lo hi n a b u v := tuA_t he
    have hn6 := (few_all hfew h1).2
    have hsm : smLL (tuL c T lo hi n a b u v) := by
      obtain ⟨k1, k2, k3, k4⟩ := ok_tu h1 h2 (hPA hfew h1)
      exact ⟨k3, fun k hk => by have := (k4 k hk).1; omega⟩
    have e0 := nx_rn (p := p) (q := q) (by omega : n ≤ 11) h1 (by omega) (c.toNat - 1) (by omega)
    rw [show c.toNat - 1 + 1 = c.toNat by omega] at e0
    have e1 : nxRM c T lo hi n a b u v p q = (rnT c T lo hi (tuL c T lo hi n a b u v) p q (c.toNat - 1)).1 := by
      rw [← e0]
      exact if_pos he
    have e2 : nxRD c T lo hi n a b u v p q = (rnT c T lo hi (tuL c T lo hi n a b u v) p q (c.toNat - 1)).2 := by
      rw [← e0]
      exact if_pos he
    rw [hA, e1, e2]
    (repeat' first | with_reducible apply And.intro | with_reducible intro _)
    all_goals first | exact True.intro | omega | with_reducible rfl | exact isLL_LL _ | exact (flt_iff.1 h1).1 | exact h3 | exact hsm | (rename_i h; exact absurd he h) | (rename_i h; exact absurd rfl h) | rfl

end Go.Proofs.Ytmdeoobmeokmeaa
