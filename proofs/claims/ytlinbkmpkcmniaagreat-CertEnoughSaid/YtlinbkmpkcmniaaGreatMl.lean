/- Texts of this claim, put together: BoJ, BoK, BoL -/
import Derived.Test.YtlinbkmpkcmniaaGreatMk
set_option linter.unusedSimpArgs false
set_option linter.unusedVariables false
set_option maxRecDepth 100000
namespace Go.Proofs.YtlinbkmpkcmniaaGreat.Bo
open Go Go.Sx Go.RowKit
open Go.Sx.Tree (need branch leaf)
open Go.Sx.AV (lst ptr agg roI tup top)
abbrev siteB (c T lo hi : Int) (n : Nat) (a b u v : Nat → Int) : AV := siteA c.toNat T lo hi n a b u v
def okB (c T lo hi : Int) (n : Nat) (a b u v : Nat → Int) : Bool := okR c.toNat T lo hi n a b u v
def fltB (c T lo hi : Int) (n : Nat) (a b u v : Nat → Int) (r : Bool) : Int := if flt c T lo hi n a b u v = 0 then (if r then (if okB c T lo hi n a b u v then 0 else 9) else 2) else flt c T lo hi n a b u v
theorem flt_iff {c T lo hi : Int} {n : Nat} {a b u v : Nat → Int} : flt c T lo hi n a b u v = 0 ↔ tubeB c T lo hi = true ∧ n ≤ 12 ∧ allI (fun k => rdB c (a k) (b k) (u k) (v k)) n = true := by
 unfold flt allR
 split
 ·rename_i h1
  split
  ·rename_i h2
   constructor
   ·intro h; cases h
   ·intro h; omega
  ·rename_i h2
   split
   ·rename_i h3
    exact ⟨fun _ => ⟨h1, by omega, h3⟩, fun _ => rfl⟩
   ·rename_i h3
    constructor
    ·intro h; cases h
    ·intro h; exact absurd h.2.2 h3
 ·rename_i h1
  constructor
  ·intro h; cases h
  ·intro h; exact absurd h.1 h1
theorem fltB_iff {c T lo hi : Int} {n : Nat} {a b u v : Nat → Int} {r : Bool} : fltB c T lo hi n a b u v r = 0 ↔ flt c T lo hi n a b u v = 0 ∧ r = true ∧ okB c T lo hi n a b u v = true := by
 unfold fltB
 split
 ·rename_i h1
  split
  ·rename_i h2
   split
   ·rename_i h3
    simp [h1, h2, h3]
   ·rename_i h3
    simp [h1, h2, h3]
  ·rename_i h2
   simp [h1, h2]
 ·rename_i h1
  simp [h1]
theorem tried_at (c T lo hi : Int) (n : Nat) (a b u v : Nat → Int) (r : Bool) : SoundCAt Tryz.prog 86 [.agg [i c, i T, i lo, i hi], rds n a b u v, bl r] (.branch (decide (fltB c T lo hi n a b u v r = 0)) (.leaf (.tup [siteB c T lo hi n a b u v, i 0])) (.leaf (.tup [nilP, i (fltB c T lo hi n a b u v r)]))) := by
 refine soundCAt_fin (G := [(120, S_check)]) (X := { R := [], H := [], C := [(121, C_read)] }) (L := []) (SoundG.cons check_ok (SoundG.nil _)) (SoundX.ofC (SoundRL.nil _) (SoundHL.nil _) (SoundCL.cons read_okC (SoundCL.nil _))) mixed Tryz.func86 (show Tryz.f86.body = some (bodyOf Tryz.f86) by kernel_rfl) noLoopsS (t := (need [isRec 4 n fun k => [i (a k), i (b k), i (u k), i (v k)]] (branch (flt c T lo hi n a b u v != (0 : Int)) (leaf (tup [AV.x (Value.pointer none), iI (flt c T lo hi n a b u v)])) (branch (!r) (leaf (tup [AV.x (Value.pointer none), iI (2 : Int)])) (need [isRec 4 n fun k => [i (a k), i (b k), i (u k), i (v k)], (1 : Int) ≤ c ∧ c ≤ (10 : Int), (1 : Int) ≤ lo ∧ lo ≤ hi ∧ hi ≤ (200 : Int) ∧ (1 : Int) ≤ T ∧ T ≤ (2000 : Int), n ≤ 1000, allI (fun k => rdB c (a k) (b k) (u k) (v k)) n = true] (branch (okR (Int.toNat c) T lo hi n a b u v) (leaf (tup [roI [] 125 (fun k => siteF (↑(Int.toNat c) : Int) T lo hi (fwM (Int.toNat c) T lo hi n a b u v) k) 0, iI (0 : Int)])) (leaf (tup [AV.x (Value.pointer none), iI (9 : Int)])))))))) (by kernel_rfl) ?_
 intro Q hQ
 have e : c.toNat = c ∨ c < 0 := by omega
 simp only [Tree.sat, allP, true_and, and_true, bne_iff_ne, ne_eq, decide_eq_true_eq, decide_eq_false_iff_not, Bool.not_eq_true', bne_eq_false_iff_eq] at hQ ⊢
 refine ⟨isRec4 n a b u v, fun h1 => ?_, fun h1 => ?_⟩
 ·refine ⟨.tup [nilP, i (flt c T lo hi n a b u v)], ⟨rfl, ⟨rfl, rfl⟩, True.intro⟩, ?_⟩
  have h2 : fltB c T lo hi n a b u v r = flt c T lo hi n a b u v := by unfold fltB; rw [if_neg h1]
  rw [h2] at hQ
  exact hQ.2 h1
 ·have hf := flt_iff.1 h1
  have hb := tube_bd hf.1
  refine ⟨fun h2 => ?_, fun h2 => ⟨⟨isRec4 n a b u v, hb.1, hb.2.1, by have := hf.2.1; omega, hf.2.2⟩, fun h3 => ?_, fun h3 => ?_⟩⟩
  ·subst h2
   have h4 : fltB c T lo hi n a b u v false = 2 := by unfold fltB; rw [if_pos h1]; rfl
   rw [h4] at hQ
   exact ⟨.tup [nilP, i 2], ⟨rfl, ⟨rfl, rfl⟩, True.intro⟩, hQ.2 (by omega)⟩
  ·have h2 : r = true := by simpa using h2
   subst h2
   have h4 : fltB c T lo hi n a b u v true = 0 := fltB_iff.2 ⟨h1, rfl, h3⟩
   exact ⟨.tup [siteB c T lo hi n a b u v, i 0], ⟨⟨rfl, rfl, fun _ _ => rfl, rfl⟩, ⟨rfl, rfl⟩, True.intro⟩, hQ.1 h4⟩
  ·have h2 : r = true := by simpa using h2
   subst h2
   have h4 : fltB c T lo hi n a b u v true = 9 := by unfold fltB okB; rw [if_pos h1, h3]; rfl
   rw [h4] at hQ
   exact ⟨.tup [nilP, i 9], ⟨rfl, ⟨rfl, rfl⟩, True.intro⟩, hQ.2 (by omega)⟩
noncomputable def C_tried : CSpec := fun l => match l with
 | [.agg [.x (.int .i64 c), .x (.int .i64 T), .x (.int .i64 lo), .x (.int .i64 hi)], .lst 4 n f, .x (.bool r)] => some (.need [isRec 4 n f] (.branch (decide (fltB c T lo hi n (col 0 f) (col 1 f) (col 2 f) (col 3 f) r = 0)) (.leaf (.tup [siteB c T lo hi n (col 0 f) (col 1 f) (col 2 f) (col 3 f), i 0])) (.leaf (.tup [nilP, i (fltB c T lo hi n (col 0 f) (col 1 f) (col 2 f) (col 3 f) r)]))))
 | [.agg [.x (.int .i64 c), .x (.int .i64 T), .x (.int .i64 lo), .x (.int .i64 hi)], .lst 4 n f, .lit r] => some (.need [isRec 4 n f] (.branch (decide (fltB c T lo hi n (col 0 f) (col 1 f) (col 2 f) (col 3 f) r = 0)) (.leaf (.tup [siteB c T lo hi n (col 0 f) (col 1 f) (col 2 f) (col 3 f), i 0])) (.leaf (.tup [nilP, i (fltB c T lo hi n (col 0 f) (col 1 f) (col 2 f) (col 3 f) r)]))))
 | _ => none
theorem RepL.lits {e : Env} {w : World} {r : Bool} : ∀ {l : List AV} {vs : List Value}, RepL e w (l ++ [.lit r]) vs → RepL e w (l ++ [.x (.bool r)]) vs
 | [], vs, h => by
  obtain ⟨v, vs', rfl, hv, hvs⟩ := h.cons_inv
  cases hv
  exact RepL.cons (.x _) hvs
 | a :: l, vs, h => by
  obtain ⟨v, vs', rfl, hv, hvs⟩ := h.cons_inv
  exact RepL.cons hv (RepL.lits hvs)
theorem SoundCAt.lits {P : Program} {f : FuncId} {l : List AV} {r : Bool} {t : Tree AV} (h : SoundCAt P f (l ++ [.x (.bool r)]) t) : SoundCAt P f (l ++ [.lit r]) t := fun Q hQ e w args hro hidf hr => h Q hQ e w args hro (fun a ha => by
 rcases List.mem_append.1 ha with h1 | h1
 ·exact hidf a (List.mem_append_left _ h1)
 ·cases List.mem_singleton.1 h1
  exact .x _) (RepL.lits hr)
theorem tried_okC : Enters Tryz.prog 86 ∧ ∀ avs t, C_tried avs = some t → SoundCAt Tryz.prog 86 avs t := by
 refine ⟨⟨_, Tryz.func86, by kernel_rfl, by kernel_rfl⟩, ?_⟩
 intro avs t h
 unfold C_tried at h
 split at h
 ·rename_i c T lo hi n f r
  cases h
  intro Q hQ
  have hr : isRec 4 n f := allP_mem hQ.1 _ (by simp)
  exact SoundCAt.same (tried_at c T lo hi n (col 0 f) (col 1 f) (col 2 f) (col 3 f) r) (.cons (.refl _) (.cons (.lst 4 n _ _ hr) (.cons (.refl _) .nil))) Q hQ.2
 ·rename_i c T lo hi n f r
  cases h
  intro Q hQ
  have hr : isRec 4 n f := allP_mem hQ.1 _ (by simp)
  exact SoundCAt.lits (l := [.agg [.x (.int .i64 c), .x (.int .i64 T), .x (.int .i64 lo), .x (.int .i64 hi)], .lst 4 n f]) (SoundCAt.same (tried_at c T lo hi n (col 0 f) (col 1 f) (col 2 f) (col 3 f) r) (.cons (.refl _) (.cons (.lst 4 n _ _ hr) (.cons (.refl _) .nil)))) Q hQ.2
 ·cases h
end Go.Proofs.YtlinbkmpkcmniaaGreat.Bo
namespace Go.Proofs.YtlinbkmpkcmniaaGreat.Bo
open Go Go.Sx Go.RowKit
open Go.Sx.Tree (need branch leaf)
open Go.Sx.AV (lst ptr agg roI tup top)
def eB (c T lo hi : Int) (n : Nat) (a b u v : Nat → Int) : Int := fltB c T lo hi n a b u v true
def fwB (c T lo hi : Int) (n : Nat) (a b u v : Nat → Int) : Nat → Nat → Int := fwM c.toNat T lo hi n a b u v
def sfB (c T lo hi : Int) (n : Nat) (a b u v : Nat → Int) : Nat → Int := siteF (c.toNat : Nat) T lo hi (fwB c T lo hi n a b u v)
def dtB (c T lo hi : Int) (n : Nat) (a b u v : Nat → Int) : Int := if eB c T lo hi n a b u v = 0 then dbF (sfB c T lo hi n a b u v) (c.toNat + 1) else 0
def lenB (c T lo hi : Int) (n : Nat) (a b u v : Nat → Int) : Nat := if eB c T lo hi n a b u v = 0 then c.toNat + 1 else 0
theorem rdB_v {c a b u v : Int} (h : rdB c a b u v = true) : (0 ≤ a ∧ a ≤ c - 1) ∧ (a ≤ b ∧ b ≤ c) ∧ 0 ≤ u ∧ u ≤ v ∧ v ≤ 2000 := by
 simp only [rdB, Bool.and_eq_true, bt_iff, insB_iff] at h
 omega
theorem fwM_bd {c T lo hi : Int} {n : Nat} {a b u v : Nat → Int} (h : flt c T lo hi n a b u v = 0) (x y : Nat) : -1000000000000 ≤ fwB c T lo hi n a b u v x y ∧ fwB c T lo hi n a b u v x y ≤ 2000 := by
 have hf := flt_iff.1 h
 have hb := tube_bd hf.1
 have hl := rdM_lb (c := c.toNat) (a := a) (b := b) hb.2.1 (fun j hj => (rdB_v (allI_iff.1 hf.2.2 j hj)).2.2) n (Nat.le_refl n)
 have h1 := LB_O (c := c.toNat) hl (c.toNat + 1) x y
 have h2 := pow6 c.toNat (by omega)
 rw [Int.pow_succ] at h1
 unfold fwB fwM
 omega
theorem sfB_low (c T lo hi : Int) (n : Nat) (a b u v : Nat → Int) (k : Nat) : sfB c T lo hi n a b u v (k * 11 + 4) = fwB c T lo hi n a b u v k 0 := site_get _ _ _ _ _ (by omega) (by omega)
theorem sfB_high (c T lo hi : Int) (n : Nat) (a b u v : Nat → Int) {k : Nat} (hk : k ≤ 10) : sfB c T lo hi n a b u v (k + 4) = fwB c T lo hi n a b u v 0 k := site_get _ _ _ _ _ (by omega) (by omega)
theorem chunk_mem {sz k : Nat} {l : List AV} {x : AV} (h : x ∈ chunk sz l k) : x ∈ l := List.mem_of_mem_drop (List.mem_of_mem_take h)
theorem one_of {sz k : Nat} {l : List AV} {x : AV} (hm : x ∈ chunk sz l k) (h : ∀ y ∈ l, AV.one y = true) : AV.one x = true := h x (chunk_mem hm)
theorem catF2 {k j : Nat} {a b : Nat → Int} {x y : Int} (h : j < k + 1) (hx : x = a k) (hy : y = b k) : catF k (fun k => [i (a k), i (b k)]) (chunk 2 [i x, i y]) j = [i (a j), i (b j)] := by
 have e : j - k = 0 := by omega
 show mergeL (decide (j < k)) [i (a j), i (b j)] (chunk 2 [i x, i y] (j - k)) = _
 rw [e]
 by_cases hj : j < k
 ·rw [show decide (j < k) = true by simp [hj]]
  rfl
 ·have hk : j = k := by omega
  rw [show decide (j < k) = false by simp [hj], hk, hx, hy]
  rfl
noncomputable def E_hs (c T lo hi : Int) (n : Nat) (a b u v : Nat → Int) : St := (some { σ := [.agg [i c, i T, i lo, i hi], rds n a b u v, .ptr 0 0, .top, .x (.slice none 0 0), i 0, siteB c T lo hi n a b u v, i 0, .top, .top, .top, .top, .top, .top, .top, .top, .top, .top, .top, .top, .top, i (c + 1), .top, .top, .top, .top, .top, .top, .top, .top, .top, .top, .top], m := [(900, .row 40 2 0 (fun _ => [])), (0, .cells 42 [i c, i T, i lo, i hi])], nx := 901 } : Option St).getD { σ := [], m := [], nx := 0 }
noncomputable def B_hs : Code := loopBody (loopAt (bodyOf Tryz.f70) 0)
noncomputable def inv_hs (c T lo hi : Int) (n : Nat) (a b u v : Nat → Int) (k : Nat) : St := { σ := ovrS [(8, .row 900), (22, i k)] (E_hs c T lo hi n a b u v).σ, m := [(900, .row 40 2 (k) (fun k => [i (-(fwB c T lo hi n a b u v k 0)), i (fwB c T lo hi n a b u v 0 k)])), (0, .cells 42 [i c, i T, i lo, i hi])], nx := (E_hs c T lo hi n a b u v).nx }
noncomputable def out_hs (c T lo hi : Int) (n : Nat) (a b u v : Nat → Int) (k : Nat) : AEx → Option St := fun ex => match ex with
 | .exit 0 => some { σ := ovrS [(8, .row 900)] (E_hs c T lo hi n a b u v).σ, m := [(900, .row 40 2 (c.toNat + 1) (fun k => [i (-(fwB c T lo hi n a b u v k 0)), i (fwB c T lo hi n a b u v 0 k)])), (0, .cells 42 [i c, i T, i lo, i hi])], nx := (E_hs c T lo hi n a b u v).nx }
 | _ => none
noncomputable def T_hs (c T lo hi : Int) (n : Nat) (a b u v : Nat → Int) : CT := .leaf (.exit 0, ( out_hs c T lo hi n a b u v 0 (.exit 0)).getD (E_hs c T lo hi n a b u v))
noncomputable def LS_hs (c T lo hi : Int) (n : Nat) (a b u v : Nat → Int) : LSpec := normSp [(.slot 8, 900, 40, 2)] (sumL (inv_hs c T lo hi n a b u v (0)) (T_hs c T lo hi n a b u v))
theorem hs_ls (c T lo hi : Int) (n : Nat) (a b u v : Nat → Int) (pre0 : flt c T lo hi n a b u v = 0) : LSound Tryz.prog (.loop B_hs) (LS_hs c T lo hi n a b u v) := by
 refine loop_roundsN [(.slot 8, 900, 40, 2)] (G := [(105, S_bounds)]) (L := []) (SoundG.cons bounds_ok (SoundG.nil _)) mixed noLoops (X := Nat) (inv_hs c T lo hi n a b u v) (fun k => k ≤ c.toNat + 1) (fun k => c.toNat + 1 - k) (out_hs c T lo hi n a b u v) (x0 := 0) (by simp) ?_ ?_ ?_
 ·rintro k
  kernel_rfl
 ·rintro k y E h
  unfold out_hs at h
  split at h
  ·cases h; kernel_rfl
  ·cases h
 ·rintro Q hQ k hx
  refine ⟨(k + 1), ?_⟩
  have e : roundN Tryz.prog [(105, S_bounds)] [] [(.slot 8, 900, 40, 2)] B_hs (inv_hs c T lo hi n a b u v k) (inv_hs c T lo hi n a b u v ((k + 1))) (out_hs c T lo hi n a b u v k) = (let z0 := (fwM (Int.toNat c) T lo hi n a b u v); let z1 := fwB c T lo hi n a b u v; let z2 := (lst 4 n (rq4 a b u v)); (branch (decide ((↑k : Int) < c + (1 : Int))) (need [(0 : Int) ≤ (↑k : Int) ∧ (↑k : Int) ≤ 10, (-1000000000000 : Int) ≤ siteF (↑(Int.toNat c) : Int) T lo hi z0 (k * 11 + 4) ∧ siteF (↑(Int.toNat c) : Int) T lo hi z0 (k * 11 + 4) ≤ (1000000000000 : Int)] (need [(k + 1) * 16 ≤ 140737488355328, ∀ (i : Nat), i < 1 → ∀ (a_2 : AV), a_2 ∈ chunk 2 [iI (-siteF (↑(Int.toNat c) : Int) T lo hi z0 (k * 11 + 4)), iI (siteF (↑(Int.toNat c) : Int) T lo hi z0 (k + 4))] i → AV.one a_2 = true] (need [inI64 ((↑k : Int) + 1)] (need [Eq1 (agg [iI c, iI T, iI lo, iI hi]), z2 = lst 4 n (rq4 a b u v), Eq1 (ptr 0 0), Eq1 (AV.x (Value.slice none 0 0)), Eq1 (0 : Int), Eq1 (roI [] 125 (fun k => siteF (↑(Int.toNat c) : Int) T lo hi z0 k) 0), Eq1 (0 : Int), Eq1 (AV.row 900), Eq1 (c + (1 : Int)), (↑k : Int) + 1 = (↑(k + 1) : Int), k + 1 = k + 1, ∀ (i : Nat), i < k + 1 → catF k (fun k => [Bo.i (-z1 k 0), Bo.i (z1 0 k)]) (chunk 2 [iI (-siteF (↑(Int.toNat c) : Int) T lo hi z0 (k * 11 + 4)), iI (siteF (↑(Int.toNat c) : Int) T lo hi z0 (k + 4))]) i = [Bo.i (-z1 i 0), Bo.i (z1 0 i)], c = c, T = T, lo = lo, hi = hi] (leaf AEx.normal))))) (need [Eq1 (agg [iI c, iI T, iI lo, iI hi]), z2 = lst 4 n (rq4 a b u v), Eq1 (ptr 0 0), Eq1 (AV.x (Value.slice none 0 0)), Eq1 (0 : Int), Eq1 (roI [] 125 (fun k => siteF (↑(Int.toNat c) : Int) T lo hi z0 k) 0), Eq1 (0 : Int), Eq1 (AV.row 900), Eq1 (c + (1 : Int)), k = Int.toNat c + 1, ∀ (i : Nat), i < Int.toNat c + 1 → [Bo.i (-z1 i 0), Bo.i (z1 0 i)] = [Bo.i (-z1 i 0), Bo.i (z1 0 i)], c = c, T = T, lo = lo, hi = hi] (leaf (AEx.exit 0))))) := by kernel_rfl
  rw [e]
  simp only [T_hs, out_hs, Tree.sat, Option.getD_some] at hQ
  have hc := (tube_bd (flt_iff.1 pre0).1).1
  have e0 : ((c.toNat : Nat) : Int) = c := by omega
  have eq : ∀ k, siteF c.toNat T lo hi (fwM c.toNat T lo hi n a b u v) k = sfB c T lo hi n a b u v k := fun _ => rfl
  simp only [Tree.sat, allP, fitP, fitL, valEq, inI64, true_and, and_true, decide_eq_true_eq, decide_eq_false_iff_not, Int.natCast_zero, Int.toNat_natCast, out_hs, eq]
  clear e
  refine ⟨fun h => ?_, fun h => ?_⟩
  ·have h2 := fwM_bd pre0 k 0
   have h3 := fwM_bd pre0 0 k
   refine ⟨⟨by omega, by rw [sfB_low]; omega⟩, ⟨by omega, fun i hi a ha => one_of ha (by simp [AV.one, Value.oneCell'])⟩, by omega, ⟨by omega, fun i hi => catF2 hi (by rw [sfB_low]) (by rw [sfB_high _ _ _ _ _ _ _ _ _ (by omega)])⟩, by omega, by omega⟩
  ·obtain rfl : k = c.toNat + 1 := by omega
   exact ⟨⟨rfl, fun _ _ => True.intro⟩, fun E hE => by cases hE; exact hQ⟩
theorem Heights_at1 (c T lo hi : Int) (n : Nat) (a b u v : Nat → Int) (pre0 : fltB c T lo hi n a b u v true = 0) (pre1 : flt c T lo hi n a b u v = 0) : SoundAt Tryz.prog 70 [.agg [i c, i T, i lo, i hi], rds n a b u v] (.tup [.lst 2 (lenB c T lo hi n a b u v) (fun k => [i (-(fwB c T lo hi n a b u v k 0)), i (fwB c T lo hi n a b u v 0 k)]), i (eB c T lo hi n a b u v)]) := by
 refine soundAt_finG (G := [(105, S_bounds)]) (X := { R := [], H := [], C := [(86, C_tried)] }) (L := [LS_hs c T lo hi n a b u v]) (Gd.go true (Gd.go false Gd.rest)) (SoundG.cons bounds_ok (SoundG.nil _)) (SoundX.ofC (SoundRL.nil _) (SoundHL.nil _) (SoundCL.cons tried_okC (SoundCL.nil _))) mixed Tryz.func70 (show Tryz.f70.body = some (bodyOf Tryz.f70) by kernel_rfl) (one_loop (lpE (b := .loop B_hs) (by kernel_rfl) <| (hs_ls c T lo hi n a b u v pre1).N)) (t := (let z0 := fwB c T lo hi n a b u v; (need [isRec 4 n fun k => [i (a k), i (b k), i (u k), i (v k)]] (need [decide (fltB c T lo hi n a b u v true = (0 : Int)) = true] (need [((0 : Int) != (0 : Int)) = false] (need [inI64 (c + (1 : Int))] (need [Eq1 (agg [iI c, iI T, iI lo, iI hi]), (lst 4 n (rq4 a b u v)) = lst 4 n (rq4 a b u v), Eq1 (ptr 0 0), Eq1 (AV.x (Value.slice none 0 0)), Eq1 (0 : Int), Eq1 (roI [] 125 (fun k => siteF (↑(Int.toNat c) : Int) T lo hi (fwM (Int.toNat c) T lo hi n a b u v) k) 0), Eq1 (0 : Int), Eq1 (AV.row 900), Eq1 (c + (1 : Int)), (0 : Int) = (↑(0 : Nat) : Int), 0 = 0, ∀ (i : Nat), i < 0 → [] = [Bo.i (-z0 i 0), Bo.i (z0 0 i)], c = c, T = T, lo = lo, hi = hi] (leaf (RV.tup [RV.lst 2 (Int.toNat c + 1) fun k => [iI (-z0 k 0), iI (z0 0 k)], RV.x (Value.int IntKind.i64 (0 : Int))]))))))))) (by kernel_rfl) ?_
 have hc := (tube_bd (flt_iff.1 pre1).1).1
 have hl : lenB c T lo hi n a b u v = c.toNat + 1 := if_pos pre0
 have he : eB c T lo hi n a b u v = 0 := pre0
 rw [hl, he]
 simp only [Tree.sat, allP, fitP, fitL, valEq, inI64, true_and, and_true]
 (repeat' first | with_reducible apply And.intro | with_reducible intro _)
 all_goals first | exact True.intro | with_reducible rfl | omega | exact isRec4 _ _ _ _ _ | (simp [*]; done) | (rename_i hm; simp only [List.mem_cons, List.not_mem_nil, or_false] at hm; rcases hm with rfl | rfl <;> exact True.intro)
theorem Heights_at0 (c T lo hi : Int) (n : Nat) (a b u v : Nat → Int) (pre0 : fltB c T lo hi n a b u v true ≠ 0) : SoundAt Tryz.prog 70 [.agg [i c, i T, i lo, i hi], rds n a b u v] (.tup [.lst 2 (lenB c T lo hi n a b u v) (fun k => [i (-(fwB c T lo hi n a b u v k 0)), i (fwB c T lo hi n a b u v 0 k)]), i (eB c T lo hi n a b u v)]) := by
 refine soundAt_finG (G := [(105, S_bounds)]) (X := { R := [], H := [], C := [(86, C_tried)] }) (L := []) (Gd.go false (Gd.go true Gd.rest)) (SoundG.cons bounds_ok (SoundG.nil _)) (SoundX.ofC (SoundRL.nil _) (SoundHL.nil _) (SoundCL.cons tried_okC (SoundCL.nil _))) mixed Tryz.func70 (show Tryz.f70.body = some (bodyOf Tryz.f70) by kernel_rfl) noLoopsS (t := (need [isRec 4 n fun k => [i (a k), i (b k), i (u k), i (v k)]] (need [decide (fltB c T lo hi n a b u v true = (0 : Int)) = false] (need [(fltB c T lo hi n a b u v true != (0 : Int)) = true] (leaf (RV.tup [RV.x (Value.slice none 0 0), RV.x (Value.int IntKind.i64 (fltB c T lo hi n a b u v true))])))))) (by kernel_rfl) ?_
 have hl : lenB c T lo hi n a b u v = 0 := if_neg pre0
 have he : eB c T lo hi n a b u v = fltB c T lo hi n a b u v true := rfl
 rw [hl, he]
 simp only [Tree.sat, allP, fitP, fitL, valEq, inI64, true_and, and_true]
 (repeat' first | with_reducible apply And.intro | with_reducible intro _)
 all_goals first | exact True.intro | with_reducible rfl | omega | exact isRec4 _ _ _ _ _ | (simp [*]; done)
def S_Heights : Sx.Spec := fun l => match l with
 | [.agg [.x (.int .i64 c), .x (.int .i64 T), .x (.int .i64 lo), .x (.int .i64 hi)], .lst 4 n f] => some ([isRec 4 n f], .tup [.lst 2 (lenB c T lo hi n (col 0 f) (col 1 f) (col 2 f) (col 3 f)) (fun k => [i (-(fwB c T lo hi n (col 0 f) (col 1 f) (col 2 f) (col 3 f) k 0)), i (fwB c T lo hi n (col 0 f) (col 1 f) (col 2 f) (col 3 f) 0 k)]), i (eB c T lo hi n (col 0 f) (col 1 f) (col 2 f) (col 3 f))])
 | _ => none
theorem Heights_at (c T lo hi : Int) (n : Nat) (a b u v : Nat → Int) : SoundAt Tryz.prog 70 [.agg [i c, i T, i lo, i hi], rds n a b u v] (.tup [.lst 2 (lenB c T lo hi n a b u v) (fun k => [i (-(fwB c T lo hi n a b u v k 0)), i (fwB c T lo hi n a b u v 0 k)]), i (eB c T lo hi n a b u v)]) := by
 by_cases h : fltB c T lo hi n a b u v true = 0
 ·exact Heights_at1 c T lo hi n a b u v h (fltB_iff.1 h).1
 ·exact Heights_at0 c T lo hi n a b u v h
theorem Heights_ok : SoundSpec Tryz.prog 70 S_Heights := by
 refine ⟨⟨_, Tryz.func70, by kernel_rfl, by kernel_rfl⟩, ?_⟩
 intro avs ns res h hn
 unfold S_Heights at h
 split at h
 ·rename_i c T lo hi n f
  cases h
  have hr : isRec 4 n f := hn _ (List.mem_cons_self)
  exact (Heights_at c T lo hi n (col 0 f) (col 1 f) (col 2 f) (col 3 f)).same (.cons (.refl _) (.cons (.lst 4 n _ _ hr) .nil))
 ·cases h
end Go.Proofs.YtlinbkmpkcmniaaGreat.Bo
namespace Go.Proofs.YtlinbkmpkcmniaaGreat.Bo
open Go Go.Sx Go.RowKit
open Go.Sx.Tree (need branch leaf)
open Go.Sx.AV (lst ptr agg roI tup top)
theorem tdiv_le {a b N : Int} (h : -N ≤ a ∧ a ≤ N) : -N ≤ a.tdiv b ∧ a.tdiv b ≤ N := by
 have := Int.natAbs_tdiv_le_natAbs a b
 omega
end Go.Proofs.YtlinbkmpkcmniaaGreat.Bo
