/- Texts of this claim, put together: BpE, BpF, BpG, BpH -/
import Derived.Test.YtmdeoobmeokmeaaMl
/- Contracts of functions of the program, by the engine Sx: what each call comes to. Printed by a program of this repo (sxgen.py). -/
set_option linter.unusedSimpArgs false
set_option linter.unusedVariables false
namespace Go.Proofs.Ytmdeoobmeokmeaa
open Go Go.Sx Go.RowKit

theorem allI_congr {p q : Nat → Bool} : ∀ {n : Nat}, (∀ j, j < n → p j = q j) → allI p n = allI q n
  | 0, _ => rfl
  | n + 1, h => by
    rw [Bool.eq_iff_iff, allI_iff, allI_iff]
    exact ⟨fun k j hj => by rw [← h j hj]; exact k j hj, fun k j hj => by rw [h j hj]; exact k j hj⟩
theorem flt_congr {c T lo hi : Int} {n : Nat} {a b u v a' b' u' v' : Nat → Int} (h : ∀ j, j < n → a j = a' j ∧ b j = b' j ∧ u j = u' j ∧ v j = v' j) : flt c T lo hi n a b u v = flt c T lo hi n a' b' u' v' := by
  unfold flt allR
  rw [allI_congr (q := fun k => rdB c (a' k) (b' k) (u' k) (v' k)) (fun j hj => by
    obtain ⟨h1, h2, h3, h4⟩ := h j hj
    rw [h1, h2, h3, h4])]
theorem eB_congr {c T lo hi : Int} {n : Nat} {a b u v a' b' u' v' : Nat → Int} (h : ∀ j, j < n → a j = a' j ∧ b j = b' j ∧ u j = u' j ∧ v j = v' j) : eB c T lo hi n a b u v = eB c T lo hi n a' b' u' v' ∧ lenB c T lo hi n a b u v = lenB c T lo hi n a' b' u' v' ∧ fwB c T lo hi n a b u v = fwB c T lo hi n a' b' u' v' ∧ dtB c T lo hi n a b u v = dtB c T lo hi n a' b' u' v' ∧ rdyB c T lo hi n a b u v = rdyB c T lo hi n a' b' u' v' := by
  have h1 : eB c T lo hi n a b u v = eB c T lo hi n a' b' u' v' := by
    unfold eB fltB okB
    rw [flt_congr h, okR_congr h]
  have h2 : fwB c T lo hi n a b u v = fwB c T lo hi n a' b' u' v' := by
    unfold fwB
    rw [fwM_congr h]
  refine ⟨h1, ?_, h2, ?_, ?_⟩
  · unfold lenB
    rw [h1]
  · unfold dtB sfB
    rw [h1, h2]
  · unfold rdyB
    rw [flt_congr h]
/-- A truth of more, or of narrower readings. -/
theorem tr_more {c : Nat} {T lo hi : Int} {n n' : Nat} {a b u v a' b' u' v' : Nat → Int} {h : Nat → Int} (hn : n ≤ n') (hx : ∀ j, j < n → a' j = a j ∧ b' j = b j ∧ u j ≤ u' j ∧ v' j ≤ v j) (k : Tr c T lo hi n' a' b' u' v' h) : Tr c T lo hi n a b u v h := by
  refine ⟨k.1, k.2.1, k.2.2.1, fun j hj => ?_⟩
  obtain ⟨e1, e2, h3, h4⟩ := hx j hj
  have h1 := k.2.2.2 j (by omega)
  rw [e1, e2] at h1
  exact ⟨by omega, fun hb => by have := h1.2 hb; omega⟩
theorem more_bd {c T lo hi : Int} {n n' : Nat} {a b u v a' b' u' v' : Nat → Int} (hn : n ≤ n') (hx : ∀ j, j < n → a' j = a j ∧ b' j = b j ∧ u j ≤ u' j ∧ v' j ≤ v j) (h1 : flt c T lo hi n a b u v = 0) (h2 : flt c T lo hi n' a' b' u' v' = 0) (h3 : okB c T lo hi n' a' b' u' v' = true) :
    okB c T lo hi n a b u v = true ∧ ∀ k : Nat, (k : Int) ≤ c → -fwB c T lo hi n a b u v k 0 ≤ -fwB c T lo hi n' a' b' u' v' k 0 ∧ fwB c T lo hi n' a' b' u' v' 0 k ≤ fwB c T lo hi n a b u v 0 k := by
  have hf := flt_iff.1 h1
  have hb := tube_bd hf.1
  have hr := rdOk_of hb.1 hf.2.2
  have hr2 := rdOk_of hb.1 (flt_iff.1 h2).2.2
  have tl := tr_more hn hx (tr_lo hb.2.1 hr2 h3)
  have th := tr_more hn hx (tr_hi hb.2.1 hr2 h3)
  refine ⟨ok_of_tr hb.2.1 hr tl, fun k hk => ?_⟩
  have b1 := tr_bd hb.2.1 hr tl (x := k) (by omega)
  have b2 := tr_bd hb.2.1 hr th (x := k) (by omega)
  exact ⟨b1.1, b2.2⟩


/-- A reading of which the Volume is narrower. -/
def nrU (u v : Nat → Int) (p : Nat) (d : Int) (j : Nat) : Int := if j = p then min (v j) (u j + d) else u j
def nrV (u v : Nat → Int) (p : Nat) (d e : Int) (j : Nat) : Int := if j = p then max (nrU u v p d j) (v j - e) else v j


theorem nrU_p {u v : Nat → Int} {p : Nat} {d : Int} : nrU u v p d p = min (v p) (u p + d) := if_pos rfl
theorem nrU_n {u v : Nat → Int} {p j : Nat} {d : Int} (h : j ≠ p) : nrU u v p d j = u j := if_neg h
theorem nrV_p {u v : Nat → Int} {p : Nat} {d e : Int} : nrV u v p d e p = max (min (v p) (u p + d)) (v p - e) := by
  unfold nrV
  rw [if_pos rfl, nrU_p]
theorem nrV_n {u v : Nat → Int} {p j : Nat} {d e : Int} (h : j ≠ p) : nrV u v p d e j = v j := if_neg h
theorem exL_lt {n j : Nat} {f : Nat → Int} {x : Int} (h : j < n) : exL n f x j = f j := if_pos h
theorem eB_or {c T lo hi : Int} {n : Nat} {a b u v : Nat → Int} (h : flt c T lo hi n a b u v = 0) : eB c T lo hi n a b u v = if okB c T lo hi n a b u v then 0 else 9 := by
  unfold eB fltB
  rw [if_pos h]
  rfl
theorem catE {n y : Nat} {a b u v : Nat → Int} {x1 x2 x3 x4 : Int} (h : y < n + 1) : catF (0 + n) (catF 0 (fun _ => []) fun k => [i (a k), i (b k), i (u k), i (v k)]) (chunk 4 [i x1, i x2, i x3, i x4]) y = [i (exL n a x1 y), i (exL n b x2 y), i (exL n u x3 y), i (exL n v x4 y)] := by
  have e : catF 0 (fun _ => []) (fun k => [i (a k), i (b k), i (u k), i (v k)]) = fun k => [i (a k), i (b k), i (u k), i (v k)] := by
    funext k
    show mergeL (decide (k < 0)) [] [i (a (k - 0)), i (b (k - 0)), i (u (k - 0)), i (v (k - 0))] = _
    rw [show decide (k < 0) = false by simp]
    rfl
  rw [Nat.zero_add, e]
  exact catF4x h
/-- One reading more, and one of all that is narrower. -/
theorem more_all {c T lo hi : Int} {n : Nat} {a b u v : Nat → Int} {xa xb xu xv d e : Int} {p : Nat} (hd : 0 ≤ d) (he : 0 ≤ e) (hn : n ≤ 11) (h : flt c T lo hi (n + 1) (exL n a xa) (exL n b xb) (exL n u xu) (exL n v xv) = 0) :
    flt c T lo hi n a b u v = 0 ∧ flt c T lo hi (n + 1) (exL n a xa) (exL n b xb) (nrU (exL n u xu) (exL n v xv) p d) (nrV (exL n u xu) (exL n v xv) p d e) = 0 ∧
    ∀ j, j < n → exL n a xa j = a j ∧ exL n b xb j = b j ∧ u j ≤ nrU (exL n u xu) (exL n v xv) p d j ∧ nrV (exL n u xu) (exL n v xv) p d e j ≤ v j := by
  have hf := flt_iff.1 h
  have hr := fun j (hj : j < n + 1) => rdB_v (allI_iff.1 hf.2.2 j hj)
  have key : ∀ j, j < n + 1 → exL n u xu j ≤ nrU (exL n u xu) (exL n v xv) p d j ∧ nrU (exL n u xu) (exL n v xv) p d j ≤ nrV (exL n u xu) (exL n v xv) p d e j ∧ nrV (exL n u xu) (exL n v xv) p d e j ≤ exL n v xv j := by
    intro j hj
    have h1 := hr j hj
    by_cases hp : j = p
    · subst hp
      rw [nrU_p, nrV_p]
      omega
    · rw [nrU_n hp, nrV_n hp]
      omega
  refine ⟨flt_ok hf.1 (by omega) (allI_iff.2 fun j hj => ?_), flt_ok hf.1 (by omega) (allI_iff.2 fun j hj => rdB_of ?_), fun j hj => ?_⟩
  · have h1 := allI_iff.1 hf.2.2 j (by omega)
    rw [exL_lt hj, exL_lt hj, exL_lt hj, exL_lt hj] at h1
    exact h1
  · have h1 := hr j hj
    have h2 := key j hj
    omega
  · have h2 := key j (by omega)
    rw [exL_lt hj, exL_lt hj] at h2
    exact ⟨exL_lt hj, exL_lt hj, by omega, by omega⟩

noncomputable def K_BoreMore (c T lo hi : Int) (n : Nat) (a b u v : Nat → Int) (xa xb xu xv wh by_ : Int) : St := { σ := [.agg [i c, i T, i lo, i hi], rds n a b u v, .agg [i xa, i xb, i xu, i xv], .x (.int .u8 wh), .x (.int .u8 by_), .ptr 0 0, .top, .ptr 1 0, .top, .top, .lit false, .row 900, .top, .top, .top, .top, .top, .top, .top, .top, .top, .top, .top, .top, .top, .top, .top, .top, .top, .top, .top, .top, .top, .top, .top, .top, .top, .top, .top, .top, .top, .top, .top, .top, .top, .top, .top, .top, .top, .top, .top, .top, .top, .top, .top, .top, .top, .top, .top, .top, .top, .top, .top, .top, .top, .top, .top, .top, .top, .top, .top, .top, .top, .top, .top, .top, .top, .top, .top, .top, .top, .top, .top, .top, .top, .top, .top, .top, .top, .top, .top, .top, .top, .top, .top, .top, .top, .top, .top, .top, .top, .top, .top, .top, .top, .top, .top, .top, .top, .top, .top, .top, .top, .top, .top, .top, .top], m := [(900, .row 47 4 (n + 1) (fun k => [i (exL n a xa k), i (exL n b xb k), i (exL n u xu k), i (exL n v xv k)])), (1, .cells 47 [i xa, i xb, i xu, i xv]), (0, .cells 25 [i c, i T, i lo, i hi])], nx := 2000 }
noncomputable def K2_BoreMore (c T lo hi : Int) (n : Nat) (a b u v : Nat → Int) (xa xb xu xv wh by_ : Int) : St := { σ := [.agg [i c, i T, i lo, i hi], rds n a b u v, .agg [i xa, i xb, i xu, i xv], .x (.int .u8 wh), .x (.int .u8 by_), .ptr 0 0, .top, .ptr 1 0, .top, .top, .lit false, .row 900, .top, .top, .top, .top, .top, .top, .top, .top, .top, .top, .top, .top, .top, .top, .top, .top, .top, .top, .top, .top, .top, .top, .top, .top, .top, .top, .top, .top, .top, .top, .top, .top, .top, .top, .top, .top, .top, .top, .top, .top, .top, .top, .top, .top, .top, .top, .top, .top, .top, .top, .top, .top, .top, .top, .top, .top, .top, .top, .top, .top, .top, .top, .top, .top, .top, .top, .top, .top, .top, .top, .top, .top, .top, .top, .top, .top, .top, .top, .top, .top, .top, .top, .top, .top, .top, .top, .top, .top, .top, .top, .top, .top, .top, .top, .top, .top, .top, .top, .top, .top, .top, .top, .top, .top, .top], m := [(900, .row 47 4 (n + 1) (fun k => [i (exL n a xa k), i (exL n b xb k), i ((nrU (exL n u xu) (exL n v xv) (wh.tmod ((n + 1 : Nat) : Int)).toNat (by_.tmod 5)) k), i ((nrV (exL n u xu) (exL n v xv) (wh.tmod ((n + 1 : Nat) : Int)).toNat (by_.tmod 5) ((by_.tdiv 8).tmod 5)) k)])), (1, .cells 47 [i xa, i xb, i xu, i xv]), (0, .cells 25 [i c, i T, i lo, i hi])], nx := 3000 }
set_option maxRecDepth 100000 in
theorem BoreMore_at (c T lo hi : Int) (n : Nat) (a b u v : Nat → Int) (xa xb xu xv wh by_ : Int) (pre0 : n * 32 ≤ 140737488351232) (pre1 : 0 ≤ wh ∧ wh ≤ 255) (pre2 : 0 ≤ by_ ∧ by_ ≤ 255) : SoundAt Try.prog 4 [.agg [i c, i T, i lo, i hi], rds n a b u v, .agg [i xa, i xb, i xu, i xv], .x (.int .u8 wh), .x (.int .u8 by_)] (bl true) := by
  refine soundAt_cut2 (G := [(28, S_ready), (20, S_wakes), (22, S_lTube), (23, S_lReadings), (29, S_Heights), (30, S_wider)]) (X := { R := [], H := [] }) (L := []) 2 [(.slot 11, 900, 47, 4)] (K_BoreMore c T lo hi n a b u v xa xb xu xv wh by_) 5 [] (K2_BoreMore c T lo hi n a b u v xa xb xu xv wh by_) (SoundG.cons ready_ok (SoundG.cons wakes_ok (SoundG.cons lTube_ok (SoundG.cons lReadings_ok (SoundG.cons Heights_ok (SoundG.cons wider_ok (SoundG.nil _))))))) (SoundX.of (SoundRL.nil _) (SoundHL.nil _)) mixed Try.func4 (show Try.f4.body = some (bodyOf Try.f4) by kernel_rfl) noLoopsS (by kernel_rfl) (by kernel_rfl) (t := (Tree.need [(0 + n) * 32 ≤ 140737488355328, ∀ (i : Nat), i < n → ∀ (a_2 : AV), a_2 ∈ [Ytmdeoobmeokmeaa.i (a i), Ytmdeoobmeokmeaa.i (b i), Ytmdeoobmeokmeaa.i (u i), Ytmdeoobmeokmeaa.i (v i)] → AV.one a_2 = true] (Tree.need [(0 + n + 1) * 32 ≤ 140737488355328, ∀ (i : Nat), i < 1 → ∀ (a : AV), a ∈ chunk 4 [iI xa, iI xb, iI xu, iI xv] i → AV.one a = true] (Tree.need [AV.agg [iI c, iI T, iI lo, iI hi] = AV.agg [iI c, iI T, iI lo, iI hi], (AV.lst 4 n fun k => [iI (a k), iI (b k), iI (u k), iI (v k)]) = AV.lst 4 n fun k => [iI (a k), iI (b k), iI (u k), iI (v k)], AV.agg [iI xa, iI xb, iI xu, iI xv] = AV.agg [iI xa, iI xb, iI xu, iI xv], wh = wh, by_ = by_, AV.ptr 0 0 = AV.ptr 0 0, AV.ptr 1 0 = AV.ptr 1 0, AV.lit false = AV.lit false, AV.row 900 = AV.row 900, 0 + n + 1 = n + 1, ∀ (i : Nat), i < n + 1 → catF (0 + n) (catF 0 (fun x => []) fun k => [Ytmdeoobmeokmeaa.i (a k), Ytmdeoobmeokmeaa.i (b k), Ytmdeoobmeokmeaa.i (u k), Ytmdeoobmeokmeaa.i (v k)]) (chunk 4 [iI xa, iI xb, iI xu, iI xv]) i = [Ytmdeoobmeokmeaa.i (exL n a xa i), Ytmdeoobmeokmeaa.i (exL n b xb i), Ytmdeoobmeokmeaa.i (exL n u xu i), Ytmdeoobmeokmeaa.i (exL n v xv i)], xa = xa, xb = xb, xu = xu, xv = xv, c = c, T = T, lo = lo, hi = hi] (Tree.branch (decide ((↑n : Int) > (11 : Int))) (Tree.leaf (RV.x (Value.bool true))) (Tree.need [isRec 4 (n + 1) fun k => [i (exL n a xa k), i (exL n b xb k), i (exL n u xu k), i (exL n v xv k)]] (Tree.branch (!rdyB c T lo hi (n + 1) (exL n a xa) (exL n b xb) (exL n u xu) (exL n v xv)) (Tree.leaf (RV.x (Value.bool true))) (Tree.need [inI64 wh] (Tree.need [(↑(n + 1) : Int) ≠ (0 : Int)] (Tree.need [(0 : Int) ≤ Int.tmod wh (↑(n + 1) : Int) ∧ Int.tmod wh (↑(n + 1) : Int) < (↑(n + 1) : Int)] (Tree.need [Int.toNat (Int.tmod wh (↑(n + 1) : Int)) < n + 1] (Tree.need [Int.toNat (Int.tmod wh (↑(n + 1) : Int)) < n + 1] (Tree.need [inI64 by_] (Tree.need [(5 : Int) ≠ (0 : Int)] (Tree.need [inI64 (exL n u xu (Int.toNat (Int.tmod wh (↑(n + 1) : Int))) + Int.tmod by_ (5 : Int))] (Tree.need [Int.toNat (Int.tmod wh (↑(n + 1) : Int)) < n + 1] (Tree.need [Int.toNat (Int.tmod wh (↑(n + 1) : Int)) < n + 1] (Tree.need [Int.toNat (Int.tmod wh (↑(n + 1) : Int)) < n + 1] (Tree.need [inI64 by_] (Tree.need [(8 : Int) ≠ (0 : Int), inI64 (Int.tdiv by_ (8 : Int))] (Tree.need [(5 : Int) ≠ (0 : Int)] (Tree.need [inI64 ((if decide (Int.toNat (Int.tmod wh (↑(n + 1) : Int)) = Int.toNat (Int.tmod wh (↑(n + 1) : Int))) = true then exL n v xv (Int.toNat (Int.tmod wh (↑(n + 1) : Int))) else exL n v xv (Int.toNat (Int.tmod wh (↑(n + 1) : Int)))) - Int.tmod (Int.tdiv by_ (8 : Int)) (5 : Int))] (Tree.need [Int.toNat (Int.tmod wh (↑(n + 1) : Int)) < n + 1] (Tree.need [AV.agg [iI c, iI T, iI lo, iI hi] = AV.agg [iI c, iI T, iI lo, iI hi], (AV.lst 4 n fun k => [iI (a k), iI (b k), iI (u k), iI (v k)]) = AV.lst 4 n fun k => [iI (a k), iI (b k), iI (u k), iI (v k)], AV.agg [iI xa, iI xb, iI xu, iI xv] = AV.agg [iI xa, iI xb, iI xu, iI xv], wh = wh, by_ = by_, AV.ptr 0 0 = AV.ptr 0 0, AV.ptr 1 0 = AV.ptr 1 0, AV.lit false = AV.lit false, AV.row 900 = AV.row 900, n + 1 = n + 1, ∀ (i : Nat), i < n + 1 → mergeL (decide (i = Int.toNat (Int.tmod wh (↑(n + 1) : Int)))) (iI (if decide (i = Int.toNat (Int.tmod wh (↑(n + 1) : Int))) = true then exL n a xa i else exL n a xa i) :: iI (if decide (i = Int.toNat (Int.tmod wh (↑(n + 1) : Int))) = true then exL n b xb i else exL n b xb i) :: iI (if decide (i = Int.toNat (Int.tmod wh (↑(n + 1) : Int))) = true then min (exL n v xv (Int.toNat (Int.tmod wh (↑(n + 1) : Int)))) (exL n u xu (Int.toNat (Int.tmod wh (↑(n + 1) : Int))) + Int.tmod by_ (5 : Int)) else exL n u xu i) :: iI (max (if decide (Int.toNat (Int.tmod wh (↑(n + 1) : Int)) = Int.toNat (Int.tmod wh (↑(n + 1) : Int))) = true then min (exL n v xv (Int.toNat (Int.tmod wh (↑(n + 1) : Int)))) (exL n u xu (Int.toNat (Int.tmod wh (↑(n + 1) : Int))) + Int.tmod by_ (5 : Int)) else exL n u xu (Int.toNat (Int.tmod wh (↑(n + 1) : Int)))) ((if decide (Int.toNat (Int.tmod wh (↑(n + 1) : Int)) = Int.toNat (Int.tmod wh (↑(n + 1) : Int))) = true then exL n v xv (Int.toNat (Int.tmod wh (↑(n + 1) : Int))) else exL n v xv (Int.toNat (Int.tmod wh (↑(n + 1) : Int)))) - Int.tmod (Int.tdiv by_ (8 : Int)) (5 : Int))) :: Bool.rec ((fun _ => []) ()) ((fun _ => []) ()) (decide (i = Int.toNat (Int.tmod wh (↑(n + 1) : Int))))) (mergeL (decide (i = Int.toNat (Int.tmod wh (↑(n + 1) : Int)))) [iI (exL n a xa i), iI (exL n b xb i), iI (min (exL n v xv (Int.toNat (Int.tmod wh (↑(n + 1) : Int)))) (exL n u xu (Int.toNat (Int.tmod wh (↑(n + 1) : Int))) + Int.tmod by_ (5 : Int))), iI (exL n v xv i)] [Ytmdeoobmeokmeaa.i (exL n a xa i), Ytmdeoobmeokmeaa.i (exL n b xb i), Ytmdeoobmeokmeaa.i (exL n u xu i), Ytmdeoobmeokmeaa.i (exL n v xv i)]) = [Ytmdeoobmeokmeaa.i (exL n a xa i), Ytmdeoobmeokmeaa.i (exL n b xb i), Ytmdeoobmeokmeaa.i (nrU (exL n u xu) (exL n v xv) (Int.toNat (Int.tmod wh (↑(n + 1) : Int))) (Int.tmod by_ (5 : Int)) i), Ytmdeoobmeokmeaa.i (nrV (exL n u xu) (exL n v xv) (Int.toNat (Int.tmod wh (↑(n + 1) : Int))) (Int.tmod by_ (5 : Int)) (Int.tmod (Int.tdiv by_ (8 : Int)) (5 : Int)) i)], xa = xa, xb = xb, xu = xu, xv = xv, c = c, T = T, lo = lo, hi = hi] (Tree.need [isRec 4 n fun k => [i (a k), i (b k), i (u k), i (v k)], n ≤ 100000] (Tree.need [isRec 4 n fun k => [i (a k), i (b k), i (u k), i (v k)]] (Tree.need [isRec 4 (n + 1) fun k => [i (exL n a xa k), i (exL n b xb k), i (nrU (exL n u xu) (exL n v xv) (Int.toNat (Int.tmod wh (↑(n + 1) : Int))) (Int.tmod by_ (5 : Int)) k), i (nrV (exL n u xu) (exL n v xv) (Int.toNat (Int.tmod wh (↑(n + 1) : Int))) (Int.tmod by_ (5 : Int)) (Int.tmod (Int.tdiv by_ (8 : Int)) (5 : Int)) k)], n + 1 ≤ 100000] (Tree.need [isRec 4 (n + 1) fun k => [i (exL n a xa k), i (exL n b xb k), i (nrU (exL n u xu) (exL n v xv) (Int.toNat (Int.tmod wh (↑(n + 1) : Int))) (Int.tmod by_ (5 : Int)) k), i (nrV (exL n u xu) (exL n v xv) (Int.toNat (Int.tmod wh (↑(n + 1) : Int))) (Int.tmod by_ (5 : Int)) (Int.tmod (Int.tdiv by_ (8 : Int)) (5 : Int)) k)]] (Tree.branch (eB c T lo hi (n + 1) (exL n a xa) (exL n b xb) (nrU (exL n u xu) (exL n v xv) (Int.toNat (Int.tmod wh (↑(n + 1) : Int))) (Int.tmod by_ (5 : Int))) (nrV (exL n u xu) (exL n v xv) (Int.toNat (Int.tmod wh (↑(n + 1) : Int))) (Int.tmod by_ (5 : Int)) (Int.tmod (Int.tdiv by_ (8 : Int)) (5 : Int))) == (0 : Int)) (Tree.branch (eB c T lo hi n a b u v == (0 : Int)) (Tree.need [isRec 2 (lenB c T lo hi (n + 1) (exL n a xa) (exL n b xb) (nrU (exL n u xu) (exL n v xv) (Int.toNat (Int.tmod wh (↑(n + 1) : Int))) (Int.tmod by_ (5 : Int))) (nrV (exL n u xu) (exL n v xv) (Int.toNat (Int.tmod wh (↑(n + 1) : Int))) (Int.tmod by_ (5 : Int)) (Int.tmod (Int.tdiv by_ (8 : Int)) (5 : Int)))) fun k => [i (-fwB c T lo hi (n + 1) (exL n a xa) (exL n b xb) (nrU (exL n u xu) (exL n v xv) (Int.toNat (Int.tmod wh (↑(n + 1) : Int))) (Int.tmod by_ (5 : Int))) (nrV (exL n u xu) (exL n v xv) (Int.toNat (Int.tmod wh (↑(n + 1) : Int))) (Int.tmod by_ (5 : Int)) (Int.tmod (Int.tdiv by_ (8 : Int)) (5 : Int))) k 0), i (fwB c T lo hi (n + 1) (exL n a xa) (exL n b xb) (nrU (exL n u xu) (exL n v xv) (Int.toNat (Int.tmod wh (↑(n + 1) : Int))) (Int.tmod by_ (5 : Int))) (nrV (exL n u xu) (exL n v xv) (Int.toNat (Int.tmod wh (↑(n + 1) : Int))) (Int.tmod by_ (5 : Int)) (Int.tmod (Int.tdiv by_ (8 : Int)) (5 : Int))) 0 k)], isRec 2 (lenB c T lo hi n a b u v) fun k => [i (-fwB c T lo hi n a b u v k 0), i (fwB c T lo hi n a b u v 0 k)], lenB c T lo hi (n + 1) (exL n a xa) (exL n b xb) (nrU (exL n u xu) (exL n v xv) (Int.toNat (Int.tmod wh (↑(n + 1) : Int))) (Int.tmod by_ (5 : Int))) (nrV (exL n u xu) (exL n v xv) (Int.toNat (Int.tmod wh (↑(n + 1) : Int))) (Int.tmod by_ (5 : Int)) (Int.tmod (Int.tdiv by_ (8 : Int)) (5 : Int))) ≤ 100000] (Tree.branch (decide (lenB c T lo hi (n + 1) (exL n a xa) (exL n b xb) (nrU (exL n u xu) (exL n v xv) (Int.toNat (Int.tmod wh (↑(n + 1) : Int))) (Int.tmod by_ (5 : Int))) (nrV (exL n u xu) (exL n v xv) (Int.toNat (Int.tmod wh (↑(n + 1) : Int))) (Int.tmod by_ (5 : Int)) (Int.tmod (Int.tdiv by_ (8 : Int)) (5 : Int))) = lenB c T lo hi n a b u v) && allI (wiB (fun k => -fwB c T lo hi (n + 1) (exL n a xa) (exL n b xb) (nrU (exL n u xu) (exL n v xv) (Int.toNat (Int.tmod wh (↑(n + 1) : Int))) (Int.tmod by_ (5 : Int))) (nrV (exL n u xu) (exL n v xv) (Int.toNat (Int.tmod wh (↑(n + 1) : Int))) (Int.tmod by_ (5 : Int)) (Int.tmod (Int.tdiv by_ (8 : Int)) (5 : Int))) k 0) (fwB c T lo hi (n + 1) (exL n a xa) (exL n b xb) (nrU (exL n u xu) (exL n v xv) (Int.toNat (Int.tmod wh (↑(n + 1) : Int))) (Int.tmod by_ (5 : Int))) (nrV (exL n u xu) (exL n v xv) (Int.toNat (Int.tmod wh (↑(n + 1) : Int))) (Int.tmod by_ (5 : Int)) (Int.tmod (Int.tdiv by_ (8 : Int)) (5 : Int))) 0) (fun k => -fwB c T lo hi n a b u v k 0) (fwB c T lo hi n a b u v 0)) (lenB c T lo hi (n + 1) (exL n a xa) (exL n b xb) (nrU (exL n u xu) (exL n v xv) (Int.toNat (Int.tmod wh (↑(n + 1) : Int))) (Int.tmod by_ (5 : Int))) (nrV (exL n u xu) (exL n v xv) (Int.toNat (Int.tmod wh (↑(n + 1) : Int))) (Int.tmod by_ (5 : Int)) (Int.tmod (Int.tdiv by_ (8 : Int)) (5 : Int))))) (Tree.leaf (RV.x (Value.bool true))) (Tree.leaf (RV.x (Value.bool false))))) (Tree.leaf (RV.x (Value.bool false)))) (Tree.branch (eB c T lo hi (n + 1) (exL n a xa) (exL n b xb) (nrU (exL n u xu) (exL n v xv) (Int.toNat (Int.tmod wh (↑(n + 1) : Int))) (Int.tmod by_ (5 : Int))) (nrV (exL n u xu) (exL n v xv) (Int.toNat (Int.tmod wh (↑(n + 1) : Int))) (Int.tmod by_ (5 : Int)) (Int.tmod (Int.tdiv by_ (8 : Int)) (5 : Int))) == (9 : Int)) (Tree.branch (eB c T lo hi n a b u v == (0 : Int)) (Tree.leaf (RV.x (Value.bool true))) (Tree.branch (eB c T lo hi n a b u v == (9 : Int)) (Tree.leaf (RV.x (Value.bool true))) (Tree.leaf (RV.x (Value.bool false))))) (Tree.leaf (RV.x (Value.bool false))))))))))))))))))))))))))))))))) (by kernel_rfl) ?_
  have hp := tmod_bd (x := wh) (d := ((n + 1 : Nat) : Int)) (by omega) (by omega)
  have hd1 := tmod_bd (x := by_) (d := 5) (by omega) (by omega)
  have hd0 := tdiv_bd (x := by_) (d := 8) (by omega) (by omega)
  have hd2 := tmod_bd (x := by_.tdiv 8) (d := 5) (by omega) (by omega)
  have hall := fun (hn : n ≤ 11) (h : rdyB c T lo hi (n + 1) (exL n a xa) (exL n b xb) (exL n u xu) (exL n v xv) = true) => more_all (p := (wh.tmod ((n + 1 : Nat) : Int)).toNat) hd1.1 hd2.1 hn (rdy_iff.1 h)
  have hub : n ≤ 11 → rdyB c T lo hi (n + 1) (exL n a xa) (exL n b xb) (exL n u xu) (exL n v xv) = true → (0 ≤ exL n u xu (wh.tmod ((n + 1 : Nat) : Int)).toNat ∧ exL n u xu (wh.tmod ((n + 1 : Nat) : Int)).toNat ≤ 2000) ∧ (0 ≤ exL n v xv (wh.tmod ((n + 1 : Nat) : Int)).toNat ∧ exL n v xv (wh.tmod ((n + 1 : Nat) : Int)).toNat ≤ 2000) := fun hn h => by
    have h1 := rdB_v (allI_iff.1 (flt_iff.1 (rdy_iff.1 h)).2.2 (wh.tmod ((n + 1 : Nat) : Int)).toNat (by omega))
    omega
  have hfin : n ≤ 11 → rdyB c T lo hi (n + 1) (exL n a xa) (exL n b xb) (exL n u xu) (exL n v xv) = true → (eB c T lo hi (n + 1) (exL n a xa) (exL n b xb) (nrU (exL n u xu) (exL n v xv) (wh.tmod ((n + 1 : Nat) : Int)).toNat (by_.tmod 5)) (nrV (exL n u xu) (exL n v xv) (wh.tmod ((n + 1 : Nat) : Int)).toNat (by_.tmod 5) ((by_.tdiv 8).tmod 5)) = 0 → eB c T lo hi n a b u v = 0 ∧ (decide (lenB c T lo hi (n + 1) (exL n a xa) (exL n b xb) (nrU (exL n u xu) (exL n v xv) (wh.tmod ((n + 1 : Nat) : Int)).toNat (by_.tmod 5)) (nrV (exL n u xu) (exL n v xv) (wh.tmod ((n + 1 : Nat) : Int)).toNat (by_.tmod 5) ((by_.tdiv 8).tmod 5)) = lenB c T lo hi n a b u v) && allI (wiB (fun k => -fwB c T lo hi (n + 1) (exL n a xa) (exL n b xb) (nrU (exL n u xu) (exL n v xv) (wh.tmod ((n + 1 : Nat) : Int)).toNat (by_.tmod 5)) (nrV (exL n u xu) (exL n v xv) (wh.tmod ((n + 1 : Nat) : Int)).toNat (by_.tmod 5) ((by_.tdiv 8).tmod 5)) k 0) (fun k => fwB c T lo hi (n + 1) (exL n a xa) (exL n b xb) (nrU (exL n u xu) (exL n v xv) (wh.tmod ((n + 1 : Nat) : Int)).toNat (by_.tmod 5)) (nrV (exL n u xu) (exL n v xv) (wh.tmod ((n + 1 : Nat) : Int)).toNat (by_.tmod 5) ((by_.tdiv 8).tmod 5)) 0 k) (fun k => -fwB c T lo hi n a b u v k 0) (fun k => fwB c T lo hi n a b u v 0 k)) (lenB c T lo hi (n + 1) (exL n a xa) (exL n b xb) (nrU (exL n u xu) (exL n v xv) (wh.tmod ((n + 1 : Nat) : Int)).toNat (by_.tmod 5)) (nrV (exL n u xu) (exL n v xv) (wh.tmod ((n + 1 : Nat) : Int)).toNat (by_.tmod 5) ((by_.tdiv 8).tmod 5)))) = true) ∧ (eB c T lo hi (n + 1) (exL n a xa) (exL n b xb) (nrU (exL n u xu) (exL n v xv) (wh.tmod ((n + 1 : Nat) : Int)).toNat (by_.tmod 5)) (nrV (exL n u xu) (exL n v xv) (wh.tmod ((n + 1 : Nat) : Int)).toNat (by_.tmod 5) ((by_.tdiv 8).tmod 5)) ≠ 0 → eB c T lo hi (n + 1) (exL n a xa) (exL n b xb) (nrU (exL n u xu) (exL n v xv) (wh.tmod ((n + 1 : Nat) : Int)).toNat (by_.tmod 5)) (nrV (exL n u xu) (exL n v xv) (wh.tmod ((n + 1 : Nat) : Int)).toNat (by_.tmod 5) ((by_.tdiv 8).tmod 5)) = 9) ∧ (eB c T lo hi n a b u v ≠ 0 → eB c T lo hi n a b u v = 9) ∧ lenB c T lo hi (n + 1) (exL n a xa) (exL n b xb) (nrU (exL n u xu) (exL n v xv) (wh.tmod ((n + 1 : Nat) : Int)).toNat (by_.tmod 5)) (nrV (exL n u xu) (exL n v xv) (wh.tmod ((n + 1 : Nat) : Int)).toNat (by_.tmod 5) ((by_.tdiv 8).tmod 5)) ≤ 100 := fun hn h => by
    obtain ⟨h1, h2, h3⟩ := hall hn h
    have hb := tube_bd (flt_iff.1 h1).1
    have e1 := eB_or h1
    have e2 := eB_or h2
    refine ⟨fun h0 => ?_, fun h0 => ?_, fun h0 => ?_, ?_⟩
    · have hok : okB c T lo hi (n + 1) (exL n a xa) (exL n b xb) (nrU (exL n u xu) (exL n v xv) (wh.tmod ((n + 1 : Nat) : Int)).toNat (by_.tmod 5)) (nrV (exL n u xu) (exL n v xv) (wh.tmod ((n + 1 : Nat) : Int)).toNat (by_.tmod 5) ((by_.tdiv 8).tmod 5)) = true := (fltB_iff.1 h0).2.2
      obtain ⟨k1, k2⟩ := more_bd (show n ≤ n + 1 by omega) h3 h1 h2 hok
      have he : eB c T lo hi n a b u v = 0 := fltB_ok h1 k1
      have l1 : lenB c T lo hi n a b u v = c.toNat + 1 := if_pos he
      have l2 : lenB c T lo hi (n + 1) (exL n a xa) (exL n b xb) (nrU (exL n u xu) (exL n v xv) (wh.tmod ((n + 1 : Nat) : Int)).toNat (by_.tmod 5)) (nrV (exL n u xu) (exL n v xv) (wh.tmod ((n + 1 : Nat) : Int)).toNat (by_.tmod 5) ((by_.tdiv 8).tmod 5)) = c.toNat + 1 := if_pos h0
      refine ⟨he, ?_⟩
      rw [l1, l2, decide_eq_true rfl, Bool.true_and]
      refine allI_iff.2 fun k hk => ?_
      have hkk := k2 k (by omega)
      simp only [wiB, Bool.not_eq_true', Bool.or_eq_false_iff, decide_eq_false_iff_not]
      omega
    · rw [e2] at h0 ⊢
      split at h0
      · exact absurd rfl h0
      · rename_i hh
        rw [if_neg hh]
    · rw [e1] at h0 ⊢
      split at h0
      · exact absurd rfl h0
      · rename_i hh
        rw [if_neg hh]
    · have hl : lenB c T lo hi (n + 1) (exL n a xa) (exL n b xb) (nrU (exL n u xu) (exL n v xv) (wh.tmod ((n + 1 : Nat) : Int)).toNat (by_.tmod 5)) (nrV (exL n u xu) (exL n v xv) (wh.tmod ((n + 1 : Nat) : Int)).toNat (by_.tmod 5) ((by_.tdiv 8).tmod 5)) = (if eB c T lo hi (n + 1) (exL n a xa) (exL n b xb) (nrU (exL n u xu) (exL n v xv) (wh.tmod ((n + 1 : Nat) : Int)).toNat (by_.tmod 5)) (nrV (exL n u xu) (exL n v xv) (wh.tmod ((n + 1 : Nat) : Int)).toNat (by_.tmod 5) ((by_.tdiv 8).tmod 5)) = 0 then c.toNat + 1 else 0) := rfl
      rw [hl]
      split <;> omega
  simp only [Tree.sat, allP, fitP, fitL, valEq, inI64, true_and, and_true, decide_eq_true_eq, decide_eq_false_iff_not, Bool.not_eq_true', Bool.not_eq_false', bne_iff_ne, ne_eq, bne_eq_false_iff_eq, beq_iff_eq, beq_eq_false_iff_ne]
  (repeat' first | with_reducible apply And.intro | with_reducible intro _)
  all_goals first | exact True.intro | omega | with_reducible rfl | exact isRec4 _ _ _ _ _ | (intro _ _; rfl) | exact one_of (by assumption) (by simp [AV.one, Value.oneCell']) | (rename_i hm; simp only [List.mem_cons, List.not_mem_nil, or_false] at hm; rcases hm with rfl | rfl | rfl | rfl <;> rfl) | exact catE (by assumption) | (have := hub (by omega) (by assumption); omega) | (have := hub (by omega) (by assumption); simp only [ite_self]; omega) | assumption | (rename_i q hq; by_cases hqp : q = (wh.tmod ((n + 1 : Nat) : Int)).toNat; (subst hqp; rw [nrU_p, nrV_p]; simp only [show decide ((wh.tmod ((n + 1 : Nat) : Int)).toNat = (wh.tmod ((n + 1 : Nat) : Int)).toNat) = true from decide_eq_true rfl]; rfl); (rw [nrU_n hqp, nrV_n hqp]; simp only [decide_eq_false hqp]; rfl)) | (have h4 := (hfin (by omega) (by assumption)).2.2.2; omega) | exact ((hfin (by omega) (by assumption)).1 (by assumption)).2 | exact absurd ((hfin (by omega) (by assumption)).1 (by assumption)).1 (by assumption) | exact absurd ((hfin (by omega) (by assumption)).2.1 (by assumption)) (by assumption) | exact absurd ((hfin (by omega) (by assumption)).2.2.1 (by assumption)) (by assumption) | (rename_i hw; rw [show _ = true from ((hfin (by omega) (by assumption)).1 (by assumption)).2] at hw; cases hw)

end Go.Proofs.Ytmdeoobmeokmeaa
/- Contracts of functions of the program, by the engine Sx: what each call comes to. Printed by a program of this repo (sxgen.py). -/
set_option linter.unusedSimpArgs false
set_option linter.unusedVariables false
namespace Go.Proofs.Ytmdeoobmeokmeaa
open Go Go.Sx Go.RowKit

/-- The worst doubt behind a mark, from nothing on. -/
def mwW (c T lo hi : Int) (n : Nat) (a b u v : Nat → Int) (p q : Int) (k : Nat) : Nat → Int
  | 0 => -1
  | j + 1 => if nwO c T lo hi n a b u v p q k j then max (mwW c T lo hi n a b u v p q k j) (nwD c T lo hi n a b u v p q k j) else mwW c T lo hi n a b u v p q k j
/-- Where a thread ends. -/
def thI (c : Int) (f : Nat → Int) (mk th : Int) : Nat := fstI (fun j => !decide (sumF f (mk.toNat + j + 1) - sumF f mk.toNat ≤ th)) (c - mk).toNat


theorem exL_eq {n : Nat} {f : Nat → Int} {x : Int} : exL n f x n = x := if_neg (Nat.lt_irrefl n)
theorem ex_flt {c T lo hi : Int} {n : Nat} {a b u v : Nat → Int} {x1 x2 x3 x4 : Int} (hn : n ≤ 11) (h : flt c T lo hi n a b u v = 0) (hx : rdB c x1 x2 x3 x4 = true) : flt c T lo hi (n + 1) (exL n a x1) (exL n b x2) (exL n u x3) (exL n v x4) = 0 := by
  have hf := flt_iff.1 h
  exact flt_ok hf.1 (by omega) (exL_rd hf.2.2 hx)
theorem nwD_nn {c T lo hi : Int} {n : Nat} {a b u v : Nat → Int} {p q : Int} {k j : Nat} (hn : n ≤ 11) (h : flt c T lo hi n a b u v = 0) (hp : 0 ≤ p ∧ p ≤ q ∧ q ≤ 2000) (hk : (k : Int) < c) (hj : j ≤ (c - k).toNat) : 0 ≤ nwD c T lo hi n a b u v p q k j ∧ nwD c T lo hi n a b u v p q k j ≤ 2000000000000 := by
  have hf := flt_iff.1 h
  have hb := tube_bd hf.1
  exact db_bdx hb.1 hb.2.1 (exL_rd hf.2.2 (rdB_of (by omega)))
theorem mw_nw {c T lo hi : Int} {n : Nat} {a b u v : Nat → Int} {p q : Int} {k : Nat} (hn : n ≤ 11) (h : flt c T lo hi n a b u v = 0) (hp : 0 ≤ p ∧ p ≤ q ∧ q ≤ 2000) (hk : (k : Int) < c) : ∀ j, j ≤ (c - k + 1).toNat → nwW c T lo hi n a b u v p q k j = max 0 (mwW c T lo hi n a b u v p q k j) ∧ (-1 ≤ mwW c T lo hi n a b u v p q k j ∧ mwW c T lo hi n a b u v p q k j ≤ 2000000000000) ∧ ∀ i, i < j → nwO c T lo hi n a b u v p q k i = true → nwD c T lo hi n a b u v p q k i ≤ mwW c T lo hi n a b u v p q k j
  | 0, _ => ⟨by simp only [nwW, mwW]; decide, by simp [mwW], fun i hi => absurd hi (Nat.not_lt_zero _)⟩
  | j + 1, hj => by
    have ih := mw_nw (j := j) hn h hp hk (by omega)
    have hd := nwD_nn (j := j) hn h hp hk (by omega)
    unfold nwW mwW
    cases ho : nwO c T lo hi n a b u v p q k j with
    | true =>
      rw [if_pos rfl, if_pos rfl]
      refine ⟨by omega, by omega, fun i hi hio => ?_⟩
      rcases (show i < j ∨ i = j by omega) with h1 | rfl
      · have := ih.2.2 i h1 hio
        omega
      · omega
    | false =>
      rw [if_neg (by decide), if_neg (by decide)]
      refine ⟨ih.1, ih.2.1, fun i hi hio => ?_⟩
      rcases (show i < j ∨ i = j by omega) with h1 | rfl
      · exact ih.2.2 i h1 hio
      · rw [ho] at hio
        cases hio
/-- A thread's end is right in the truth that it was read of. -/
theorem th_tr {c T lo hi : Int} {n : Nat} {a b u v : Nat → Int} {f : Nat → Int} {p q mk th : Int} (hn : n ≤ 11) (h : flt c T lo hi n a b u v = 0) (ht : Tr c.toNat T lo hi n a b u v (sumF f)) (hp : 0 ≤ p ∧ p ≤ q ∧ q ≤ 2000) (hm : 0 ≤ mk ∧ mk < c) (hth : p ≤ th ∧ th ≤ q) :
    thI c f mk th ≤ (c - mk).toNat ∧ nwO c T lo hi n a b u v p q mk.toNat (thI c f mk th) = true := by
  have hf := flt_iff.1 h
  have hb := tube_bd hf.1
  have hI := fstI_spec (fun j => !decide (sumF f (mk.toNat + j + 1) - sumF f mk.toNat ≤ th)) (c - mk).toNat
  have hI0 : thI c f mk th = fstI (fun j => !decide (sumF f (mk.toNat + j + 1) - sumF f mk.toNat ≤ th)) (c - mk).toNat := rfl
  rw [← hI0] at hI
  have em : ((mk.toNat : Nat) : Int) = mk := by omega
  have hle := hI.1
  refine ⟨hle, ?_⟩
  have hrd : rdB c mk (mk + thI c f mk th) p q = true := rdB_of (by omega)
  have h2 := ex_flt (x1 := mk) (x2 := mk + thI c f mk th) (x3 := p) (x4 := q) hn h hrd
  have hr2 := rdOk_of hb.1 (flt_iff.1 h2).2.2
  unfold nwO
  rw [em]
  refine ok_of_tr hb.2.1 hr2 (h := sumF f) ⟨ht.1, ht.2.1, ht.2.2.1, fun j hj => ?_⟩
  by_cases hjn : j < n
  · rw [exL_lt hjn, exL_lt hjn, exL_lt hjn, exL_lt hjn]
    exact ht.2.2.2 j hjn
  · have e : j = n := by omega
    subst e
    rw [exL_eq, exL_eq, exL_eq, exL_eq]
    have e1 : (mk + (thI c f mk th : Int)).toNat = mk.toNat + thI c f mk th := by omega
    rw [e1]
    refine ⟨?_, fun hlt => ?_⟩
    · rcases Nat.eq_zero_or_pos (thI c f mk th) with h0 | h0
      · rw [h0, Nat.add_zero]
        omega
      · have h1 := hI.2.1 (thI c f mk th - 1) (by omega)
        simp only [Bool.not_eq_false', decide_eq_true_eq] at h1
        rw [show mk.toNat + (thI c f mk th - 1) + 1 = mk.toNat + thI c f mk th by omega] at h1
        omega
    · have h1 := hI.2.2 (by omega)
      simp only [Bool.not_eq_true', decide_eq_false_iff_not] at h1
      rw [show (mk + (thI c f mk th : Int) + 1).toNat = mk.toNat + thI c f mk th + 1 by omega]
      omega
theorem dbF_mono {f g : Nat → Int} {c : Nat} (h : ∀ k, k ≤ c → f (k + 4) - -(f (k * 11 + 4)) ≤ g (k + 4) - -(g (k * 11 + 4))) : ∀ k, k ≤ c + 1 → dbF f k ≤ dbF g k
  | 0, _ => Int.le_refl _
  | k + 1, hk => by
    have ih := dbF_mono h k (by omega)
    have h1 := h k (by omega)
    unfold dbF
    omega
theorem nwD_le {c T lo hi : Int} {n : Nat} {a b u v : Nat → Int} {p q : Int} {k j : Nat} (hn : n ≤ 11) (h : flt c T lo hi n a b u v = 0) (hp : 0 ≤ p ∧ p ≤ q ∧ q ≤ 2000) (hk : (k : Int) < c) (hj : j ≤ (c - k).toNat) (ho : nwO c T lo hi n a b u v p q k j = true) : nwD c T lo hi n a b u v p q k j ≤ dbF (sfB c T lo hi n a b u v) (c.toNat + 1) := by
  have hb := tube_bd (flt_iff.1 h).1
  have h2 := ex_flt (x1 := k) (x2 := (k : Int) + j) (x3 := p) (x4 := q) hn h (rdB_of (by omega))
  have hm := more_bd (a := a) (b := b) (u := u) (v := v) (a' := exL n a k) (b' := exL n b ((k : Int) + j)) (u' := exL n u p) (v' := exL n v q) (show n ≤ n + 1 by omega) (fun i hi => ⟨exL_lt hi, exL_lt hi, Int.le_of_eq (exL_lt hi).symm, Int.le_of_eq (exL_lt hi)⟩) h h2 ho
  refine dbF_mono (c := c.toNat) (fun y hy => ?_) (c.toNat + 1) (Nat.le_refl _)
  rw [sfB_low, sfB_low, sfB_high _ _ _ _ _ _ _ _ _ (by omega), sfB_high _ _ _ _ _ _ _ _ _ (by omega)]
  have := hm.2 y (by omega)
  omega
theorem nwW_le {c T lo hi : Int} {n : Nat} {a b u v : Nat → Int} {p q : Int} {k : Nat} (hn : n ≤ 11) (h : flt c T lo hi n a b u v = 0) (hp : 0 ≤ p ∧ p ≤ q ∧ q ≤ 2000) (hk : (k : Int) < c) : ∀ j, j ≤ (c - k + 1).toNat → nwW c T lo hi n a b u v p q k j ≤ dbF (sfB c T lo hi n a b u v) (c.toNat + 1)
  | 0, _ => by
    have hf := flt_iff.1 h
    have hb := tube_bd hf.1
    exact (db_bdx hb.1 hb.2.1 hf.2.2).1
  | j + 1, hj => by
    have ih := nwW_le (j := j) hn h hp hk (by omega)
    unfold nwW
    split
    · rename_i ho
      have := nwD_le hn h hp hk (by omega) ho
      omega
    · exact ih
/-- The best mark. -/
theorem nx_best {c T lo hi : Int} {n : Nat} {a b u v : Nat → Int} {p q : Int} (hn : n ≤ 11) (h : flt c T lo hi n a b u v = 0) (hp : 0 ≤ p ∧ p ≤ q ∧ q ≤ 2000) : ∀ K : Nat, (((K + 1 : Nat) : Int)) ≤ c →
    ∃ m : Nat, m ≤ K ∧ nxM c T lo hi n a b u v p q (K + 1) = m ∧ nxD c T lo hi n a b u v p q (K + 1) = nwW c T lo hi n a b u v p q m (c - m + 1).toNat ∧ (∀ k, k ≤ K → nxD c T lo hi n a b u v p q (K + 1) ≤ nwW c T lo hi n a b u v p q k (c - k + 1).toNat) ∧ ∀ k, k < m → nxD c T lo hi n a b u v p q (K + 1) < nwW c T lo hi n a b u v p q k (c - k + 1).toNat
  | 0, hK => by
    have hy := nx_yes (c := c) (T := T) (lo := lo) (hi := hi) (n := n) (a := a) (b := b) (u := u) (v := v) (p := p) (q := q) (k := 0) (.inl rfl)
    have hl := nwW_le (k := 0) hn h hp (by omega) (c - ((0 : Nat) : Int) + 1).toNat (Nat.le_refl _)
    have e : nxD c T lo hi n a b u v p q (0 + 1) = nwW c T lo hi n a b u v p q 0 (c - ((0 : Nat) : Int) + 1).toNat := by
      rw [hy.2]
      omega
    refine ⟨0, Nat.le_refl _, hy.1, e, fun k hk => ?_, fun k hk => absurd hk (Nat.not_lt_zero _)⟩
    obtain rfl : k = 0 := by omega
    rw [e]
    exact Int.le_refl _
  | K + 1, hK => by
    obtain ⟨m, hm, h1, h2, h3, h4⟩ := nx_best hn h hp K (by omega)
    have hl := nwW_le (k := K + 1) hn h hp (by omega) (c - ((K + 1 : Nat) : Int) + 1).toNat (Nat.le_refl _)
    by_cases hlt : nwW c T lo hi n a b u v p q (K + 1) (c - ((K + 1 : Nat) : Int) + 1).toNat < nxD c T lo hi n a b u v p q (K + 1)
    · have hy := nx_yes (k := K + 1) (.inr hlt)
      have e : nxD c T lo hi n a b u v p q (K + 1 + 1) = nwW c T lo hi n a b u v p q (K + 1) (c - ((K + 1 : Nat) : Int) + 1).toNat := by
        rw [hy.2]
        omega
      refine ⟨K + 1, Nat.le_refl _, hy.1, e, fun k hk => ?_, fun k hk => ?_⟩
      · rcases (show k ≤ K ∨ k = K + 1 by omega) with h5 | rfl
        · have := h3 k h5
          omega
        · rw [e]
          exact Int.le_refl _
      · have := h3 k (by omega)
        omega
    · have hy := nx_no (k := K + 1) (by omega) hlt
      refine ⟨m, by omega, by rw [hy.1]; exact h1, by rw [hy.2]; exact h2, fun k hk => ?_, fun k hk => ?_⟩
      · rw [hy.2]
        rcases (show k ≤ K ∨ k = K + 1 by omega) with h5 | rfl
        · exact h3 k h5
        · omega
      · rw [hy.2]
        exact h4 k hk

end Go.Proofs.Ytmdeoobmeokmeaa
/- Contracts of functions of the program, by the engine Sx: what each call comes to. Printed by a program of this repo (sxgen.py). -/
set_option linter.unusedSimpArgs false
set_option linter.unusedVariables false
namespace Go.Proofs.Ytmdeoobmeokmeaa
open Go Go.Sx Go.RowKit
noncomputable def E_na (c T lo hi : Int) (n : Nat) (w : Nat → Int) (m : Nat) (z : Nat → Int) (vl vh : Int) (q : Nat) (a b u v f : Nat → Int) (mk dd th : Int) : St := (some
  {
    σ :=
      [AV.agg
          [AV.x (Value.int IntKind.i64 c), AV.x (Value.int IntKind.i64 T), AV.x (Value.int IntKind.i64 lo),
            AV.x (Value.int IntKind.i64 hi)],
        AV.lst (1 : Nat) n fun k => [AV.x (Value.int IntKind.u16 (w k))],
        AV.lst (1 : Nat) m fun k => [AV.x (Value.int IntKind.u16 (z k))],
        AV.agg [AV.x (Value.int IntKind.i64 vl), AV.x (Value.int IntKind.i64 vh)], AV.ptr (0 : Nat) (0 : Nat), AV.top,
        AV.top, AV.ptr (1 : Nat) (0 : Nat), AV.lit false,
        AV.lst (1 : Nat) (Int.toNat c) fun k =>
          [AV.x (Value.int IntKind.i64 (trV c T lo hi n (fun j => wAt [AV.x (Value.int IntKind.u16 (w j))]) k))],
        AV.lst (4 : Nat) (min (Int.toNat (min (6 : Int) (↑m : Int)) - Int.toNat (0 : Int)) (12 : Nat)) fun k =>
          [AV.x (Value.int IntKind.i64 (seA c (wAt [AV.x (Value.int IntKind.u16 (z (Int.toNat (0 : Int) + k)))]))),
            AV.x
              (Value.int IntKind.i64
                (seB c T (trV c T lo hi n fun j => wAt [AV.x (Value.int IntKind.u16 (w j))])
                  (wAt [AV.x (Value.int IntKind.u16 (z (Int.toNat (0 : Int) + k)))]))),
            AV.x
              (Value.int IntKind.i64
                (seU c T (trV c T lo hi n fun j => wAt [AV.x (Value.int IntKind.u16 (w j))])
                  (wAt [AV.x (Value.int IntKind.u16 (z (Int.toNat (0 : Int) + k)))]))),
            AV.x
              (Value.int IntKind.i64
                (seV c T (trV c T lo hi n fun j => wAt [AV.x (Value.int IntKind.u16 (w j))])
                  (wAt [AV.x (Value.int IntKind.u16 (z (Int.toNat (0 : Int) + k)))])))],
        AV.x
          (Value.int IntKind.i64
            (nxRM c T lo hi (min (Int.toNat (min (6 : Int) (↑m : Int)) - Int.toNat (0 : Int)) (12 : Nat))
              (fun k => seA c (wAt [AV.x (Value.int IntKind.u16 (z (Int.toNat (0 : Int) + k)))]))
              (fun k =>
                seB c T (trV c T lo hi n fun j => wAt [AV.x (Value.int IntKind.u16 (w j))])
                  (wAt [AV.x (Value.int IntKind.u16 (z (Int.toNat (0 : Int) + k)))]))
              (fun k =>
                seU c T (trV c T lo hi n fun j => wAt [AV.x (Value.int IntKind.u16 (w j))])
                  (wAt [AV.x (Value.int IntKind.u16 (z (Int.toNat (0 : Int) + k)))]))
              (fun k =>
                seV c T (trV c T lo hi n fun j => wAt [AV.x (Value.int IntKind.u16 (w j))])
                  (wAt [AV.x (Value.int IntKind.u16 (z (Int.toNat (0 : Int) + k)))]))
              vl vh)),
        AV.x
          (Value.int IntKind.i64
            (nxRD c T lo hi (min (Int.toNat (min (6 : Int) (↑m : Int)) - Int.toNat (0 : Int)) (12 : Nat))
              (fun k => seA c (wAt [AV.x (Value.int IntKind.u16 (z (Int.toNat (0 : Int) + k)))]))
              (fun k =>
                seB c T (trV c T lo hi n fun j => wAt [AV.x (Value.int IntKind.u16 (w j))])
                  (wAt [AV.x (Value.int IntKind.u16 (z (Int.toNat (0 : Int) + k)))]))
              (fun k =>
                seU c T (trV c T lo hi n fun j => wAt [AV.x (Value.int IntKind.u16 (w j))])
                  (wAt [AV.x (Value.int IntKind.u16 (z (Int.toNat (0 : Int) + k)))]))
              (fun k =>
                seV c T (trV c T lo hi n fun j => wAt [AV.x (Value.int IntKind.u16 (w j))])
                  (wAt [AV.x (Value.int IntKind.u16 (z (Int.toNat (0 : Int) + k)))]))
              vl vh)),
        AV.x
          (Value.int IntKind.i64
            (nxE c T lo hi (min (Int.toNat (min (6 : Int) (↑m : Int)) - Int.toNat (0 : Int)) (12 : Nat))
              (fun k => seA c (wAt [AV.x (Value.int IntKind.u16 (z (Int.toNat (0 : Int) + k)))]))
              (fun k =>
                seB c T (trV c T lo hi n fun j => wAt [AV.x (Value.int IntKind.u16 (w j))])
                  (wAt [AV.x (Value.int IntKind.u16 (z (Int.toNat (0 : Int) + k)))]))
              (fun k =>
                seU c T (trV c T lo hi n fun j => wAt [AV.x (Value.int IntKind.u16 (w j))])
                  (wAt [AV.x (Value.int IntKind.u16 (z (Int.toNat (0 : Int) + k)))]))
              (fun k =>
                seV c T (trV c T lo hi n fun j => wAt [AV.x (Value.int IntKind.u16 (w j))])
                  (wAt [AV.x (Value.int IntKind.u16 (z (Int.toNat (0 : Int) + k)))]))
              vl vh)),
        AV.x
          (Value.int IntKind.i64
            (vl +
              Int.tmod (wdF n (fun j => wAt [AV.x (Value.int IntKind.u16 (w j))]) (Int.toNat (11 : Int)))
                (vh - vl + (1 : Int)))),
        AV.top, AV.top, AV.top, AV.top, AV.top, AV.top, AV.top, AV.top, AV.top, AV.top, AV.top, AV.top, AV.top, AV.top,
        AV.top, AV.top, AV.top, AV.top, AV.top, AV.top, AV.top, AV.top, AV.top, AV.top, AV.top, AV.top, AV.top, AV.top,
        AV.top, AV.top, AV.top, AV.top, AV.top, AV.top, AV.top, AV.top, AV.top, AV.top, AV.top, AV.top, AV.top, AV.top,
        AV.top, AV.top, AV.top, AV.top, AV.top, AV.top, AV.top, AV.top, AV.top, AV.top, AV.top, AV.top, AV.top, AV.top,
        AV.top, AV.top, AV.top, AV.top, AV.top, AV.top, AV.top, AV.top, AV.top, AV.top, AV.top, AV.top, AV.top, AV.top,
        AV.top, AV.top, AV.top, AV.top, AV.top, AV.top, AV.top, AV.top, AV.top, AV.top, AV.top, AV.top, AV.top, AV.top,
        AV.top, AV.top, AV.top, AV.top, AV.top, AV.top, AV.top, AV.top, AV.top, AV.top, AV.top, AV.top, AV.top, AV.top,
        AV.top, AV.top, AV.top, AV.top, AV.top, AV.top, AV.top, AV.top, AV.top, AV.top, AV.top, AV.top, AV.top, AV.top,
        AV.top, AV.top, AV.top, AV.top, AV.top, AV.top, AV.top, AV.top, AV.top, AV.top, AV.top, AV.top, AV.top, AV.top,
        AV.top, AV.top, AV.top, AV.top, AV.top, AV.top, AV.top, AV.top, AV.top, AV.top, AV.top, AV.top, AV.top, AV.top,
        AV.top, AV.top, AV.top, AV.top, AV.top, AV.top, AV.top, AV.top, AV.top, AV.top, AV.top, AV.top, AV.top, AV.top,
        AV.top, AV.top, AV.top, AV.top, AV.top, AV.top, AV.top, AV.top, AV.top, AV.top, AV.top, AV.top, AV.top, AV.top,
        AV.top, AV.top],
    m :=
      [((1 : Nat), Res.cells (23 : Nat) [AV.x (Value.int IntKind.i64 vl), AV.x (Value.int IntKind.i64 vh)]),
        ((0 : Nat),
          Res.cells (25 : Nat)
            [AV.x (Value.int IntKind.i64 c), AV.x (Value.int IntKind.i64 T), AV.x (Value.int IntKind.i64 lo),
              AV.x (Value.int IntKind.i64 hi)])],
    nx := (70 : Nat) } : Option St).getD { σ := [], m := [], nx := 0 }
noncomputable def B_na : Code := loopBody (loopAt (bodyOf Try.f8) 0)
noncomputable def inv_na (c T lo hi : Int) (n : Nat) (w : Nat → Int) (m : Nat) (z : Nat → Int) (vl vh : Int) (q : Nat) (a b u v f : Nat → Int) (mk dd th : Int) (j : Nat) : St := { σ := ovrS [(9, .lst 1 c.toNat (fun k => [i (f k)])), (10, rds q a b u v), (11, i mk), (12, i dd), (13, .top), (14, i th), (15, i (mk + j))] (E_na c T lo hi n w m z vl vh q a b u v f mk dd th).σ, m := (E_na c T lo hi n w m z vl vh q a b u v f mk dd th).m, nx := (E_na c T lo hi n w m z vl vh q a b u v f mk dd th).nx }
noncomputable def out_na (c T lo hi : Int) (n : Nat) (w : Nat → Int) (m : Nat) (z : Nat → Int) (vl vh : Int) (q : Nat) (a b u v f : Nat → Int) (mk dd th : Int) (j : Nat) : AEx → Option St := fun ex => match ex with
  | .exit 0 => some { σ := ovrS [(9, .lst 1 c.toNat (fun k => [i (f k)])), (10, rds q a b u v), (11, i mk), (12, i dd), (13, .top), (14, i th), (15, i (mk + thI c f mk th))] (E_na c T lo hi n w m z vl vh q a b u v f mk dd th).σ, m := (E_na c T lo hi n w m z vl vh q a b u v f mk dd th).m, nx := (E_na c T lo hi n w m z vl vh q a b u v f mk dd th).nx }
  | _ => none
noncomputable def T_na (c T lo hi : Int) (n : Nat) (w : Nat → Int) (m : Nat) (z : Nat → Int) (vl vh : Int) (q : Nat) (a b u v f : Nat → Int) (mk dd th : Int) : CT := .leaf (.exit 0, ( out_na c T lo hi n w m z vl vh q a b u v f mk dd th 0 (.exit 0)).getD (E_na c T lo hi n w m z vl vh q a b u v f mk dd th))
noncomputable def LS_na (c T lo hi : Int) (n : Nat) (w : Nat → Int) (m : Nat) (z : Nat → Int) (vl vh : Int) (q : Nat) (a b u v f : Nat → Int) (mk dd th : Int) : LSpec := normSp [] (sumL (inv_na c T lo hi n w m z vl vh q a b u v f mk dd th (0)) (T_na c T lo hi n w m z vl vh q a b u v f mk dd th))
set_option maxRecDepth 100000 in
theorem na_ls (c T lo hi : Int) (n : Nat) (w : Nat → Int) (m : Nat) (z : Nat → Int) (vl vh : Int) (q : Nat) (a b u v f : Nat → Int) (mk dd th : Int) (pre0 : 1 ≤ c ∧ c ≤ 10) (pre1 : 0 ≤ mk ∧ mk < c) (pre2 : ∀ j, j < c.toNat → -1000 ≤ f j ∧ f j ≤ 1000) (pre3 : -1000000 ≤ th ∧ th ≤ 1000000) : LSound Try.prog (.loop B_na) (LS_na c T lo hi n w m z vl vh q a b u v f mk dd th) := by
  refine loop_roundsX [] (E := { R := [], H := [] }) (G := [(31, S_rIsTube), (26, S_rSpan), (20, S_wakes), (34, S_Truly), (33, S_Seen), (22, S_lTube), (23, S_lReadings), (24, S_lto), (21, S_Next), (39, S_word), (40, S_rHeight), (36, S_Doubt)]) (L := []) (SoundG.cons rIsTube_ok (SoundG.cons rSpan_ok (SoundG.cons wakes_ok (SoundG.cons Truly_ok (SoundG.cons Seen_ok (SoundG.cons lTube_ok (SoundG.cons lReadings_ok (SoundG.cons lto_ok (SoundG.cons Next_ok (SoundG.cons word_ok (SoundG.cons rHeight_ok (SoundG.cons Doubt_ok (SoundG.nil _))))))))))))) (SoundX.of (SoundRL.nil _) (SoundHL.nil _)) mixed noLoops (X := Nat) (inv_na c T lo hi n w m z vl vh q a b u v f mk dd th) (fun j => j ≤ (c - mk).toNat ∧ ∀ q, q < j → (fun j => !decide (sumF f (mk.toNat + j + 1) - sumF f mk.toNat ≤ th)) q = false) (fun j => (c - mk).toNat - j) (out_na c T lo hi n w m z vl vh q a b u v f mk dd th) (x0 := 0) ⟨by omega, fun j hj => by omega⟩ ?_ ?_ ?_
  · rintro j
    kernel_rfl
  · rintro j y E h
    unfold out_na at h
    split at h
    · cases h; kernel_rfl
    · cases h
  · rintro Q hQ j hx
    refine ⟨(j + 1), ?_⟩
    have e : roundX Try.prog [(31, S_rIsTube), (26, S_rSpan), (20, S_wakes), (34, S_Truly), (33, S_Seen), (22, S_lTube), (23, S_lReadings), (24, S_lto), (21, S_Next), (39, S_word), (40, S_rHeight), (36, S_Doubt)] { R := [], H := [] } [] [] B_na (inv_na c T lo hi n w m z vl vh q a b u v f mk dd th j) (inv_na c T lo hi n w m z vl vh q a b u v f mk dd th ((j + 1))) (out_na c T lo hi n w m z vl vh q a b u v f mk dd th j) = (Tree.branch (decide (mk + (↑j : Int) < c)) (Tree.need [inI64 (mk + (↑j : Int) + (1 : Int))] (Tree.need [isRec 1 (Int.toNat c) fun k => [i (f k)], mk + (↑j : Int) + (1 : Int) ≤ (↑(Int.toNat c) : Int), Int.toNat c ≤ 100, ∀ (k : Nat), k < Int.toNat c → (-1000000 : Int) ≤ f k ∧ f k ≤ (1000000 : Int)] (Tree.need [isRec 1 (Int.toNat c) fun k => [i (f k)], mk ≤ (↑(Int.toNat c) : Int), Int.toNat c ≤ 100, ∀ (k : Nat), k < Int.toNat c → (-1000000 : Int) ≤ f k ∧ f k ≤ (1000000 : Int)] (Tree.need [inI64 (sumF f (Int.toNat (mk + (↑j : Int) + (1 : Int))) - sumF f (Int.toNat mk))] (Tree.branch (decide (sumF f (Int.toNat (mk + (↑j : Int) + (1 : Int))) - sumF f (Int.toNat mk) ≤ th)) (Tree.need [inI64 (mk + (↑j : Int) + (1 : Int))] (Tree.need [AV.agg [iI c, iI T, iI lo, iI hi] = AV.agg [iI c, iI T, iI lo, iI hi], (AV.lst 1 n fun k => [AV.x (Value.int IntKind.u16 (w k))]) = AV.lst 1 n fun k => [AV.x (Value.int IntKind.u16 (w k))], (AV.lst 1 m fun k => [AV.x (Value.int IntKind.u16 (z k))]) = AV.lst 1 m fun k => [AV.x (Value.int IntKind.u16 (z k))], AV.agg [iI vl, iI vh] = AV.agg [iI vl, iI vh], AV.ptr 0 0 = AV.ptr 0 0, AV.ptr 1 0 = AV.ptr 1 0, AV.lit false = AV.lit false, (AV.lst 1 (Int.toNat c) fun k => [iI (f k)]) = AV.lst 1 (Int.toNat c) fun k => [iI (f k)], (AV.lst 4 q fun k => [iI (a k), iI (b k), iI (u k), iI (v k)]) = AV.lst 4 q fun k => [iI (a k), iI (b k), iI (u k), iI (v k)], mk = mk, dd = dd, th = th, mk + (↑j : Int) + (1 : Int) = mk + (↑(j + 1) : Int), vl = vl, vh = vh, c = c, T = T, lo = lo, hi = hi] (Tree.leaf AEx.normal))) (Tree.need [AV.agg [iI c, iI T, iI lo, iI hi] = AV.agg [iI c, iI T, iI lo, iI hi], (AV.lst 1 n fun k => [AV.x (Value.int IntKind.u16 (w k))]) = AV.lst 1 n fun k => [AV.x (Value.int IntKind.u16 (w k))], (AV.lst 1 m fun k => [AV.x (Value.int IntKind.u16 (z k))]) = AV.lst 1 m fun k => [AV.x (Value.int IntKind.u16 (z k))], AV.agg [iI vl, iI vh] = AV.agg [iI vl, iI vh], AV.ptr 0 0 = AV.ptr 0 0, AV.ptr 1 0 = AV.ptr 1 0, AV.lit false = AV.lit false, (AV.lst 1 (Int.toNat c) fun k => [iI (f k)]) = AV.lst 1 (Int.toNat c) fun k => [iI (f k)], (AV.lst 4 q fun k => [iI (a k), iI (b k), iI (u k), iI (v k)]) = AV.lst 4 q fun k => [iI (a k), iI (b k), iI (u k), iI (v k)], mk = mk, dd = dd, th = th, mk + (↑j : Int) = mk + (↑(thI c f mk th) : Int), vl = vl, vh = vh, c = c, T = T, lo = lo, hi = hi] (Tree.leaf (AEx.exit 0)))))))) (Tree.need [AV.agg [iI c, iI T, iI lo, iI hi] = AV.agg [iI c, iI T, iI lo, iI hi], (AV.lst 1 n fun k => [AV.x (Value.int IntKind.u16 (w k))]) = AV.lst 1 n fun k => [AV.x (Value.int IntKind.u16 (w k))], (AV.lst 1 m fun k => [AV.x (Value.int IntKind.u16 (z k))]) = AV.lst 1 m fun k => [AV.x (Value.int IntKind.u16 (z k))], AV.agg [iI vl, iI vh] = AV.agg [iI vl, iI vh], AV.ptr 0 0 = AV.ptr 0 0, AV.ptr 1 0 = AV.ptr 1 0, AV.lit false = AV.lit false, (AV.lst 1 (Int.toNat c) fun k => [iI (f k)]) = AV.lst 1 (Int.toNat c) fun k => [iI (f k)], (AV.lst 4 q fun k => [iI (a k), iI (b k), iI (u k), iI (v k)]) = AV.lst 4 q fun k => [iI (a k), iI (b k), iI (u k), iI (v k)], mk = mk, dd = dd, th = th, mk + (↑j : Int) = mk + (↑(thI c f mk th) : Int), vl = vl, vh = vh, c = c, T = T, lo = lo, hi = hi] (Tree.leaf (AEx.exit 0)))) := by kernel_rfl
    rw [e]
    simp only [T_na, out_na, Tree.sat, Option.getD_some] at hQ
    have e1 : (mk + (j : Int) + 1).toNat = mk.toNat + j + 1 := by omega
    have hfb : ∀ q, q < c.toNat → -1000000 ≤ f q ∧ f q ≤ 1000000 := fun q hq => by have := pre2 q hq; omega
    have hs := fun q (h : q ≤ c.toNat) => sumF_bd (f := f) (n := c.toNat) (N := 1000) (by omega) pre2 q h
    have hs1 := hs mk.toNat (by omega)
    simp only [Tree.sat, allP, fitP, fitL, valEq, inI64, true_and, and_true, decide_eq_true_eq, decide_eq_false_iff_not, Int.natCast_zero, Int.toNat_natCast, out_na, e1]
    clear e
    have hgood : sumF f (mk.toNat + j + 1) - sumF f mk.toNat ≤ th → ∀ q, q < j + 1 → (!decide (sumF f (mk.toNat + q + 1) - sumF f mk.toNat ≤ th)) = false := fun h2 q hq => by
      rcases (show q < j ∨ q = j by omega) with h3 | rfl
      · exact hx.2 q h3
      · simp [h2]
    have hBx : mk + j < c → ¬ sumF f (mk.toNat + j + 1) - sumF f mk.toNat ≤ th → thI c f mk th = j := fun h1 h2 => fstI_eq (by omega) (by simp; omega) hx.2
    have hBy : ¬ mk + j < c → thI c f mk th = j := fun h1 => by
      have hf : fstI (fun j => !decide (sumF f (mk.toNat + j + 1) - sumF f mk.toNat ≤ th)) (c - mk).toNat = (c - mk).toNat := fstI_none (fun q hq => hx.2 q (by omega))
      have hf2 : thI c f mk th = (c - mk).toNat := hf
      omega
    refine ⟨fun h => ?_, fun h => ?_⟩
    · have hs2 := hs (mk.toNat + j + 1) (by omega)
      (repeat' first | with_reducible apply And.intro | with_reducible intro _)
      all_goals first | exact True.intro | omega | with_reducible rfl | exact isRec1 _ _ | rfl | exact hgood (by assumption) _ (by assumption) | (have := hfb _ (by assumption); omega) | (have := hBx h (by assumption); omega) | (rename_i E hE; cases hE; exact hQ)
    · have hB := hBy h
      (repeat' first | with_reducible apply And.intro | with_reducible intro _)
      all_goals first | exact True.intro | omega | with_reducible rfl | rfl | (rename_i E hE; cases hE; exact hQ)

noncomputable def E_nb (c T lo hi : Int) (n : Nat) (w : Nat → Int) (m : Nat) (z : Nat → Int) (vl vh : Int) (q : Nat) (a b u v f : Nat → Int) (mk dd : Int) : St := (some { σ := [.agg [i c, i T, i lo, i hi], wds n w, wds m z, .agg [i vl, i vh], .ptr 0 0, .top, .top, .ptr 1 0, .top, .lst 1 c.toNat (fun k => [i (f k)]), rds q a b u v, i mk, i dd, .top, .top, .top, .top, .top, .top, .top, .top, .top, .top, .top, .top, .top, .top, .top, .top, .top, .top, .top, .top, .top, .top, .top, .top, .top, .top, .top, .top, .top, .top, .top, .top, .top, .top, .top, .top, .top, .top, .top, .top, .top, .top, .top, .top, .top, .top, .top, .top, .top, .top, .top, .top, .top, .top, .top, .top, .top, .top, .top, .top, .top, .top, .top, .top, .top, .top, .top, .top, .top, .top, .top, .top, .top, .top, .top, .top, .top, .top, .top, .top, .top, .top, .top, .top, .top, .top, .top, .top, .top, .top, .top, .top, .top, .top, .top, .top, .top, .top, .top, .top, .top, .top, .top, .top, .top, .top, .top, .top, .top, .top, .top, .top, .top, .top, .top, .top, .top, .top, .top, .top, .top, .top, .top, .top, .top, .top, .top, .top, .top, .top, .top, .top, .top, .top, .top, .top, .top, .top, .top, .top, .top, .top, .top, .top, .top, .top, .top, .top, .top, .top, .top, .top, .top, .top, .top, .top, .top, .top, .top, .top, .top, .top, .top, .top, .top, .top, .top, .top, .top, .top, .top, .top], m := [(1, .cells 23 [i vl, i vh]), (0, .cells 25 [i c, i T, i lo, i hi])], nx := 3000 } : Option St).getD { σ := [], m := [], nx := 0 }
noncomputable def B_nb : Code := loopBody (loopAt (bodyOf Try.f8) 1)
noncomputable def inv_nb (c T lo hi : Int) (n : Nat) (w : Nat → Int) (m : Nat) (z : Nat → Int) (vl vh : Int) (q : Nat) (a b u v f : Nat → Int) (mk dd : Int) (k : Nat) : St := { σ := ovrS [(18, i k)] (E_nb c T lo hi n w m z vl vh q a b u v f mk dd).σ, m := (E_nb c T lo hi n w m z vl vh q a b u v f mk dd).m, nx := (E_nb c T lo hi n w m z vl vh q a b u v f mk dd).nx }
noncomputable def out_nb (c T lo hi : Int) (n : Nat) (w : Nat → Int) (m : Nat) (z : Nat → Int) (vl vh : Int) (q : Nat) (a b u v f : Nat → Int) (mk dd : Int) (k : Nat) : AEx → Option St := fun ex => match ex with
  | .exit 2 => some { σ := ovrS [] (E_nb c T lo hi n w m z vl vh q a b u v f mk dd).σ, m := (E_nb c T lo hi n w m z vl vh q a b u v f mk dd).m, nx := (E_nb c T lo hi n w m z vl vh q a b u v f mk dd).nx }
  | _ => none
noncomputable def T_nb (c T lo hi : Int) (n : Nat) (w : Nat → Int) (m : Nat) (z : Nat → Int) (vl vh : Int) (q : Nat) (a b u v f : Nat → Int) (mk dd : Int) : CT := .leaf (.exit 2, ( out_nb c T lo hi n w m z vl vh q a b u v f mk dd 0 (.exit 2)).getD (E_nb c T lo hi n w m z vl vh q a b u v f mk dd))
noncomputable def LS_nb (c T lo hi : Int) (n : Nat) (w : Nat → Int) (m : Nat) (z : Nat → Int) (vl vh : Int) (q : Nat) (a b u v f : Nat → Int) (mk dd : Int) : LSpec := normSp [] (sumL (inv_nb c T lo hi n w m z vl vh q a b u v f mk dd (0)) (T_nb c T lo hi n w m z vl vh q a b u v f mk dd))
noncomputable def E_nc (c T lo hi : Int) (n : Nat) (w : Nat → Int) (m : Nat) (z : Nat → Int) (vl vh : Int) (q : Nat) (a b u v f : Nat → Int) (mk dd : Int) (k : Nat) : St := (some
  {
    σ :=
      [AV.agg
          [AV.x (Value.int IntKind.i64 c), AV.x (Value.int IntKind.i64 T), AV.x (Value.int IntKind.i64 lo),
            AV.x (Value.int IntKind.i64 hi)],
        AV.lst (1 : Nat) n fun k => [AV.x (Value.int IntKind.u16 (w k))],
        AV.lst (1 : Nat) m fun k => [AV.x (Value.int IntKind.u16 (z k))],
        AV.agg [AV.x (Value.int IntKind.i64 vl), AV.x (Value.int IntKind.i64 vh)], AV.ptr (0 : Nat) (0 : Nat), AV.top,
        AV.top, AV.ptr (1 : Nat) (0 : Nat), AV.top,
        AV.lst (1 : Nat) (Int.toNat c) fun k => [AV.x (Value.int IntKind.i64 (f k))],
        AV.lst (4 : Nat) q fun k =>
          [AV.x (Value.int IntKind.i64 (a k)), AV.x (Value.int IntKind.i64 (b k)), AV.x (Value.int IntKind.i64 (u k)),
            AV.x (Value.int IntKind.i64 (v k))],
        AV.x (Value.int IntKind.i64 mk), AV.x (Value.int IntKind.i64 dd), AV.top, AV.top, AV.top, AV.top, AV.top,
        AV.x (Value.int IntKind.i64 (↑k : Int)), AV.top, AV.top, AV.top, AV.top, AV.top, AV.top, AV.top, AV.top, AV.top,
        AV.top, AV.top, AV.top, AV.top, AV.top, AV.top, AV.top, AV.top, AV.top, AV.top, AV.top, AV.top, AV.top, AV.top,
        AV.top, AV.top, AV.top, AV.top, AV.top, AV.top, AV.top, AV.top, AV.top, AV.top, AV.top, AV.top, AV.top, AV.top,
        AV.top, AV.top, AV.top, AV.top, AV.top, AV.top, AV.top, AV.top, AV.top, AV.top, AV.top, AV.top, AV.top, AV.top,
        AV.top, AV.top, AV.top, AV.top, AV.top, AV.top, AV.top, AV.top, AV.top, AV.top, AV.top, AV.top, AV.top, AV.top,
        AV.top, AV.top, AV.top, AV.top, AV.top, AV.top, AV.top, AV.top, AV.top, AV.top, AV.top, AV.top, AV.top, AV.top,
        AV.top, AV.top, AV.top, AV.top, AV.top, AV.top, AV.top, AV.top, AV.top, AV.top, AV.top, AV.top, AV.top, AV.top,
        AV.top, AV.top, AV.top, AV.top, AV.top, AV.top, AV.top, AV.top, AV.top, AV.top, AV.top, AV.top, AV.top, AV.top,
        AV.top, AV.top, AV.top, AV.top, AV.top, AV.top, AV.top, AV.top, AV.top, AV.top, AV.top, AV.top, AV.top, AV.top,
        AV.top, AV.top, AV.top, AV.top, AV.top, AV.top, AV.top, AV.top, AV.top, AV.top, AV.top, AV.top, AV.top, AV.top,
        AV.top, AV.top, AV.top, AV.top, AV.top, AV.top, AV.top, AV.top, AV.top, AV.top, AV.top, AV.top, AV.top, AV.top,
        AV.top, AV.top, AV.top, AV.top, AV.top, AV.top, AV.top, AV.top, AV.top, AV.top, AV.top, AV.top, AV.top, AV.top,
        AV.top, AV.top, AV.top],
    m :=
      [((1 : Nat), Res.cells (23 : Nat) [AV.x (Value.int IntKind.i64 vl), AV.x (Value.int IntKind.i64 vh)]),
        ((0 : Nat),
          Res.cells (25 : Nat)
            [AV.x (Value.int IntKind.i64 c), AV.x (Value.int IntKind.i64 T), AV.x (Value.int IntKind.i64 lo),
              AV.x (Value.int IntKind.i64 hi)])],
    nx := (3007 : Nat) } : Option St).getD { σ := [], m := [], nx := 0 }
noncomputable def B_nc : Code := loopBody (loopAt B_nb 0)
noncomputable def inv_nc (c T lo hi : Int) (n : Nat) (w : Nat → Int) (m : Nat) (z : Nat → Int) (vl vh : Int) (q : Nat) (a b u v f : Nat → Int) (mk dd : Int) (k : Nat) (j : Nat) : St := { σ := ovrS [(19, i (mwW c T lo hi q a b u v vl vh k j)), (20, i ((k : Int) + j))] (E_nc c T lo hi n w m z vl vh q a b u v f mk dd k).σ, m := (E_nc c T lo hi n w m z vl vh q a b u v f mk dd k).m, nx := (E_nc c T lo hi n w m z vl vh q a b u v f mk dd k).nx }
noncomputable def out_nc (c T lo hi : Int) (n : Nat) (w : Nat → Int) (m : Nat) (z : Nat → Int) (vl vh : Int) (q : Nat) (a b u v f : Nat → Int) (mk dd : Int) (k : Nat) (j : Nat) : AEx → Option St := fun ex => match ex with
  | .exit 4 => some { σ := ovrS [(19, i (mwW c T lo hi q a b u v vl vh k (c - k + 1).toNat)), (20, .top)] (E_nc c T lo hi n w m z vl vh q a b u v f mk dd k).σ, m := (E_nc c T lo hi n w m z vl vh q a b u v f mk dd k).m, nx := (E_nc c T lo hi n w m z vl vh q a b u v f mk dd k).nx }
  | _ => none
noncomputable def T_nc (c T lo hi : Int) (n : Nat) (w : Nat → Int) (m : Nat) (z : Nat → Int) (vl vh : Int) (q : Nat) (a b u v f : Nat → Int) (mk dd : Int) (k : Nat) : CT := .leaf (.exit 4, ( out_nc c T lo hi n w m z vl vh q a b u v f mk dd k 0 (.exit 4)).getD (E_nc c T lo hi n w m z vl vh q a b u v f mk dd k))
noncomputable def LS_nc (c T lo hi : Int) (n : Nat) (w : Nat → Int) (m : Nat) (z : Nat → Int) (vl vh : Int) (q : Nat) (a b u v f : Nat → Int) (mk dd : Int) (k : Nat) : LSpec := normSp [] (sumL (inv_nc c T lo hi n w m z vl vh q a b u v f mk dd k (0)) (T_nc c T lo hi n w m z vl vh q a b u v f mk dd k))
set_option maxRecDepth 100000 in
theorem nc_ls (c T lo hi : Int) (n : Nat) (w : Nat → Int) (m : Nat) (z : Nat → Int) (vl vh : Int) (q : Nat) (a b u v f : Nat → Int) (mk dd : Int) (k : Nat) (pre0 : flt c T lo hi q a b u v = 0) (pre1 : q ≤ 11) (pre2 : 0 ≤ vl ∧ vl ≤ vh ∧ vh ≤ 2000) (pre3 : (k : Int) < c) : LSound Try.prog (.loop B_nc) (LS_nc c T lo hi n w m z vl vh q a b u v f mk dd k) := by
  refine loop_roundsX [] (E := { R := [], H := [] }) (G := [(31, S_rIsTube), (26, S_rSpan), (20, S_wakes), (34, S_Truly), (33, S_Seen), (22, S_lTube), (23, S_lReadings), (24, S_lto), (21, S_Next), (39, S_word), (40, S_rHeight), (36, S_Doubt)]) (L := []) (SoundG.cons rIsTube_ok (SoundG.cons rSpan_ok (SoundG.cons wakes_ok (SoundG.cons Truly_ok (SoundG.cons Seen_ok (SoundG.cons lTube_ok (SoundG.cons lReadings_ok (SoundG.cons lto_ok (SoundG.cons Next_ok (SoundG.cons word_ok (SoundG.cons rHeight_ok (SoundG.cons Doubt_ok (SoundG.nil _))))))))))))) (SoundX.of (SoundRL.nil _) (SoundHL.nil _)) mixed noLoops (X := Nat) (inv_nc c T lo hi n w m z vl vh q a b u v f mk dd k) (fun j => j ≤ (c - k + 1).toNat) (fun j => (c - k + 1).toNat - j) (out_nc c T lo hi n w m z vl vh q a b u v f mk dd k) (x0 := 0) (by simp) ?_ ?_ ?_
  · rintro j
    kernel_rfl
  · rintro j y E h
    unfold out_nc at h
    split at h
    · cases h; kernel_rfl
    · cases h
  · rintro Q hQ j hx
    refine ⟨(j + 1), ?_⟩
    have e : roundX Try.prog [(31, S_rIsTube), (26, S_rSpan), (20, S_wakes), (34, S_Truly), (33, S_Seen), (22, S_lTube), (23, S_lReadings), (24, S_lto), (21, S_Next), (39, S_word), (40, S_rHeight), (36, S_Doubt)] { R := [], H := [] } [] [] B_nc (inv_nc c T lo hi n w m z vl vh q a b u v f mk dd k j) (inv_nc c T lo hi n w m z vl vh q a b u v f mk dd k ((j + 1))) (out_nc c T lo hi n w m z vl vh q a b u v f mk dd k j) = (Tree.branch (decide ((↑k : Int) + (↑j : Int) ≤ c)) (Tree.need [(0 + q) * 32 ≤ 140737488355328, ∀ (i : Nat), i < q → ∀ (a_2 : AV), a_2 ∈ [iI (a i), iI (b i), iI (u i), iI (v i)] → AV.one a_2 = true] (Tree.need [(0 + q + 1) * 32 ≤ 140737488355328, ∀ (i : Nat), i < 1 → ∀ (a : AV), a ∈ chunk 4 [iI (↑k : Int), iI ((↑k : Int) + (↑j : Int)), iI vl, iI vh] i → AV.one a = true] (Tree.need [isRec 4 (0 + q + 1) (catF (0 + q) (catF 0 (fun x => []) fun k => [iI (a k), iI (b k), iI (u k), iI (v k)]) (chunk 4 [iI (↑k : Int), iI ((↑k : Int) + (↑j : Int)), iI vl, iI vh])), 0 + q + 1 ≤ 100000] (Tree.need [isRec 4 (0 + q + 1) fun k_1 => [i (col 0 (catF (0 + q) (catF 0 (fun x => []) fun k => [iI (a k), iI (b k), iI (u k), iI (v k)]) (chunk 4 [iI (↑k : Int), iI ((↑k : Int) + (↑j : Int)), iI vl, iI vh])) k_1), i (col 1 (catF (0 + q) (catF 0 (fun x => []) fun k => [iI (a k), iI (b k), iI (u k), iI (v k)]) (chunk 4 [iI (↑k : Int), iI ((↑k : Int) + (↑j : Int)), iI vl, iI vh])) k_1), i (col 2 (catF (0 + q) (catF 0 (fun x => []) fun k => [iI (a k), iI (b k), iI (u k), iI (v k)]) (chunk 4 [iI (↑k : Int), iI ((↑k : Int) + (↑j : Int)), iI vl, iI vh])) k_1), i (col 3 (catF (0 + q) (catF 0 (fun x => []) fun k => [iI (a k), iI (b k), iI (u k), iI (v k)]) (chunk 4 [iI (↑k : Int), iI ((↑k : Int) + (↑j : Int)), iI vl, iI vh])) k_1)]] (Tree.branch (eB c T lo hi (0 + q + 1) (col 0 (catF (0 + q) (catF 0 (fun x => []) fun k => [iI (a k), iI (b k), iI (u k), iI (v k)]) (chunk 4 [iI (↑k : Int), iI ((↑k : Int) + (↑j : Int)), iI vl, iI vh]))) (col 1 (catF (0 + q) (catF 0 (fun x => []) fun k => [iI (a k), iI (b k), iI (u k), iI (v k)]) (chunk 4 [iI (↑k : Int), iI ((↑k : Int) + (↑j : Int)), iI vl, iI vh]))) (col 2 (catF (0 + q) (catF 0 (fun x => []) fun k => [iI (a k), iI (b k), iI (u k), iI (v k)]) (chunk 4 [iI (↑k : Int), iI ((↑k : Int) + (↑j : Int)), iI vl, iI vh]))) (col 3 (catF (0 + q) (catF 0 (fun x => []) fun k => [iI (a k), iI (b k), iI (u k), iI (v k)]) (chunk 4 [iI (↑k : Int), iI ((↑k : Int) + (↑j : Int)), iI vl, iI vh]))) == (0 : Int)) (Tree.need [inI64 ((↑k : Int) + (↑j : Int) + (1 : Int))] (Tree.need [AV.agg [iI c, iI T, iI lo, iI hi] = AV.agg [iI c, iI T, iI lo, iI hi], (AV.lst 1 n fun k => [AV.x (Value.int IntKind.u16 (w k))]) = AV.lst 1 n fun k => [AV.x (Value.int IntKind.u16 (w k))], (AV.lst 1 m fun k => [AV.x (Value.int IntKind.u16 (z k))]) = AV.lst 1 m fun k => [AV.x (Value.int IntKind.u16 (z k))], AV.agg [iI vl, iI vh] = AV.agg [iI vl, iI vh], AV.ptr 0 0 = AV.ptr 0 0, AV.ptr 1 0 = AV.ptr 1 0, (AV.lst 1 (Int.toNat c) fun k => [iI (f k)]) = AV.lst 1 (Int.toNat c) fun k => [iI (f k)], (AV.lst 4 q fun k => [iI (a k), iI (b k), iI (u k), iI (v k)]) = AV.lst 4 q fun k => [iI (a k), iI (b k), iI (u k), iI (v k)], mk = mk, dd = dd, (↑k : Int) = (↑k : Int), max (mwW c T lo hi q a b u v vl vh k j) (dtB c T lo hi (0 + q + 1) (col 0 (catF (0 + q) (catF 0 (fun x => []) fun k => [iI (a k), iI (b k), iI (u k), iI (v k)]) (chunk 4 [iI (↑k : Int), iI ((↑k : Int) + (↑j : Int)), iI vl, iI vh]))) (col 1 (catF (0 + q) (catF 0 (fun x => []) fun k => [iI (a k), iI (b k), iI (u k), iI (v k)]) (chunk 4 [iI (↑k : Int), iI ((↑k : Int) + (↑j : Int)), iI vl, iI vh]))) (col 2 (catF (0 + q) (catF 0 (fun x => []) fun k => [iI (a k), iI (b k), iI (u k), iI (v k)]) (chunk 4 [iI (↑k : Int), iI ((↑k : Int) + (↑j : Int)), iI vl, iI vh]))) (col 3 (catF (0 + q) (catF 0 (fun x => []) fun k => [iI (a k), iI (b k), iI (u k), iI (v k)]) (chunk 4 [iI (↑k : Int), iI ((↑k : Int) + (↑j : Int)), iI vl, iI vh])))) = mwW c T lo hi q a b u v vl vh k (j + 1), (↑k : Int) + (↑j : Int) + (1 : Int) = (↑k : Int) + (↑(j + 1) : Int), vl = vl, vh = vh, c = c, T = T, lo = lo, hi = hi] (Tree.leaf AEx.normal))) (Tree.branch (eB c T lo hi (0 + q + 1) (col 0 (catF (0 + q) (catF 0 (fun x => []) fun k => [iI (a k), iI (b k), iI (u k), iI (v k)]) (chunk 4 [iI (↑k : Int), iI ((↑k : Int) + (↑j : Int)), iI vl, iI vh]))) (col 1 (catF (0 + q) (catF 0 (fun x => []) fun k => [iI (a k), iI (b k), iI (u k), iI (v k)]) (chunk 4 [iI (↑k : Int), iI ((↑k : Int) + (↑j : Int)), iI vl, iI vh]))) (col 2 (catF (0 + q) (catF 0 (fun x => []) fun k => [iI (a k), iI (b k), iI (u k), iI (v k)]) (chunk 4 [iI (↑k : Int), iI ((↑k : Int) + (↑j : Int)), iI vl, iI vh]))) (col 3 (catF (0 + q) (catF 0 (fun x => []) fun k => [iI (a k), iI (b k), iI (u k), iI (v k)]) (chunk 4 [iI (↑k : Int), iI ((↑k : Int) + (↑j : Int)), iI vl, iI vh]))) != (9 : Int)) Tree.fail (Tree.need [inI64 ((↑k : Int) + (↑j : Int) + (1 : Int))] (Tree.need [AV.agg [iI c, iI T, iI lo, iI hi] = AV.agg [iI c, iI T, iI lo, iI hi], (AV.lst 1 n fun k => [AV.x (Value.int IntKind.u16 (w k))]) = AV.lst 1 n fun k => [AV.x (Value.int IntKind.u16 (w k))], (AV.lst 1 m fun k => [AV.x (Value.int IntKind.u16 (z k))]) = AV.lst 1 m fun k => [AV.x (Value.int IntKind.u16 (z k))], AV.agg [iI vl, iI vh] = AV.agg [iI vl, iI vh], AV.ptr 0 0 = AV.ptr 0 0, AV.ptr 1 0 = AV.ptr 1 0, (AV.lst 1 (Int.toNat c) fun k => [iI (f k)]) = AV.lst 1 (Int.toNat c) fun k => [iI (f k)], (AV.lst 4 q fun k => [iI (a k), iI (b k), iI (u k), iI (v k)]) = AV.lst 4 q fun k => [iI (a k), iI (b k), iI (u k), iI (v k)], mk = mk, dd = dd, (↑k : Int) = (↑k : Int), mwW c T lo hi q a b u v vl vh k j = mwW c T lo hi q a b u v vl vh k (j + 1), (↑k : Int) + (↑j : Int) + (1 : Int) = (↑k : Int) + (↑(j + 1) : Int), vl = vl, vh = vh, c = c, T = T, lo = lo, hi = hi] (Tree.leaf AEx.normal))))))))) (Tree.need [AV.agg [iI c, iI T, iI lo, iI hi] = AV.agg [iI c, iI T, iI lo, iI hi], (AV.lst 1 n fun k => [AV.x (Value.int IntKind.u16 (w k))]) = AV.lst 1 n fun k => [AV.x (Value.int IntKind.u16 (w k))], (AV.lst 1 m fun k => [AV.x (Value.int IntKind.u16 (z k))]) = AV.lst 1 m fun k => [AV.x (Value.int IntKind.u16 (z k))], AV.agg [iI vl, iI vh] = AV.agg [iI vl, iI vh], AV.ptr 0 0 = AV.ptr 0 0, AV.ptr 1 0 = AV.ptr 1 0, (AV.lst 1 (Int.toNat c) fun k => [iI (f k)]) = AV.lst 1 (Int.toNat c) fun k => [iI (f k)], (AV.lst 4 q fun k => [iI (a k), iI (b k), iI (u k), iI (v k)]) = AV.lst 4 q fun k => [iI (a k), iI (b k), iI (u k), iI (v k)], mk = mk, dd = dd, (↑k : Int) = (↑k : Int), mwW c T lo hi q a b u v vl vh k j = mwW c T lo hi q a b u v vl vh k (Int.toNat (c - (↑k : Int) + (1 : Int))), vl = vl, vh = vh, c = c, T = T, lo = lo, hi = hi] (Tree.leaf (AEx.exit 4)))) := by kernel_rfl
    rw [e]
    simp only [T_nc, out_nc, Tree.sat, Option.getD_some] at hQ
    have hf := flt_iff.1 pre0
    have hb := tube_bd hf.1
    obtain ⟨F, hF0⟩ : ∃ F, F = catF (0 + q) (catF 0 (fun _ => []) fun k => [i (a k), i (b k), i (u k), i (v k)]) (chunk 4 [i k, i ((k : Int) + j), i vl, i vh]) := ⟨_, rfl⟩
    have hF : ∀ y, y < q + 1 → F y = [i (exL q a k y), i (exL q b ((k : Int) + j) y), i (exL q u vl y), i (exL q v vh y)] := fun y hy => by
      rw [hF0]
      exact catE hy
    simp only [Tree.sat, allP, fitP, fitL, valEq, inI64, true_and, and_true, decide_eq_true_eq, decide_eq_false_iff_not, Int.natCast_zero, Int.toNat_natCast, out_nc, bne_iff_ne, ne_eq, bne_eq_false_iff_eq, beq_iff_eq, beq_eq_false_iff_ne, ← hF0]
    clear e hF0
    simp only [Nat.zero_add]
    refine ⟨fun h => ?_, fun h => ?_⟩
    · have h2 := ex_flt (x1 := k) (x2 := (k : Int) + j) (x3 := vl) (x4 := vh) pre1 pre0 (rdB_of (by omega))
      have hc4 : ∀ y, y < q + 1 → col 0 F y = exL q a k y ∧ col 1 F y = exL q b ((k : Int) + j) y ∧ col 2 F y = exL q u vl y ∧ col 3 F y = exL q v vh y := fun y hy => by
        unfold col
        rw [hF y hy]
        exact ⟨rfl, rfl, rfl, rfl⟩
      obtain ⟨e1, e2, e3, e4, e5⟩ := eB_congr (c := c) (T := T) (lo := lo) (hi := hi) hc4
      have eo := eB_or h2
      have hrec : isRec 4 (q + 1) F := fun y hy => by
        rw [hF y hy]
        rfl
      have hmw := mw_nw (j := j) pre1 pre0 pre2 pre3 (by omega)
      have hdd := nwD_nn (j := j) pre1 pre0 pre2 pre3 (by omega)
      have em : mwW c T lo hi q a b u v vl vh k (j + 1) = if nwO c T lo hi q a b u v vl vh k j then max (mwW c T lo hi q a b u v vl vh k j) (nwD c T lo hi q a b u v vl vh k j) else mwW c T lo hi q a b u v vl vh k j := rfl
      cases ho : nwO c T lo hi q a b u v vl vh k j with
      | true =>
        have e0 : eB c T lo hi (q + 1) (exL q a k) (exL q b ((k : Int) + j)) (exL q u vl) (exL q v vh) = 0 := by
          rw [eo]
          exact if_pos ho
        have ed : dtB c T lo hi (q + 1) (exL q a k) (exL q b ((k : Int) + j)) (exL q u vl) (exL q v vh) = nwD c T lo hi q a b u v vl vh k j := if_pos e0
        rw [em, ho, if_pos rfl]
        simp only [e1, e4, e0, ed]
        (repeat' first | with_reducible apply And.intro | with_reducible intro _)
        all_goals first | exact True.intro | omega | with_reducible rfl | exact isRec4 _ _ _ _ _ | exact hrec | rfl | exact one_of (by assumption) (by simp [AV.one, Value.oneCell']) | (rename_i hm; simp only [List.mem_cons, List.not_mem_nil, or_false] at hm; rcases hm with rfl | rfl | rfl | rfl <;> rfl) | (exfalso; first | contradiction | (rename_i h; exact h True.intro) | (rename_i h _; exact h True.intro)) | fail
      | false =>
        have e0 : eB c T lo hi (q + 1) (exL q a k) (exL q b ((k : Int) + j)) (exL q u vl) (exL q v vh) = 9 := by
          rw [eo]
          exact if_neg (by rw [show okB c T lo hi (q + 1) (exL q a k) (exL q b ((k : Int) + j)) (exL q u vl) (exL q v vh) = false from ho]; decide)
        rw [em, ho, if_neg (by decide)]
        simp only [e1, e4, e0]
        (repeat' first | with_reducible apply And.intro | with_reducible intro _)
        all_goals first | exact True.intro | omega | with_reducible rfl | exact isRec4 _ _ _ _ _ | exact hrec | rfl | exact one_of (by assumption) (by simp [AV.one, Value.oneCell']) | (rename_i hm; simp only [List.mem_cons, List.not_mem_nil, or_false] at hm; rcases hm with rfl | rfl | rfl | rfl <;> rfl) | (exfalso; first | contradiction | (rename_i h; exact h True.intro) | (rename_i h _; exact h True.intro)) | fail
    · obtain rfl : j = (c - k + 1).toNat := by omega
      (repeat' first | with_reducible apply And.intro | with_reducible intro _)
      all_goals first | exact True.intro | omega | with_reducible rfl | rfl | (rename_i E hE; cases hE; exact hQ)

set_option maxRecDepth 100000 in
theorem nb_ls (c T lo hi : Int) (n : Nat) (w : Nat → Int) (m : Nat) (z : Nat → Int) (vl vh : Int) (q : Nat) (a b u v f : Nat → Int) (mk dd : Int) (pre0 : flt c T lo hi q a b u v = 0) (pre1 : q ≤ 11) (pre2 : 0 ≤ vl ∧ vl ≤ vh ∧ vh ≤ 2000) (pre3 : ∀ k : Nat, (k : Int) < c → dd ≤ mwW c T lo hi q a b u v vl vh k (c - k + 1).toNat ∧ ((k : Int) < mk → mwW c T lo hi q a b u v vl vh k (c - k + 1).toNat ≠ dd) ∧ ((k : Int) = mk → mwW c T lo hi q a b u v vl vh k (c - k + 1).toNat = dd)) : LSound Try.prog (.loop B_nb) (LS_nb c T lo hi n w m z vl vh q a b u v f mk dd) := by
  refine loop_roundsX [] (E := { R := [], H := [] }) (G := [(31, S_rIsTube), (26, S_rSpan), (20, S_wakes), (34, S_Truly), (33, S_Seen), (22, S_lTube), (23, S_lReadings), (24, S_lto), (21, S_Next), (39, S_word), (40, S_rHeight), (36, S_Doubt)]) (L := [depSp 18 (fun k => needSp [flt c T lo hi q a b u v = 0, q ≤ 11, 0 ≤ vl ∧ vl ≤ vh ∧ vh ≤ 2000, (k : Int) < c] (LS_nc c T lo hi n w m z vl vh q a b u v f mk dd k))]) (SoundG.cons rIsTube_ok (SoundG.cons rSpan_ok (SoundG.cons wakes_ok (SoundG.cons Truly_ok (SoundG.cons Seen_ok (SoundG.cons lTube_ok (SoundG.cons lReadings_ok (SoundG.cons lto_ok (SoundG.cons Next_ok (SoundG.cons word_ok (SoundG.cons rHeight_ok (SoundG.cons Doubt_ok (SoundG.nil _))))))))))))) (SoundX.of (SoundRL.nil _) (SoundHL.nil _)) mixed (one_loop (fun cj hcj => by
    have e : loopAt B_nb 0 = some (.loop B_nc) := by kernel_rfl
    rw [e] at hcj; cases hcj
    exact depSp_sound (fun k => needSp_sound (fun h => nc_ls c T lo hi n w m z vl vh q a b u v f mk dd k h.1 h.2.1 h.2.2.1 h.2.2.2)))) (X := Nat) (inv_nb c T lo hi n w m z vl vh q a b u v f mk dd) (fun k => k ≤ c.toNat) (fun k => c.toNat - k) (out_nb c T lo hi n w m z vl vh q a b u v f mk dd) (x0 := 0) (by simp) ?_ ?_ ?_
  · rintro k
    kernel_rfl
  · rintro k y E h
    unfold out_nb at h
    split at h
    · cases h; kernel_rfl
    · cases h
  · rintro Q hQ k hx
    refine ⟨(k + 1), ?_⟩
    have e : roundX Try.prog [(31, S_rIsTube), (26, S_rSpan), (20, S_wakes), (34, S_Truly), (33, S_Seen), (22, S_lTube), (23, S_lReadings), (24, S_lto), (21, S_Next), (39, S_word), (40, S_rHeight), (36, S_Doubt)] { R := [], H := [] } [depSp 18 (fun k => needSp [flt c T lo hi q a b u v = 0, q ≤ 11, 0 ≤ vl ∧ vl ≤ vh ∧ vh ≤ 2000, (k : Int) < c] (LS_nc c T lo hi n w m z vl vh q a b u v f mk dd k))] [] B_nb (inv_nb c T lo hi n w m z vl vh q a b u v f mk dd k) (inv_nb c T lo hi n w m z vl vh q a b u v f mk dd ((k + 1))) (out_nb c T lo hi n w m z vl vh q a b u v f mk dd k) = (Tree.branch (decide ((↑k : Int) < c)) (Tree.need [flt c T lo hi q a b u v = (0 : Int), q ≤ 11, (0 : Int) ≤ vl ∧ vl ≤ vh ∧ vh ≤ (2000 : Int), (↑k : Int) < c] (Tree.need [AV.agg [iI c, iI T, iI lo, iI hi] = AV.agg [iI c, iI T, iI lo, iI hi], (AV.lst 1 n fun k => [AV.x (Value.int IntKind.u16 (w k))]) = AV.lst 1 n fun k => [AV.x (Value.int IntKind.u16 (w k))], (AV.lst 1 m fun k => [AV.x (Value.int IntKind.u16 (z k))]) = AV.lst 1 m fun k => [AV.x (Value.int IntKind.u16 (z k))], AV.agg [iI vl, iI vh] = AV.agg [iI vl, iI vh], AV.ptr 0 0 = AV.ptr 0 0, AV.ptr 1 0 = AV.ptr 1 0, (AV.lst 1 (Int.toNat c) fun k => [iI (f k)]) = AV.lst 1 (Int.toNat c) fun k => [iI (f k)], (AV.lst 4 q fun k => [iI (a k), iI (b k), iI (u k), iI (v k)]) = AV.lst 4 q fun k => [iI (a k), iI (b k), iI (u k), iI (v k)], mk = mk, dd = dd, (↑k : Int) = (↑k : Int), (-1 : Int) = mwW c T lo hi q a b u v vl vh k 0, (↑k : Int) = (↑k : Int) + (↑(0 : Nat) : Int), vl = vl, vh = vh, c = c, T = T, lo = lo, hi = hi] (Tree.branch (decide (mwW c T lo hi q a b u v vl vh k (Int.toNat (c - (↑k : Int) + (1 : Int))) < dd)) Tree.fail (Tree.branch (decide ((↑k : Int) < mk)) (Tree.branch (mwW c T lo hi q a b u v vl vh k (Int.toNat (c - (↑k : Int) + (1 : Int))) == dd) Tree.fail (Tree.branch ((↑k : Int) == mk) (Tree.branch (mwW c T lo hi q a b u v vl vh k (Int.toNat (c - (↑k : Int) + (1 : Int))) != dd) Tree.fail (Tree.need [inI64 ((↑k : Int) + (1 : Int))] (Tree.need [AV.agg [iI c, iI T, iI lo, iI hi] = AV.agg [iI c, iI T, iI lo, iI hi], (AV.lst 1 n fun k => [AV.x (Value.int IntKind.u16 (w k))]) = AV.lst 1 n fun k => [AV.x (Value.int IntKind.u16 (w k))], (AV.lst 1 m fun k => [AV.x (Value.int IntKind.u16 (z k))]) = AV.lst 1 m fun k => [AV.x (Value.int IntKind.u16 (z k))], AV.agg [iI vl, iI vh] = AV.agg [iI vl, iI vh], AV.ptr 0 0 = AV.ptr 0 0, AV.ptr 1 0 = AV.ptr 1 0, (AV.lst 1 (Int.toNat c) fun k => [iI (f k)]) = AV.lst 1 (Int.toNat c) fun k => [iI (f k)], (AV.lst 4 q fun k => [iI (a k), iI (b k), iI (u k), iI (v k)]) = AV.lst 4 q fun k => [iI (a k), iI (b k), iI (u k), iI (v k)], mk = mk, dd = dd, (↑k : Int) + (1 : Int) = (↑(k + 1) : Int), vl = vl, vh = vh, c = c, T = T, lo = lo, hi = hi] (Tree.leaf AEx.normal)))) (Tree.need [inI64 ((↑k : Int) + (1 : Int))] (Tree.need [AV.agg [iI c, iI T, iI lo, iI hi] = AV.agg [iI c, iI T, iI lo, iI hi], (AV.lst 1 n fun k => [AV.x (Value.int IntKind.u16 (w k))]) = AV.lst 1 n fun k => [AV.x (Value.int IntKind.u16 (w k))], (AV.lst 1 m fun k => [AV.x (Value.int IntKind.u16 (z k))]) = AV.lst 1 m fun k => [AV.x (Value.int IntKind.u16 (z k))], AV.agg [iI vl, iI vh] = AV.agg [iI vl, iI vh], AV.ptr 0 0 = AV.ptr 0 0, AV.ptr 1 0 = AV.ptr 1 0, (AV.lst 1 (Int.toNat c) fun k => [iI (f k)]) = AV.lst 1 (Int.toNat c) fun k => [iI (f k)], (AV.lst 4 q fun k => [iI (a k), iI (b k), iI (u k), iI (v k)]) = AV.lst 4 q fun k => [iI (a k), iI (b k), iI (u k), iI (v k)], mk = mk, dd = dd, (↑k : Int) + (1 : Int) = (↑(k + 1) : Int), vl = vl, vh = vh, c = c, T = T, lo = lo, hi = hi] (Tree.leaf AEx.normal))))) (Tree.branch ((↑k : Int) == mk) (Tree.branch (mwW c T lo hi q a b u v vl vh k (Int.toNat (c - (↑k : Int) + (1 : Int))) != dd) Tree.fail (Tree.need [inI64 ((↑k : Int) + (1 : Int))] (Tree.need [AV.agg [iI c, iI T, iI lo, iI hi] = AV.agg [iI c, iI T, iI lo, iI hi], (AV.lst 1 n fun k => [AV.x (Value.int IntKind.u16 (w k))]) = AV.lst 1 n fun k => [AV.x (Value.int IntKind.u16 (w k))], (AV.lst 1 m fun k => [AV.x (Value.int IntKind.u16 (z k))]) = AV.lst 1 m fun k => [AV.x (Value.int IntKind.u16 (z k))], AV.agg [iI vl, iI vh] = AV.agg [iI vl, iI vh], AV.ptr 0 0 = AV.ptr 0 0, AV.ptr 1 0 = AV.ptr 1 0, (AV.lst 1 (Int.toNat c) fun k => [iI (f k)]) = AV.lst 1 (Int.toNat c) fun k => [iI (f k)], (AV.lst 4 q fun k => [iI (a k), iI (b k), iI (u k), iI (v k)]) = AV.lst 4 q fun k => [iI (a k), iI (b k), iI (u k), iI (v k)], mk = mk, dd = dd, (↑k : Int) + (1 : Int) = (↑(k + 1) : Int), vl = vl, vh = vh, c = c, T = T, lo = lo, hi = hi] (Tree.leaf AEx.normal)))) (Tree.need [inI64 ((↑k : Int) + (1 : Int))] (Tree.need [AV.agg [iI c, iI T, iI lo, iI hi] = AV.agg [iI c, iI T, iI lo, iI hi], (AV.lst 1 n fun k => [AV.x (Value.int IntKind.u16 (w k))]) = AV.lst 1 n fun k => [AV.x (Value.int IntKind.u16 (w k))], (AV.lst 1 m fun k => [AV.x (Value.int IntKind.u16 (z k))]) = AV.lst 1 m fun k => [AV.x (Value.int IntKind.u16 (z k))], AV.agg [iI vl, iI vh] = AV.agg [iI vl, iI vh], AV.ptr 0 0 = AV.ptr 0 0, AV.ptr 1 0 = AV.ptr 1 0, (AV.lst 1 (Int.toNat c) fun k => [iI (f k)]) = AV.lst 1 (Int.toNat c) fun k => [iI (f k)], (AV.lst 4 q fun k => [iI (a k), iI (b k), iI (u k), iI (v k)]) = AV.lst 4 q fun k => [iI (a k), iI (b k), iI (u k), iI (v k)], mk = mk, dd = dd, (↑k : Int) + (1 : Int) = (↑(k + 1) : Int), vl = vl, vh = vh, c = c, T = T, lo = lo, hi = hi] (Tree.leaf AEx.normal)))))))) (Tree.need [AV.agg [iI c, iI T, iI lo, iI hi] = AV.agg [iI c, iI T, iI lo, iI hi], (AV.lst 1 n fun k => [AV.x (Value.int IntKind.u16 (w k))]) = AV.lst 1 n fun k => [AV.x (Value.int IntKind.u16 (w k))], (AV.lst 1 m fun k => [AV.x (Value.int IntKind.u16 (z k))]) = AV.lst 1 m fun k => [AV.x (Value.int IntKind.u16 (z k))], AV.agg [iI vl, iI vh] = AV.agg [iI vl, iI vh], AV.ptr 0 0 = AV.ptr 0 0, AV.ptr 1 0 = AV.ptr 1 0, (AV.lst 1 (Int.toNat c) fun k => [iI (f k)]) = AV.lst 1 (Int.toNat c) fun k => [iI (f k)], (AV.lst 4 q fun k => [iI (a k), iI (b k), iI (u k), iI (v k)]) = AV.lst 4 q fun k => [iI (a k), iI (b k), iI (u k), iI (v k)], mk = mk, dd = dd, vl = vl, vh = vh, c = c, T = T, lo = lo, hi = hi] (Tree.leaf (AEx.exit 2)))) := by kernel_rfl
    rw [e]
    simp only [T_nb, out_nb, Tree.sat, Option.getD_some] at hQ
    simp only [Tree.sat, allP, fitP, fitL, valEq, inI64, true_and, and_true, decide_eq_true_eq, decide_eq_false_iff_not, Int.natCast_zero, Int.toNat_natCast, out_nb, bne_iff_ne, ne_eq, bne_eq_false_iff_eq, beq_iff_eq, beq_eq_false_iff_ne]
    clear e
    refine ⟨fun h => ?_, fun h => ?_⟩
    · have hb := tube_bd (flt_iff.1 pre0).1
      obtain ⟨h4, h5, h6⟩ := pre3 k h
      generalize hM : mwW c T lo hi q a b u v vl vh k (c - k + 1).toNat = M at *
      (repeat' first | with_reducible apply And.intro | with_reducible intro _)
      all_goals first | exact True.intro | omega | with_reducible rfl | exact pre0 | exact pre1 | exact pre2 | (rename_i E hE; cases hE; exact hQ) | with_unfolding_all rfl | fail
    · have hb := tube_bd (flt_iff.1 pre0).1
      obtain rfl : k = c.toNat := by omega
      (repeat' first | with_reducible apply And.intro | with_reducible intro _)
      all_goals first | exact True.intro | omega | with_reducible rfl | exact pre0 | exact pre1 | exact pre2 | (rename_i E hE; cases hE; exact hQ) | with_unfolding_all rfl | fail

end Go.Proofs.Ytmdeoobmeokmeaa
/- Contracts of functions of the program, by the engine Sx: what each call comes to. Printed by a program of this repo (sxgen.py). -/
set_option linter.unusedSimpArgs false
set_option linter.unusedVariables false
namespace Go.Proofs.Ytmdeoobmeokmeaa
open Go Go.Sx Go.RowKit

abbrev z0 (z : Nat → Int) : Nat → Int := fun k => z (Int.toNat 0 + k)
abbrev m6 (m : Nat) : Nat := Int.toNat (min 6 (m : Int)) - Int.toNat 0
abbrev thW (n : Nat) (w : Nat → Int) (vl vh : Int) : Int := vl + Int.tmod (wdF n w 11) (vh - vl + 1)


theorem nx_all {c T lo hi : Int} {n : Nat} {a b u v f : Nat → Int} {p q th : Int} (hn : n ≤ 11) (h : flt c T lo hi n a b u v = 0) (hok : okB c T lo hi n a b u v = true) (ht : Tr c.toNat T lo hi n a b u v (sumF f)) (hp : 0 ≤ p ∧ p ≤ q ∧ q ≤ 2000) (hth : p ≤ th ∧ th ≤ q) :
    nxE c T lo hi n a b u v p q = 0 ∧ (0 ≤ nxRM c T lo hi n a b u v p q ∧ nxRM c T lo hi n a b u v p q < c) ∧ eB c T lo hi (n + 1) (exL n a (nxRM c T lo hi n a b u v p q)) (exL n b (nxRM c T lo hi n a b u v p q + thI c f (nxRM c T lo hi n a b u v p q) th)) (exL n u p) (exL n v q) = 0 ∧ dtB c T lo hi (n + 1) (exL n a (nxRM c T lo hi n a b u v p q)) (exL n b (nxRM c T lo hi n a b u v p q + thI c f (nxRM c T lo hi n a b u v p q) th)) (exL n u p) (exL n v q) ≤ nxRD c T lo hi n a b u v p q ∧ thI c f (nxRM c T lo hi n a b u v p q) th ≤ (c - nxRM c T lo hi n a b u v p q).toNat ∧ ∀ k : Nat, (k : Int) < c → nxRD c T lo hi n a b u v p q ≤ mwW c T lo hi n a b u v p q k (c - k + 1).toNat ∧ ((k : Int) < nxRM c T lo hi n a b u v p q → mwW c T lo hi n a b u v p q k (c - k + 1).toNat ≠ nxRD c T lo hi n a b u v p q) ∧ ((k : Int) = nxRM c T lo hi n a b u v p q → mwW c T lo hi n a b u v p q k (c - k + 1).toNat = nxRD c T lo hi n a b u v p q) := by
  have hf := flt_iff.1 h
  have hb := tube_bd hf.1
  have hE : nxE c T lo hi n a b u v p q = 0 := fltB_iff.2 ⟨h, (insB_iff _ _ _ _).2 (by omega), hok⟩
  have eM : nxRM c T lo hi n a b u v p q = nxM c T lo hi n a b u v p q c.toNat := if_pos hE
  have eD : nxRD c T lo hi n a b u v p q = nxD c T lo hi n a b u v p q c.toNat := if_pos hE
  obtain ⟨m, hm, h1, h2, h3, h4⟩ := nx_best (p := p) (q := q) hn h hp (c.toNat - 1) (by omega)
  rw [show c.toNat - 1 + 1 = c.toNat by omega] at h1 h2 h3 h4
  rw [eM, eD, h1]
  have hw : ∀ k : Nat, (k : Int) < c → nwW c T lo hi n a b u v p q k (c - k + 1).toNat = mwW c T lo hi n a b u v p q k (c - k + 1).toNat := fun k hk => by
    have ha := mw_nw hn h hp hk (c - k + 1).toNat (Nat.le_refl _)
    have hy := th_tr (mk := k) (th := p) hn h ht hp (by omega) (by omega)
    have e : ((k : Int)).toNat = k := by omega
    rw [e] at hy
    have hd := nwD_nn hn h hp hk hy.1
    have := ha.2.2 (thI c f k p) (by omega) hy.2
    omega
  have hmc : (m : Int) < c := by omega
  have hy := th_tr (mk := m) (th := th) hn h ht hp (by omega) hth
  rw [show ((m : Int)).toNat = m by omega] at hy
  have hd := nwD_nn hn h hp hmc hy.1
  have ha := (mw_nw hn h hp hmc (c - m + 1).toNat (Nat.le_refl _)).2.2 (thI c f m th) (by omega) hy.2
  have hx := ex_flt (x1 := m) (x2 := (m : Int) + thI c f m th) (x3 := p) (x4 := q) hn h (rdB_of (by omega))
  have e0 : eB c T lo hi (n + 1) (exL n a m) (exL n b ((m : Int) + thI c f m th)) (exL n u p) (exL n v q) = 0 := fltB_ok hx hy.2
  have ed : dtB c T lo hi (n + 1) (exL n a m) (exL n b ((m : Int) + thI c f m th)) (exL n u p) (exL n v q) = nwD c T lo hi n a b u v p q m (thI c f m th) := if_pos e0
  have hwm := hw m hmc
  refine ⟨hE, by omega, e0, by omega, hy.1, fun k hk => ?_⟩
  have hwk := hw k hk
  have h5 := h3 k (by omega)
  refine ⟨by omega, fun hlt => ?_, fun heq => ?_⟩
  · have := h4 k (by omega)
    omega
  · obtain rfl : k = m := by omega
    omega

set_option maxRecDepth 100000 in
theorem BoreNext_at (c T lo hi : Int) (n : Nat) (w : Nat → Int) (m : Nat) (z : Nat → Int) (vl vh : Int) (pre0 : n ≤ 10000000000000000000) (pre1 : wOk n w) (pre2 : m ≤ 10000000000000000000) (pre3 : wOk m z) : SoundAt Try.prog 8 [.agg [i c, i T, i lo, i hi], wds n w, wds m z, .agg [i vl, i vh]] (bl true) := by
  refine soundAt_finX (G := [(31, S_rIsTube), (26, S_rSpan), (20, S_wakes), (34, S_Truly), (33, S_Seen), (22, S_lTube), (23, S_lReadings), (24, S_lto), (21, S_Next), (39, S_word), (40, S_rHeight), (36, S_Doubt)]) (X := { R := [], H := [] }) (L := [needSp [1 ≤ c ∧ c ≤ 10, 0 ≤ (nxRM c T lo hi (min (m6 m) 12) (zA c (z0 z)) (zB c T lo hi n w (z0 z)) (zU c T lo hi n w (z0 z)) (zV c T lo hi n w (z0 z)) vl vh) ∧ (nxRM c T lo hi (min (m6 m) 12) (zA c (z0 z)) (zB c T lo hi n w (z0 z)) (zU c T lo hi n w (z0 z)) (zV c T lo hi n w (z0 z)) vl vh) < c, ∀ j, j < c.toNat → -1000 ≤ (tF c T lo hi n w) j ∧ (tF c T lo hi n w) j ≤ 1000, -1000000 ≤ (thW n w vl vh) ∧ (thW n w vl vh) ≤ 1000000] (LS_na c T lo hi n w m z vl vh (min (m6 m) 12) (zA c (z0 z)) (zB c T lo hi n w (z0 z)) (zU c T lo hi n w (z0 z)) (zV c T lo hi n w (z0 z)) (tF c T lo hi n w) (nxRM c T lo hi (min (m6 m) 12) (zA c (z0 z)) (zB c T lo hi n w (z0 z)) (zU c T lo hi n w (z0 z)) (zV c T lo hi n w (z0 z)) vl vh) (nxRD c T lo hi (min (m6 m) 12) (zA c (z0 z)) (zB c T lo hi n w (z0 z)) (zU c T lo hi n w (z0 z)) (zV c T lo hi n w (z0 z)) vl vh) (thW n w vl vh)), needSp [flt c T lo hi (min (m6 m) 12) (zA c (z0 z)) (zB c T lo hi n w (z0 z)) (zU c T lo hi n w (z0 z)) (zV c T lo hi n w (z0 z)) = 0, min (m6 m) 12 ≤ 11, 0 ≤ vl ∧ vl ≤ vh ∧ vh ≤ 2000, ∀ k : Nat, (k : Int) < c → (nxRD c T lo hi (min (m6 m) 12) (zA c (z0 z)) (zB c T lo hi n w (z0 z)) (zU c T lo hi n w (z0 z)) (zV c T lo hi n w (z0 z)) vl vh) ≤ mwW c T lo hi (min (m6 m) 12) (zA c (z0 z)) (zB c T lo hi n w (z0 z)) (zU c T lo hi n w (z0 z)) (zV c T lo hi n w (z0 z)) vl vh k (c - k + 1).toNat ∧ ((k : Int) < (nxRM c T lo hi (min (m6 m) 12) (zA c (z0 z)) (zB c T lo hi n w (z0 z)) (zU c T lo hi n w (z0 z)) (zV c T lo hi n w (z0 z)) vl vh) → mwW c T lo hi (min (m6 m) 12) (zA c (z0 z)) (zB c T lo hi n w (z0 z)) (zU c T lo hi n w (z0 z)) (zV c T lo hi n w (z0 z)) vl vh k (c - k + 1).toNat ≠ (nxRD c T lo hi (min (m6 m) 12) (zA c (z0 z)) (zB c T lo hi n w (z0 z)) (zU c T lo hi n w (z0 z)) (zV c T lo hi n w (z0 z)) vl vh)) ∧ ((k : Int) = (nxRM c T lo hi (min (m6 m) 12) (zA c (z0 z)) (zB c T lo hi n w (z0 z)) (zU c T lo hi n w (z0 z)) (zV c T lo hi n w (z0 z)) vl vh) → mwW c T lo hi (min (m6 m) 12) (zA c (z0 z)) (zB c T lo hi n w (z0 z)) (zU c T lo hi n w (z0 z)) (zV c T lo hi n w (z0 z)) vl vh k (c - k + 1).toNat = (nxRD c T lo hi (min (m6 m) 12) (zA c (z0 z)) (zB c T lo hi n w (z0 z)) (zU c T lo hi n w (z0 z)) (zV c T lo hi n w (z0 z)) vl vh))] (LS_nb c T lo hi n w m z vl vh (min (m6 m) 12) (zA c (z0 z)) (zB c T lo hi n w (z0 z)) (zU c T lo hi n w (z0 z)) (zV c T lo hi n w (z0 z)) (tF c T lo hi n w) (nxRM c T lo hi (min (m6 m) 12) (zA c (z0 z)) (zB c T lo hi n w (z0 z)) (zU c T lo hi n w (z0 z)) (zV c T lo hi n w (z0 z)) vl vh) (nxRD c T lo hi (min (m6 m) 12) (zA c (z0 z)) (zB c T lo hi n w (z0 z)) (zU c T lo hi n w (z0 z)) (zV c T lo hi n w (z0 z)) vl vh))]) (SoundG.cons rIsTube_ok (SoundG.cons rSpan_ok (SoundG.cons wakes_ok (SoundG.cons Truly_ok (SoundG.cons Seen_ok (SoundG.cons lTube_ok (SoundG.cons lReadings_ok (SoundG.cons lto_ok (SoundG.cons Next_ok (SoundG.cons word_ok (SoundG.cons rHeight_ok (SoundG.cons Doubt_ok (SoundG.nil _))))))))))))) (SoundX.of (SoundRL.nil _) (SoundHL.nil _)) mixed Try.func8 (show Try.f8.body = some (bodyOf Try.f8) by kernel_rfl) (two_loopsN (fun cj hcj => by
    have e : loopAt (bodyOf Try.f8) 0 = some (.loop B_na) := by kernel_rfl
    rw [e] at hcj; cases hcj
    exact (needSp_sound (ps := [1 ≤ c ∧ c ≤ 10, 0 ≤ (nxRM c T lo hi (min (m6 m) 12) (zA c (z0 z)) (zB c T lo hi n w (z0 z)) (zU c T lo hi n w (z0 z)) (zV c T lo hi n w (z0 z)) vl vh) ∧ (nxRM c T lo hi (min (m6 m) 12) (zA c (z0 z)) (zB c T lo hi n w (z0 z)) (zU c T lo hi n w (z0 z)) (zV c T lo hi n w (z0 z)) vl vh) < c, ∀ j, j < c.toNat → -1000 ≤ (tF c T lo hi n w) j ∧ (tF c T lo hi n w) j ≤ 1000, -1000000 ≤ (thW n w vl vh) ∧ (thW n w vl vh) ≤ 1000000]) (fun h => na_ls c T lo hi n w m z vl vh (min (m6 m) 12) (zA c (z0 z)) (zB c T lo hi n w (z0 z)) (zU c T lo hi n w (z0 z)) (zV c T lo hi n w (z0 z)) (tF c T lo hi n w) (nxRM c T lo hi (min (m6 m) 12) (zA c (z0 z)) (zB c T lo hi n w (z0 z)) (zU c T lo hi n w (z0 z)) (zV c T lo hi n w (z0 z)) vl vh) (nxRD c T lo hi (min (m6 m) 12) (zA c (z0 z)) (zB c T lo hi n w (z0 z)) (zU c T lo hi n w (z0 z)) (zV c T lo hi n w (z0 z)) vl vh) (thW n w vl vh) h.1 h.2.1 h.2.2.1 h.2.2.2)).N) (fun cj hcj => by
    have e : loopAt (bodyOf Try.f8) 1 = some (.loop B_nb) := by kernel_rfl
    rw [e] at hcj; cases hcj
    exact (needSp_sound (ps := [flt c T lo hi (min (m6 m) 12) (zA c (z0 z)) (zB c T lo hi n w (z0 z)) (zU c T lo hi n w (z0 z)) (zV c T lo hi n w (z0 z)) = 0, min (m6 m) 12 ≤ 11, 0 ≤ vl ∧ vl ≤ vh ∧ vh ≤ 2000, ∀ k : Nat, (k : Int) < c → (nxRD c T lo hi (min (m6 m) 12) (zA c (z0 z)) (zB c T lo hi n w (z0 z)) (zU c T lo hi n w (z0 z)) (zV c T lo hi n w (z0 z)) vl vh) ≤ mwW c T lo hi (min (m6 m) 12) (zA c (z0 z)) (zB c T lo hi n w (z0 z)) (zU c T lo hi n w (z0 z)) (zV c T lo hi n w (z0 z)) vl vh k (c - k + 1).toNat ∧ ((k : Int) < (nxRM c T lo hi (min (m6 m) 12) (zA c (z0 z)) (zB c T lo hi n w (z0 z)) (zU c T lo hi n w (z0 z)) (zV c T lo hi n w (z0 z)) vl vh) → mwW c T lo hi (min (m6 m) 12) (zA c (z0 z)) (zB c T lo hi n w (z0 z)) (zU c T lo hi n w (z0 z)) (zV c T lo hi n w (z0 z)) vl vh k (c - k + 1).toNat ≠ (nxRD c T lo hi (min (m6 m) 12) (zA c (z0 z)) (zB c T lo hi n w (z0 z)) (zU c T lo hi n w (z0 z)) (zV c T lo hi n w (z0 z)) vl vh)) ∧ ((k : Int) = (nxRM c T lo hi (min (m6 m) 12) (zA c (z0 z)) (zB c T lo hi n w (z0 z)) (zU c T lo hi n w (z0 z)) (zV c T lo hi n w (z0 z)) vl vh) → mwW c T lo hi (min (m6 m) 12) (zA c (z0 z)) (zB c T lo hi n w (z0 z)) (zU c T lo hi n w (z0 z)) (zV c T lo hi n w (z0 z)) vl vh k (c - k + 1).toNat = (nxRD c T lo hi (min (m6 m) 12) (zA c (z0 z)) (zB c T lo hi n w (z0 z)) (zU c T lo hi n w (z0 z)) (zV c T lo hi n w (z0 z)) vl vh))]) (fun h => nb_ls c T lo hi n w m z vl vh (min (m6 m) 12) (zA c (z0 z)) (zB c T lo hi n w (z0 z)) (zU c T lo hi n w (z0 z)) (zV c T lo hi n w (z0 z)) (tF c T lo hi n w) (nxRM c T lo hi (min (m6 m) 12) (zA c (z0 z)) (zB c T lo hi n w (z0 z)) (zU c T lo hi n w (z0 z)) (zV c T lo hi n w (z0 z)) vl vh) (nxRD c T lo hi (min (m6 m) 12) (zA c (z0 z)) (zB c T lo hi n w (z0 z)) (zU c T lo hi n w (z0 z)) (zV c T lo hi n w (z0 z)) vl vh) h.1 h.2.1 h.2.2.1 h.2.2.2)).N)) (t := (Tree.branch (!tubeB c T lo hi) (Tree.leaf (RV.x (Value.bool true))) (Tree.branch (decide (c > (8 : Int))) (Tree.leaf (RV.x (Value.bool true))) (Tree.branch (!insB (0 : Int) vl vh (2000 : Int)) (Tree.leaf (RV.x (Value.bool true))) (Tree.need [isW n fun k => [AV.x (Value.int IntKind.u16 (w k))], tubeB c T lo hi = true, n ≤ 10000000000000000000, wOk n fun j => wAt [AV.x (Value.int IntKind.u16 (w j))]] (Tree.need [(0 : Int) ≤ (0 : Int) ∧ (0 : Int) ≤ min (6 : Int) (↑m : Int) ∧ min (6 : Int) (↑m : Int) ≤ (↑m : Int)] (Tree.need [isRec 1 (Int.toNat c) fun k => [i (trV c T lo hi n (fun j => wAt [AV.x (Value.int IntKind.u16 (w j))]) k)], isW (Int.toNat (min (6 : Int) (↑m : Int)) - Int.toNat (0 : Int)) fun i => [AV.x (Value.int IntKind.u16 (z (Int.toNat (0 : Int) + i)))], tubeB c T lo hi = true, (↑(Int.toNat c) : Int) = c, ∀ (j : Nat), j < Int.toNat c → lo ≤ trV c T lo hi n (fun j => wAt [AV.x (Value.int IntKind.u16 (w j))]) j ∧ trV c T lo hi n (fun j => wAt [AV.x (Value.int IntKind.u16 (w j))]) j ≤ hi, Int.toNat (min (6 : Int) (↑m : Int)) - Int.toNat (0 : Int) ≤ 10000000000000000000, wOk (Int.toNat (min (6 : Int) (↑m : Int)) - Int.toNat (0 : Int)) fun j => wAt [AV.x (Value.int IntKind.u16 (z (Int.toNat (0 : Int) + j)))]] (Tree.need [isRec 4 (min (Int.toNat (min (6 : Int) (↑m : Int)) - Int.toNat (0 : Int)) 12) fun k => [i (seA c (wAt [AV.x (Value.int IntKind.u16 (z (Int.toNat (0 : Int) + k)))])), i (seB c T (trV c T lo hi n fun j => wAt [AV.x (Value.int IntKind.u16 (w j))]) (wAt [AV.x (Value.int IntKind.u16 (z (Int.toNat (0 : Int) + k)))])), i (seU c T (trV c T lo hi n fun j => wAt [AV.x (Value.int IntKind.u16 (w j))]) (wAt [AV.x (Value.int IntKind.u16 (z (Int.toNat (0 : Int) + k)))])), i (seV c T (trV c T lo hi n fun j => wAt [AV.x (Value.int IntKind.u16 (w j))]) (wAt [AV.x (Value.int IntKind.u16 (z (Int.toNat (0 : Int) + k)))]))], min (Int.toNat (min (6 : Int) (↑m : Int)) - Int.toNat (0 : Int)) 12 ≤ 100000] (Tree.need [isRec 4 (min (Int.toNat (min (6 : Int) (↑m : Int)) - Int.toNat (0 : Int)) 12) fun k => [i (seA c (wAt [AV.x (Value.int IntKind.u16 (z (Int.toNat (0 : Int) + k)))])), i (seB c T (trV c T lo hi n fun j => wAt [AV.x (Value.int IntKind.u16 (w j))]) (wAt [AV.x (Value.int IntKind.u16 (z (Int.toNat (0 : Int) + k)))])), i (seU c T (trV c T lo hi n fun j => wAt [AV.x (Value.int IntKind.u16 (w j))]) (wAt [AV.x (Value.int IntKind.u16 (z (Int.toNat (0 : Int) + k)))])), i (seV c T (trV c T lo hi n fun j => wAt [AV.x (Value.int IntKind.u16 (w j))]) (wAt [AV.x (Value.int IntKind.u16 (z (Int.toNat (0 : Int) + k)))]))]] (Tree.branch (nxE c T lo hi (min (Int.toNat (min (6 : Int) (↑m : Int)) - Int.toNat (0 : Int)) 12) (fun k => seA c (wAt [AV.x (Value.int IntKind.u16 (z (Int.toNat (0 : Int) + k)))])) (fun k => seB c T (trV c T lo hi n fun j => wAt [AV.x (Value.int IntKind.u16 (w j))]) (wAt [AV.x (Value.int IntKind.u16 (z (Int.toNat (0 : Int) + k)))])) (fun k => seU c T (trV c T lo hi n fun j => wAt [AV.x (Value.int IntKind.u16 (w j))]) (wAt [AV.x (Value.int IntKind.u16 (z (Int.toNat (0 : Int) + k)))])) (fun k => seV c T (trV c T lo hi n fun j => wAt [AV.x (Value.int IntKind.u16 (w j))]) (wAt [AV.x (Value.int IntKind.u16 (z (Int.toNat (0 : Int) + k)))])) vl vh != (0 : Int)) (Tree.leaf (RV.x (Value.bool false))) (Tree.branch (decide (nxRM c T lo hi (min (Int.toNat (min (6 : Int) (↑m : Int)) - Int.toNat (0 : Int)) 12) (fun k => seA c (wAt [AV.x (Value.int IntKind.u16 (z (Int.toNat (0 : Int) + k)))])) (fun k => seB c T (trV c T lo hi n fun j => wAt [AV.x (Value.int IntKind.u16 (w j))]) (wAt [AV.x (Value.int IntKind.u16 (z (Int.toNat (0 : Int) + k)))])) (fun k => seU c T (trV c T lo hi n fun j => wAt [AV.x (Value.int IntKind.u16 (w j))]) (wAt [AV.x (Value.int IntKind.u16 (z (Int.toNat (0 : Int) + k)))])) (fun k => seV c T (trV c T lo hi n fun j => wAt [AV.x (Value.int IntKind.u16 (w j))]) (wAt [AV.x (Value.int IntKind.u16 (z (Int.toNat (0 : Int) + k)))])) vl vh < (0 : Int))) (Tree.leaf (RV.x (Value.bool false))) (Tree.branch (decide (nxRM c T lo hi (min (Int.toNat (min (6 : Int) (↑m : Int)) - Int.toNat (0 : Int)) 12) (fun k => seA c (wAt [AV.x (Value.int IntKind.u16 (z (Int.toNat (0 : Int) + k)))])) (fun k => seB c T (trV c T lo hi n fun j => wAt [AV.x (Value.int IntKind.u16 (w j))]) (wAt [AV.x (Value.int IntKind.u16 (z (Int.toNat (0 : Int) + k)))])) (fun k => seU c T (trV c T lo hi n fun j => wAt [AV.x (Value.int IntKind.u16 (w j))]) (wAt [AV.x (Value.int IntKind.u16 (z (Int.toNat (0 : Int) + k)))])) (fun k => seV c T (trV c T lo hi n fun j => wAt [AV.x (Value.int IntKind.u16 (w j))]) (wAt [AV.x (Value.int IntKind.u16 (z (Int.toNat (0 : Int) + k)))])) vl vh ≥ c)) (Tree.leaf (RV.x (Value.bool false))) (Tree.need [isW n fun k => [AV.x (Value.int IntKind.u16 (w k))], n ≤ 10000000000000000000, (0 : Int) ≤ (11 : Int) ∧ (11 : Int) ≤ (1000 : Int), wOk n fun j => wAt [AV.x (Value.int IntKind.u16 (w j))]] (Tree.need [inI64 (vh - vl)] (Tree.need [inI64 (vh - vl + (1 : Int))] (Tree.need [vh - vl + (1 : Int) ≠ (0 : Int)] (Tree.need [inI64 (vl + Int.tmod (wdF n (fun j => wAt [AV.x (Value.int IntKind.u16 (w j))]) (Int.toNat (11 : Int))) (vh - vl + (1 : Int)))] (Tree.need [(1 : Int) ≤ c ∧ c ≤ (10 : Int), (0 : Int) ≤ nxRM c T lo hi (min (m6 m) 12) (zA c (z0 z)) (zB c T lo hi n w (z0 z)) (zU c T lo hi n w (z0 z)) (zV c T lo hi n w (z0 z)) vl vh ∧ nxRM c T lo hi (min (m6 m) 12) (zA c (z0 z)) (zB c T lo hi n w (z0 z)) (zU c T lo hi n w (z0 z)) (zV c T lo hi n w (z0 z)) vl vh < c, ∀ (j : Nat), j < Int.toNat c → (-1000 : Int) ≤ tF c T lo hi n w j ∧ tF c T lo hi n w j ≤ (1000 : Int), (-1000000 : Int) ≤ thW n w vl vh ∧ thW n w vl vh ≤ (1000000 : Int)] (Tree.need [AV.agg [iI c, iI T, iI lo, iI hi] = AV.agg [iI c, iI T, iI lo, iI hi], (AV.lst 1 n fun k => [AV.x (Value.int IntKind.u16 (w k))]) = AV.lst 1 n fun k => [AV.x (Value.int IntKind.u16 (w k))], (AV.lst 1 m fun k => [AV.x (Value.int IntKind.u16 (z k))]) = AV.lst 1 m fun k => [AV.x (Value.int IntKind.u16 (z k))], AV.agg [iI vl, iI vh] = AV.agg [iI vl, iI vh], AV.ptr 0 0 = AV.ptr 0 0, AV.ptr 1 0 = AV.ptr 1 0, AV.lit false = AV.lit false, (AV.lst 1 (Int.toNat c) fun k => [iI (trV c T lo hi n (fun j => wAt [AV.x (Value.int IntKind.u16 (w j))]) k)]) = AV.lst 1 (Int.toNat c) fun k => [iI (tF c T lo hi n w k)], (AV.lst 4 (min (Int.toNat (min (6 : Int) (↑m : Int)) - Int.toNat (0 : Int)) 12) fun k => [iI (seA c (wAt [AV.x (Value.int IntKind.u16 (z (Int.toNat (0 : Int) + k)))])), iI (seB c T (trV c T lo hi n fun j => wAt [AV.x (Value.int IntKind.u16 (w j))]) (wAt [AV.x (Value.int IntKind.u16 (z (Int.toNat (0 : Int) + k)))])), iI (seU c T (trV c T lo hi n fun j => wAt [AV.x (Value.int IntKind.u16 (w j))]) (wAt [AV.x (Value.int IntKind.u16 (z (Int.toNat (0 : Int) + k)))])), iI (seV c T (trV c T lo hi n fun j => wAt [AV.x (Value.int IntKind.u16 (w j))]) (wAt [AV.x (Value.int IntKind.u16 (z (Int.toNat (0 : Int) + k)))]))]) = AV.lst 4 (min (m6 m) 12) fun k => [iI (zA c (z0 z) k), iI (zB c T lo hi n w (z0 z) k), iI (zU c T lo hi n w (z0 z) k), iI (zV c T lo hi n w (z0 z) k)], nxRM c T lo hi (min (Int.toNat (min (6 : Int) (↑m : Int)) - Int.toNat (0 : Int)) 12) (fun k => seA c (wAt [AV.x (Value.int IntKind.u16 (z (Int.toNat (0 : Int) + k)))])) (fun k => seB c T (trV c T lo hi n fun j => wAt [AV.x (Value.int IntKind.u16 (w j))]) (wAt [AV.x (Value.int IntKind.u16 (z (Int.toNat (0 : Int) + k)))])) (fun k => seU c T (trV c T lo hi n fun j => wAt [AV.x (Value.int IntKind.u16 (w j))]) (wAt [AV.x (Value.int IntKind.u16 (z (Int.toNat (0 : Int) + k)))])) (fun k => seV c T (trV c T lo hi n fun j => wAt [AV.x (Value.int IntKind.u16 (w j))]) (wAt [AV.x (Value.int IntKind.u16 (z (Int.toNat (0 : Int) + k)))])) vl vh = nxRM c T lo hi (min (m6 m) 12) (zA c (z0 z)) (zB c T lo hi n w (z0 z)) (zU c T lo hi n w (z0 z)) (zV c T lo hi n w (z0 z)) vl vh, nxRD c T lo hi (min (Int.toNat (min (6 : Int) (↑m : Int)) - Int.toNat (0 : Int)) 12) (fun k => seA c (wAt [AV.x (Value.int IntKind.u16 (z (Int.toNat (0 : Int) + k)))])) (fun k => seB c T (trV c T lo hi n fun j => wAt [AV.x (Value.int IntKind.u16 (w j))]) (wAt [AV.x (Value.int IntKind.u16 (z (Int.toNat (0 : Int) + k)))])) (fun k => seU c T (trV c T lo hi n fun j => wAt [AV.x (Value.int IntKind.u16 (w j))]) (wAt [AV.x (Value.int IntKind.u16 (z (Int.toNat (0 : Int) + k)))])) (fun k => seV c T (trV c T lo hi n fun j => wAt [AV.x (Value.int IntKind.u16 (w j))]) (wAt [AV.x (Value.int IntKind.u16 (z (Int.toNat (0 : Int) + k)))])) vl vh = nxRD c T lo hi (min (m6 m) 12) (zA c (z0 z)) (zB c T lo hi n w (z0 z)) (zU c T lo hi n w (z0 z)) (zV c T lo hi n w (z0 z)) vl vh, vl + Int.tmod (wdF n (fun j => wAt [AV.x (Value.int IntKind.u16 (w j))]) (Int.toNat (11 : Int))) (vh - vl + (1 : Int)) = thW n w vl vh, nxRM c T lo hi (min (Int.toNat (min (6 : Int) (↑m : Int)) - Int.toNat (0 : Int)) 12) (fun k => seA c (wAt [AV.x (Value.int IntKind.u16 (z (Int.toNat (0 : Int) + k)))])) (fun k => seB c T (trV c T lo hi n fun j => wAt [AV.x (Value.int IntKind.u16 (w j))]) (wAt [AV.x (Value.int IntKind.u16 (z (Int.toNat (0 : Int) + k)))])) (fun k => seU c T (trV c T lo hi n fun j => wAt [AV.x (Value.int IntKind.u16 (w j))]) (wAt [AV.x (Value.int IntKind.u16 (z (Int.toNat (0 : Int) + k)))])) (fun k => seV c T (trV c T lo hi n fun j => wAt [AV.x (Value.int IntKind.u16 (w j))]) (wAt [AV.x (Value.int IntKind.u16 (z (Int.toNat (0 : Int) + k)))])) vl vh = nxRM c T lo hi (min (m6 m) 12) (zA c (z0 z)) (zB c T lo hi n w (z0 z)) (zU c T lo hi n w (z0 z)) (zV c T lo hi n w (z0 z)) vl vh + (↑(0 : Nat) : Int), vl = vl, vh = vh, c = c, T = T, lo = lo, hi = hi] (Tree.need [(0 + min (m6 m) 12) * 32 ≤ 140737488355328, ∀ (i : Nat), i < min (m6 m) 12 → ∀ (a : AV), a ∈ [Ytmdeoobmeokmeaa.i (zA c (z0 z) i), Ytmdeoobmeokmeaa.i (zB c T lo hi n w (z0 z) i), Ytmdeoobmeokmeaa.i (zU c T lo hi n w (z0 z) i), Ytmdeoobmeokmeaa.i (zV c T lo hi n w (z0 z) i)] → AV.one a = true] (Tree.need [(0 + min (m6 m) 12 + 1) * 32 ≤ 140737488355328, ∀ (i : Nat), i < 1 → ∀ (a : AV), a ∈ chunk 4 [iI (nxRM c T lo hi (min (m6 m) 12) (zA c (z0 z)) (zB c T lo hi n w (z0 z)) (zU c T lo hi n w (z0 z)) (zV c T lo hi n w (z0 z)) vl vh), iI (nxRM c T lo hi (min (m6 m) 12) (zA c (z0 z)) (zB c T lo hi n w (z0 z)) (zU c T lo hi n w (z0 z)) (zV c T lo hi n w (z0 z)) vl vh + (↑(thI c (tF c T lo hi n w) (nxRM c T lo hi (min (m6 m) 12) (zA c (z0 z)) (zB c T lo hi n w (z0 z)) (zU c T lo hi n w (z0 z)) (zV c T lo hi n w (z0 z)) vl vh) (thW n w vl vh)) : Int)), iI vl, iI vh] i → AV.one a = true] (Tree.need [isRec 4 (0 + min (m6 m) 12 + 1) (catF (0 + min (m6 m) 12) (catF 0 (fun x => []) fun k => [i (zA c (z0 z) k), i (zB c T lo hi n w (z0 z) k), i (zU c T lo hi n w (z0 z) k), i (zV c T lo hi n w (z0 z) k)]) (chunk 4 [iI (nxRM c T lo hi (min (m6 m) 12) (zA c (z0 z)) (zB c T lo hi n w (z0 z)) (zU c T lo hi n w (z0 z)) (zV c T lo hi n w (z0 z)) vl vh), iI (nxRM c T lo hi (min (m6 m) 12) (zA c (z0 z)) (zB c T lo hi n w (z0 z)) (zU c T lo hi n w (z0 z)) (zV c T lo hi n w (z0 z)) vl vh + (↑(thI c (tF c T lo hi n w) (nxRM c T lo hi (min (m6 m) 12) (zA c (z0 z)) (zB c T lo hi n w (z0 z)) (zU c T lo hi n w (z0 z)) (zV c T lo hi n w (z0 z)) vl vh) (thW n w vl vh)) : Int)), iI vl, iI vh])), 0 + min (m6 m) 12 + 1 ≤ 100000] (Tree.need [isRec 4 (0 + min (m6 m) 12 + 1) fun k => [i (col 0 (catF (0 + min (m6 m) 12) (catF 0 (fun x => []) fun k => [i (zA c (z0 z) k), i (zB c T lo hi n w (z0 z) k), i (zU c T lo hi n w (z0 z) k), i (zV c T lo hi n w (z0 z) k)]) (chunk 4 [iI (nxRM c T lo hi (min (m6 m) 12) (zA c (z0 z)) (zB c T lo hi n w (z0 z)) (zU c T lo hi n w (z0 z)) (zV c T lo hi n w (z0 z)) vl vh), iI (nxRM c T lo hi (min (m6 m) 12) (zA c (z0 z)) (zB c T lo hi n w (z0 z)) (zU c T lo hi n w (z0 z)) (zV c T lo hi n w (z0 z)) vl vh + (↑(thI c (tF c T lo hi n w) (nxRM c T lo hi (min (m6 m) 12) (zA c (z0 z)) (zB c T lo hi n w (z0 z)) (zU c T lo hi n w (z0 z)) (zV c T lo hi n w (z0 z)) vl vh) (thW n w vl vh)) : Int)), iI vl, iI vh])) k), i (col 1 (catF (0 + min (m6 m) 12) (catF 0 (fun x => []) fun k => [i (zA c (z0 z) k), i (zB c T lo hi n w (z0 z) k), i (zU c T lo hi n w (z0 z) k), i (zV c T lo hi n w (z0 z) k)]) (chunk 4 [iI (nxRM c T lo hi (min (m6 m) 12) (zA c (z0 z)) (zB c T lo hi n w (z0 z)) (zU c T lo hi n w (z0 z)) (zV c T lo hi n w (z0 z)) vl vh), iI (nxRM c T lo hi (min (m6 m) 12) (zA c (z0 z)) (zB c T lo hi n w (z0 z)) (zU c T lo hi n w (z0 z)) (zV c T lo hi n w (z0 z)) vl vh + (↑(thI c (tF c T lo hi n w) (nxRM c T lo hi (min (m6 m) 12) (zA c (z0 z)) (zB c T lo hi n w (z0 z)) (zU c T lo hi n w (z0 z)) (zV c T lo hi n w (z0 z)) vl vh) (thW n w vl vh)) : Int)), iI vl, iI vh])) k), i (col 2 (catF (0 + min (m6 m) 12) (catF 0 (fun x => []) fun k => [i (zA c (z0 z) k), i (zB c T lo hi n w (z0 z) k), i (zU c T lo hi n w (z0 z) k), i (zV c T lo hi n w (z0 z) k)]) (chunk 4 [iI (nxRM c T lo hi (min (m6 m) 12) (zA c (z0 z)) (zB c T lo hi n w (z0 z)) (zU c T lo hi n w (z0 z)) (zV c T lo hi n w (z0 z)) vl vh), iI (nxRM c T lo hi (min (m6 m) 12) (zA c (z0 z)) (zB c T lo hi n w (z0 z)) (zU c T lo hi n w (z0 z)) (zV c T lo hi n w (z0 z)) vl vh + (↑(thI c (tF c T lo hi n w) (nxRM c T lo hi (min (m6 m) 12) (zA c (z0 z)) (zB c T lo hi n w (z0 z)) (zU c T lo hi n w (z0 z)) (zV c T lo hi n w (z0 z)) vl vh) (thW n w vl vh)) : Int)), iI vl, iI vh])) k), i (col 3 (catF (0 + min (m6 m) 12) (catF 0 (fun x => []) fun k => [i (zA c (z0 z) k), i (zB c T lo hi n w (z0 z) k), i (zU c T lo hi n w (z0 z) k), i (zV c T lo hi n w (z0 z) k)]) (chunk 4 [iI (nxRM c T lo hi (min (m6 m) 12) (zA c (z0 z)) (zB c T lo hi n w (z0 z)) (zU c T lo hi n w (z0 z)) (zV c T lo hi n w (z0 z)) vl vh), iI (nxRM c T lo hi (min (m6 m) 12) (zA c (z0 z)) (zB c T lo hi n w (z0 z)) (zU c T lo hi n w (z0 z)) (zV c T lo hi n w (z0 z)) vl vh + (↑(thI c (tF c T lo hi n w) (nxRM c T lo hi (min (m6 m) 12) (zA c (z0 z)) (zB c T lo hi n w (z0 z)) (zU c T lo hi n w (z0 z)) (zV c T lo hi n w (z0 z)) vl vh) (thW n w vl vh)) : Int)), iI vl, iI vh])) k)]] (Tree.branch (eB c T lo hi (0 + min (m6 m) 12 + 1) (col 0 (catF (0 + min (m6 m) 12) (catF 0 (fun x => []) fun k => [i (zA c (z0 z) k), i (zB c T lo hi n w (z0 z) k), i (zU c T lo hi n w (z0 z) k), i (zV c T lo hi n w (z0 z) k)]) (chunk 4 [iI (nxRM c T lo hi (min (m6 m) 12) (zA c (z0 z)) (zB c T lo hi n w (z0 z)) (zU c T lo hi n w (z0 z)) (zV c T lo hi n w (z0 z)) vl vh), iI (nxRM c T lo hi (min (m6 m) 12) (zA c (z0 z)) (zB c T lo hi n w (z0 z)) (zU c T lo hi n w (z0 z)) (zV c T lo hi n w (z0 z)) vl vh + (↑(thI c (tF c T lo hi n w) (nxRM c T lo hi (min (m6 m) 12) (zA c (z0 z)) (zB c T lo hi n w (z0 z)) (zU c T lo hi n w (z0 z)) (zV c T lo hi n w (z0 z)) vl vh) (thW n w vl vh)) : Int)), iI vl, iI vh]))) (col 1 (catF (0 + min (m6 m) 12) (catF 0 (fun x => []) fun k => [i (zA c (z0 z) k), i (zB c T lo hi n w (z0 z) k), i (zU c T lo hi n w (z0 z) k), i (zV c T lo hi n w (z0 z) k)]) (chunk 4 [iI (nxRM c T lo hi (min (m6 m) 12) (zA c (z0 z)) (zB c T lo hi n w (z0 z)) (zU c T lo hi n w (z0 z)) (zV c T lo hi n w (z0 z)) vl vh), iI (nxRM c T lo hi (min (m6 m) 12) (zA c (z0 z)) (zB c T lo hi n w (z0 z)) (zU c T lo hi n w (z0 z)) (zV c T lo hi n w (z0 z)) vl vh + (↑(thI c (tF c T lo hi n w) (nxRM c T lo hi (min (m6 m) 12) (zA c (z0 z)) (zB c T lo hi n w (z0 z)) (zU c T lo hi n w (z0 z)) (zV c T lo hi n w (z0 z)) vl vh) (thW n w vl vh)) : Int)), iI vl, iI vh]))) (col 2 (catF (0 + min (m6 m) 12) (catF 0 (fun x => []) fun k => [i (zA c (z0 z) k), i (zB c T lo hi n w (z0 z) k), i (zU c T lo hi n w (z0 z) k), i (zV c T lo hi n w (z0 z) k)]) (chunk 4 [iI (nxRM c T lo hi (min (m6 m) 12) (zA c (z0 z)) (zB c T lo hi n w (z0 z)) (zU c T lo hi n w (z0 z)) (zV c T lo hi n w (z0 z)) vl vh), iI (nxRM c T lo hi (min (m6 m) 12) (zA c (z0 z)) (zB c T lo hi n w (z0 z)) (zU c T lo hi n w (z0 z)) (zV c T lo hi n w (z0 z)) vl vh + (↑(thI c (tF c T lo hi n w) (nxRM c T lo hi (min (m6 m) 12) (zA c (z0 z)) (zB c T lo hi n w (z0 z)) (zU c T lo hi n w (z0 z)) (zV c T lo hi n w (z0 z)) vl vh) (thW n w vl vh)) : Int)), iI vl, iI vh]))) (col 3 (catF (0 + min (m6 m) 12) (catF 0 (fun x => []) fun k => [i (zA c (z0 z) k), i (zB c T lo hi n w (z0 z) k), i (zU c T lo hi n w (z0 z) k), i (zV c T lo hi n w (z0 z) k)]) (chunk 4 [iI (nxRM c T lo hi (min (m6 m) 12) (zA c (z0 z)) (zB c T lo hi n w (z0 z)) (zU c T lo hi n w (z0 z)) (zV c T lo hi n w (z0 z)) vl vh), iI (nxRM c T lo hi (min (m6 m) 12) (zA c (z0 z)) (zB c T lo hi n w (z0 z)) (zU c T lo hi n w (z0 z)) (zV c T lo hi n w (z0 z)) vl vh + (↑(thI c (tF c T lo hi n w) (nxRM c T lo hi (min (m6 m) 12) (zA c (z0 z)) (zB c T lo hi n w (z0 z)) (zU c T lo hi n w (z0 z)) (zV c T lo hi n w (z0 z)) vl vh) (thW n w vl vh)) : Int)), iI vl, iI vh]))) != (0 : Int)) (Tree.leaf (RV.x (Value.bool false))) (Tree.branch (decide (dtB c T lo hi (0 + min (m6 m) 12 + 1) (col 0 (catF (0 + min (m6 m) 12) (catF 0 (fun x => []) fun k => [i (zA c (z0 z) k), i (zB c T lo hi n w (z0 z) k), i (zU c T lo hi n w (z0 z) k), i (zV c T lo hi n w (z0 z) k)]) (chunk 4 [iI (nxRM c T lo hi (min (m6 m) 12) (zA c (z0 z)) (zB c T lo hi n w (z0 z)) (zU c T lo hi n w (z0 z)) (zV c T lo hi n w (z0 z)) vl vh), iI (nxRM c T lo hi (min (m6 m) 12) (zA c (z0 z)) (zB c T lo hi n w (z0 z)) (zU c T lo hi n w (z0 z)) (zV c T lo hi n w (z0 z)) vl vh + (↑(thI c (tF c T lo hi n w) (nxRM c T lo hi (min (m6 m) 12) (zA c (z0 z)) (zB c T lo hi n w (z0 z)) (zU c T lo hi n w (z0 z)) (zV c T lo hi n w (z0 z)) vl vh) (thW n w vl vh)) : Int)), iI vl, iI vh]))) (col 1 (catF (0 + min (m6 m) 12) (catF 0 (fun x => []) fun k => [i (zA c (z0 z) k), i (zB c T lo hi n w (z0 z) k), i (zU c T lo hi n w (z0 z) k), i (zV c T lo hi n w (z0 z) k)]) (chunk 4 [iI (nxRM c T lo hi (min (m6 m) 12) (zA c (z0 z)) (zB c T lo hi n w (z0 z)) (zU c T lo hi n w (z0 z)) (zV c T lo hi n w (z0 z)) vl vh), iI (nxRM c T lo hi (min (m6 m) 12) (zA c (z0 z)) (zB c T lo hi n w (z0 z)) (zU c T lo hi n w (z0 z)) (zV c T lo hi n w (z0 z)) vl vh + (↑(thI c (tF c T lo hi n w) (nxRM c T lo hi (min (m6 m) 12) (zA c (z0 z)) (zB c T lo hi n w (z0 z)) (zU c T lo hi n w (z0 z)) (zV c T lo hi n w (z0 z)) vl vh) (thW n w vl vh)) : Int)), iI vl, iI vh]))) (col 2 (catF (0 + min (m6 m) 12) (catF 0 (fun x => []) fun k => [i (zA c (z0 z) k), i (zB c T lo hi n w (z0 z) k), i (zU c T lo hi n w (z0 z) k), i (zV c T lo hi n w (z0 z) k)]) (chunk 4 [iI (nxRM c T lo hi (min (m6 m) 12) (zA c (z0 z)) (zB c T lo hi n w (z0 z)) (zU c T lo hi n w (z0 z)) (zV c T lo hi n w (z0 z)) vl vh), iI (nxRM c T lo hi (min (m6 m) 12) (zA c (z0 z)) (zB c T lo hi n w (z0 z)) (zU c T lo hi n w (z0 z)) (zV c T lo hi n w (z0 z)) vl vh + (↑(thI c (tF c T lo hi n w) (nxRM c T lo hi (min (m6 m) 12) (zA c (z0 z)) (zB c T lo hi n w (z0 z)) (zU c T lo hi n w (z0 z)) (zV c T lo hi n w (z0 z)) vl vh) (thW n w vl vh)) : Int)), iI vl, iI vh]))) (col 3 (catF (0 + min (m6 m) 12) (catF 0 (fun x => []) fun k => [i (zA c (z0 z) k), i (zB c T lo hi n w (z0 z) k), i (zU c T lo hi n w (z0 z) k), i (zV c T lo hi n w (z0 z) k)]) (chunk 4 [iI (nxRM c T lo hi (min (m6 m) 12) (zA c (z0 z)) (zB c T lo hi n w (z0 z)) (zU c T lo hi n w (z0 z)) (zV c T lo hi n w (z0 z)) vl vh), iI (nxRM c T lo hi (min (m6 m) 12) (zA c (z0 z)) (zB c T lo hi n w (z0 z)) (zU c T lo hi n w (z0 z)) (zV c T lo hi n w (z0 z)) vl vh + (↑(thI c (tF c T lo hi n w) (nxRM c T lo hi (min (m6 m) 12) (zA c (z0 z)) (zB c T lo hi n w (z0 z)) (zU c T lo hi n w (z0 z)) (zV c T lo hi n w (z0 z)) vl vh) (thW n w vl vh)) : Int)), iI vl, iI vh]))) > nxRD c T lo hi (min (m6 m) 12) (zA c (z0 z)) (zB c T lo hi n w (z0 z)) (zU c T lo hi n w (z0 z)) (zV c T lo hi n w (z0 z)) vl vh)) (Tree.leaf (RV.x (Value.bool false))) (Tree.need [flt c T lo hi (min (m6 m) 12) (zA c (z0 z)) (zB c T lo hi n w (z0 z)) (zU c T lo hi n w (z0 z)) (zV c T lo hi n w (z0 z)) = (0 : Int), min (m6 m) 12 ≤ 11, (0 : Int) ≤ vl ∧ vl ≤ vh ∧ vh ≤ (2000 : Int), ∀ (k : Nat), (↑k : Int) < c → nxRD c T lo hi (min (m6 m) 12) (zA c (z0 z)) (zB c T lo hi n w (z0 z)) (zU c T lo hi n w (z0 z)) (zV c T lo hi n w (z0 z)) vl vh ≤ mwW c T lo hi (min (m6 m) 12) (zA c (z0 z)) (zB c T lo hi n w (z0 z)) (zU c T lo hi n w (z0 z)) (zV c T lo hi n w (z0 z)) vl vh k (Int.toNat (c - (↑k : Int) + (1 : Int))) ∧ ((↑k : Int) < nxRM c T lo hi (min (m6 m) 12) (zA c (z0 z)) (zB c T lo hi n w (z0 z)) (zU c T lo hi n w (z0 z)) (zV c T lo hi n w (z0 z)) vl vh → mwW c T lo hi (min (m6 m) 12) (zA c (z0 z)) (zB c T lo hi n w (z0 z)) (zU c T lo hi n w (z0 z)) (zV c T lo hi n w (z0 z)) vl vh k (Int.toNat (c - (↑k : Int) + (1 : Int))) ≠ nxRD c T lo hi (min (m6 m) 12) (zA c (z0 z)) (zB c T lo hi n w (z0 z)) (zU c T lo hi n w (z0 z)) (zV c T lo hi n w (z0 z)) vl vh) ∧ ((↑k : Int) = nxRM c T lo hi (min (m6 m) 12) (zA c (z0 z)) (zB c T lo hi n w (z0 z)) (zU c T lo hi n w (z0 z)) (zV c T lo hi n w (z0 z)) vl vh → mwW c T lo hi (min (m6 m) 12) (zA c (z0 z)) (zB c T lo hi n w (z0 z)) (zU c T lo hi n w (z0 z)) (zV c T lo hi n w (z0 z)) vl vh k (Int.toNat (c - (↑k : Int) + (1 : Int))) = nxRD c T lo hi (min (m6 m) 12) (zA c (z0 z)) (zB c T lo hi n w (z0 z)) (zU c T lo hi n w (z0 z)) (zV c T lo hi n w (z0 z)) vl vh)] (Tree.need [AV.agg [iI c, iI T, iI lo, iI hi] = AV.agg [iI c, iI T, iI lo, iI hi], (AV.lst 1 n fun k => [AV.x (Value.int IntKind.u16 (w k))]) = AV.lst 1 n fun k => [AV.x (Value.int IntKind.u16 (w k))], (AV.lst 1 m fun k => [AV.x (Value.int IntKind.u16 (z k))]) = AV.lst 1 m fun k => [AV.x (Value.int IntKind.u16 (z k))], AV.agg [iI vl, iI vh] = AV.agg [iI vl, iI vh], AV.ptr 0 0 = AV.ptr 0 0, AV.ptr 1 0 = AV.ptr 1 0, (AV.lst 1 (Int.toNat c) fun k => [iI (tF c T lo hi n w k)]) = AV.lst 1 (Int.toNat c) fun k => [iI (tF c T lo hi n w k)], (AV.lst 4 (min (m6 m) 12) fun k => [iI (zA c (z0 z) k), iI (zB c T lo hi n w (z0 z) k), iI (zU c T lo hi n w (z0 z) k), iI (zV c T lo hi n w (z0 z) k)]) = AV.lst 4 (min (m6 m) 12) fun k => [iI (zA c (z0 z) k), iI (zB c T lo hi n w (z0 z) k), iI (zU c T lo hi n w (z0 z) k), iI (zV c T lo hi n w (z0 z) k)], nxRM c T lo hi (min (m6 m) 12) (zA c (z0 z)) (zB c T lo hi n w (z0 z)) (zU c T lo hi n w (z0 z)) (zV c T lo hi n w (z0 z)) vl vh = nxRM c T lo hi (min (m6 m) 12) (zA c (z0 z)) (zB c T lo hi n w (z0 z)) (zU c T lo hi n w (z0 z)) (zV c T lo hi n w (z0 z)) vl vh, nxRD c T lo hi (min (m6 m) 12) (zA c (z0 z)) (zB c T lo hi n w (z0 z)) (zU c T lo hi n w (z0 z)) (zV c T lo hi n w (z0 z)) vl vh = nxRD c T lo hi (min (m6 m) 12) (zA c (z0 z)) (zB c T lo hi n w (z0 z)) (zU c T lo hi n w (z0 z)) (zV c T lo hi n w (z0 z)) vl vh, (0 : Int) = (↑(0 : Nat) : Int), vl = vl, vh = vh, c = c, T = T, lo = lo, hi = hi] (Tree.leaf (RV.x (Value.bool true)))))))))))))))))))))))))))))) (by kernel_rfl) ?_
  refine ⟨fun _ => ?_, fun h0 => ?_⟩
  · simp only [Tree.sat, fitP, fitL, valEq, and_true]
  have h0 : tubeB c T lo hi = true := by simpa using h0
  refine ⟨fun _ => ?_, fun hc8 => ?_⟩
  · simp only [Tree.sat, fitP, fitL, valEq, and_true]
  refine ⟨fun _ => ?_, fun hv => ?_⟩
  · simp only [Tree.sat, fitP, fitL, valEq, and_true]
  have hv : insB 0 vl vh 2000 = true := by simpa using hv
  have hp := (insB_iff _ _ _ _).1 hv
  have hb := tube_bd h0
  have hF := tF_bd (n := n) h0 pre1
  have hz : wOk (m6 m) (z0 z) := fun k hk => pre3 _ (by simp only [m6] at hk; omega)
  have hall := seen_all (n := n) h0 pre1 hz
  have hq : min (m6 m) 12 ≤ 11 := by simp only [m6]; omega
  have hm6 : m6 m ≤ m := by simp only [m6]; omega
  have hwd := wd_bd (n := n) (w := w) pre1 11
  have hmo := tmod_bd (x := wdF n w 11) (d := vh - vl + 1) (by omega) (by omega)
  have hth : vl ≤ thW n w vl vh ∧ thW n w vl vh ≤ vh := by simp only [thW]; omega
  obtain ⟨n1, n2, n3, n4, n5, n6⟩ := nx_all (th := thW n w vl vh) hq hall.1 hall.2.2.1 hall.2.1 (by omega) hth
  have hthi : -9223372036854775808 ≤ thW n w vl vh ∧ thW n w vl vh ≤ 9223372036854775807 := by omega
  have hr := ex_flt (x1 := (nxRM c T lo hi (min (m6 m) 12) (zA c (z0 z)) (zB c T lo hi n w (z0 z)) (zU c T lo hi n w (z0 z)) (zV c T lo hi n w (z0 z)) vl vh)) (x2 := (nxRM c T lo hi (min (m6 m) 12) (zA c (z0 z)) (zB c T lo hi n w (z0 z)) (zU c T lo hi n w (z0 z)) (zV c T lo hi n w (z0 z)) vl vh) + thI c (tF c T lo hi n w) (nxRM c T lo hi (min (m6 m) 12) (zA c (z0 z)) (zB c T lo hi n w (z0 z)) (zU c T lo hi n w (z0 z)) (zV c T lo hi n w (z0 z)) vl vh) (thW n w vl vh)) (x3 := vl) (x4 := vh) hq hall.1 (rdB_of (by omega))
  have kF : ∀ j, j < c.toNat → -1000000 ≤ (tF c T lo hi n w) j ∧ (tF c T lo hi n w) j ≤ 1000000 := fun j hj => by have := hF.1 j hj; omega
  have kF2 : ∀ j, j < c.toNat → -1000 ≤ (tF c T lo hi n w) j ∧ (tF c T lo hi n w) j ≤ 1000 := fun j hj => by have := hF.1 j hj; omega
  obtain ⟨F, hF0⟩ : ∃ F, F = catF (0 + min (m6 m) 12) (catF 0 (fun _ => []) fun k => [i (zA c (z0 z) k), i (zB c T lo hi n w (z0 z) k), i (zU c T lo hi n w (z0 z) k), i (zV c T lo hi n w (z0 z) k)]) (chunk 4 [i (nxRM c T lo hi (min (m6 m) 12) (zA c (z0 z)) (zB c T lo hi n w (z0 z)) (zU c T lo hi n w (z0 z)) (zV c T lo hi n w (z0 z)) vl vh), i ((nxRM c T lo hi (min (m6 m) 12) (zA c (z0 z)) (zB c T lo hi n w (z0 z)) (zU c T lo hi n w (z0 z)) (zV c T lo hi n w (z0 z)) vl vh) + thI c (tF c T lo hi n w) (nxRM c T lo hi (min (m6 m) 12) (zA c (z0 z)) (zB c T lo hi n w (z0 z)) (zU c T lo hi n w (z0 z)) (zV c T lo hi n w (z0 z)) vl vh) (thW n w vl vh)), i vl, i vh]) := ⟨_, rfl⟩
  have hFe : ∀ y, y < min (m6 m) 12 + 1 → F y = [i (exL (min (m6 m) 12) (zA c (z0 z)) (nxRM c T lo hi (min (m6 m) 12) (zA c (z0 z)) (zB c T lo hi n w (z0 z)) (zU c T lo hi n w (z0 z)) (zV c T lo hi n w (z0 z)) vl vh) y), i (exL (min (m6 m) 12) (zB c T lo hi n w (z0 z)) ((nxRM c T lo hi (min (m6 m) 12) (zA c (z0 z)) (zB c T lo hi n w (z0 z)) (zU c T lo hi n w (z0 z)) (zV c T lo hi n w (z0 z)) vl vh) + thI c (tF c T lo hi n w) (nxRM c T lo hi (min (m6 m) 12) (zA c (z0 z)) (zB c T lo hi n w (z0 z)) (zU c T lo hi n w (z0 z)) (zV c T lo hi n w (z0 z)) vl vh) (thW n w vl vh)) y), i (exL (min (m6 m) 12) (zU c T lo hi n w (z0 z)) vl y), i (exL (min (m6 m) 12) (zV c T lo hi n w (z0 z)) vh y)] := fun y hy => by
    rw [hF0]
    exact catE hy
  have hc4 : ∀ y, y < min (m6 m) 12 + 1 → col 0 F y = exL (min (m6 m) 12) (zA c (z0 z)) (nxRM c T lo hi (min (m6 m) 12) (zA c (z0 z)) (zB c T lo hi n w (z0 z)) (zU c T lo hi n w (z0 z)) (zV c T lo hi n w (z0 z)) vl vh) y ∧ col 1 F y = exL (min (m6 m) 12) (zB c T lo hi n w (z0 z)) ((nxRM c T lo hi (min (m6 m) 12) (zA c (z0 z)) (zB c T lo hi n w (z0 z)) (zU c T lo hi n w (z0 z)) (zV c T lo hi n w (z0 z)) vl vh) + thI c (tF c T lo hi n w) (nxRM c T lo hi (min (m6 m) 12) (zA c (z0 z)) (zB c T lo hi n w (z0 z)) (zU c T lo hi n w (z0 z)) (zV c T lo hi n w (z0 z)) vl vh) (thW n w vl vh)) y ∧ col 2 F y = exL (min (m6 m) 12) (zU c T lo hi n w (z0 z)) vl y ∧ col 3 F y = exL (min (m6 m) 12) (zV c T lo hi n w (z0 z)) vh y := fun y hy => by
    unfold col
    rw [hFe y hy]
    exact ⟨rfl, rfl, rfl, rfl⟩
  have hrec : isRec 4 (min (m6 m) 12 + 1) F := fun y hy => by
    rw [hFe y hy]
    rfl
  obtain ⟨e1, e2, e3, e4, e5⟩ := eB_congr (c := c) (T := T) (lo := lo) (hi := hi) hc4
  simp only [Tree.sat, allP, fitP, fitL, valEq, inI64, true_and, and_true, decide_eq_true_eq, decide_eq_false_iff_not, wAt1, ← hF0, bne_iff_ne, ne_eq, bne_eq_false_iff_eq, beq_iff_eq, beq_eq_false_iff_ne]
  clear hF0
  simp only [Nat.zero_add, e1, e4, n3]
  (repeat' first | with_reducible apply And.intro | with_reducible intro _)
  all_goals first | exact True.intro | omega | with_reducible rfl | exact isRec4 _ _ _ _ _ | exact isRec1 _ _ | exact isWn _ _ | exact pre1 | exact hz | exact h0 | exact hall.1 | exact hall.2.2.1 | exact hrec | exact hF.1 _ (by assumption) | exact (hF.1 _ (by assumption)).1 | exact (hF.1 _ (by assumption)).2 | exact kF2 _ (by assumption) | exact (kF2 _ (by assumption)).1 | exact (kF2 _ (by assumption)).2 | exact (kF _ (by assumption)).1 | exact (kF _ (by assumption)).2 | exact n2.1 | exact n2.2 | exact absurd n1 (by assumption) | exact absurd n2.1 (by assumption) | exact absurd n4 (by assumption) | (exfalso; rename_i h; exact h n1) | (exfalso; rename_i h; exact absurd n2.1 (Int.not_le.2 h)) | (exfalso; rename_i h; exact absurd n2.2 (Int.not_lt.2 h)) | (exfalso; rename_i h; exact absurd n4 (Int.not_le.2 h)) | (rename_i h; exact absurd rfl h) | (rename_i h; exact absurd True.intro h) | exact (n6 _ (by assumption)).1 | exact (n6 _ (by assumption)).2.1 (by assumption) (by assumption) | exact (n6 _ (by assumption)).2.2 (by assumption) | (rename_i hm; simp only [List.mem_cons, List.not_mem_nil, or_false] at hm; rcases hm with rfl | rfl | rfl | rfl <;> rfl) | exact one_of (by assumption) (by simp [AV.one, Value.oneCell']) | exact absurd n2.1 (Int.not_le.2 (of_decide_eq_true (by assumption))) | exact absurd n2.2 (Int.not_lt.2 (of_decide_eq_true (by assumption))) | exact hthi.1 | exact hthi.2 | exact (Int.add_zero _).symm | exact (n6 _ (by assumption)).2.1 (by assumption) | rfl | assumption | fail

end Go.Proofs.Ytmdeoobmeokmeaa
