/- Texts of this claim, put together: BpE -/
import Derived.Test.YtmdeoobmeokmeaaMl
/- Contracts of functions of the program, by the engine Sx: what each call comes to. Printed by a program of this repo (sxgen.py). -/
set_option linter.unusedSimpArgs false
set_option linter.unusedVariables false
namespace Go.Proofs.Ytmdeoobmeokmeaa
open Go Go.Sx Go.RowKit

theorem allI_congr {p q : Nat → Bool} : ∀ {n : Nat}, (∀ j, j < n → p j = q j) → allI p n = allI q n
  | 0, _ => rfl
  | n + 1, h => by
    rw [Bool.eq_iff_iff, allI_iff, allI_iff]
    exact ⟨fun k j hj => by rw [← h j hj]; exact k j hj, fun k j hj => by rw [h j hj]; exact k j hj⟩
theorem flt_congr {c T lo hi : Int} {n : Nat} {a b u v a' b' u' v' : Nat → Int} (h : ∀ j, j < n → a j = a' j ∧ b j = b' j ∧ u j = u' j ∧ v j = v' j) : flt c T lo hi n a b u v = flt c T lo hi n a' b' u' v' := by
  unfold flt allR
  rw [allI_congr (q := fun k => rdB c (a' k) (b' k) (u' k) (v' k)) (fun j hj => by
    obtain ⟨h1, h2, h3, h4⟩ := h j hj
    rw [h1, h2, h3, h4])]
theorem eB_congr {c T lo hi : Int} {n : Nat} {a b u v a' b' u' v' : Nat → Int} (h : ∀ j, j < n → a j = a' j ∧ b j = b' j ∧ u j = u' j ∧ v j = v' j) : eB c T lo hi n a b u v = eB c T lo hi n a' b' u' v' ∧ lenB c T lo hi n a b u v = lenB c T lo hi n a' b' u' v' ∧ fwB c T lo hi n a b u v = fwB c T lo hi n a' b' u' v' ∧ dtB c T lo hi n a b u v = dtB c T lo hi n a' b' u' v' ∧ rdyB c T lo hi n a b u v = rdyB c T lo hi n a' b' u' v' := by
  have h1 : eB c T lo hi n a b u v = eB c T lo hi n a' b' u' v' := by
    unfold eB fltB okB
    rw [flt_congr h, okR_congr h]
  have h2 : fwB c T lo hi n a b u v = fwB c T lo hi n a' b' u' v' := by
    unfold fwB
    rw [fwM_congr h]
  refine ⟨h1, ?_, h2, ?_, ?_⟩
  · unfold lenB
    rw [h1]
  · unfold dtB sfB
    rw [h1, h2]
  · unfold rdyB
    rw [flt_congr h]
/-- A truth of more, or of narrower readings. -/
theorem tr_more {c : Nat} {T lo hi : Int} {n n' : Nat} {a b u v a' b' u' v' : Nat → Int} {h : Nat → Int} (hn : n ≤ n') (hx : ∀ j, j < n → a' j = a j ∧ b' j = b j ∧ u j ≤ u' j ∧ v' j ≤ v j) (k : Tr c T lo hi n' a' b' u' v' h) : Tr c T lo hi n a b u v h := by
  refine ⟨k.1, k.2.1, k.2.2.1, fun j hj => ?_⟩
  obtain ⟨e1, e2, h3, h4⟩ := hx j hj
  have h1 := k.2.2.2 j (by omega)
  rw [e1, e2] at h1
  exact ⟨by omega, fun hb => by have := h1.2 hb; omega⟩
theorem more_bd {c T lo hi : Int} {n n' : Nat} {a b u v a' b' u' v' : Nat → Int} (hn : n ≤ n') (hx : ∀ j, j < n → a' j = a j ∧ b' j = b j ∧ u j ≤ u' j ∧ v' j ≤ v j) (h1 : flt c T lo hi n a b u v = 0) (h2 : flt c T lo hi n' a' b' u' v' = 0) (h3 : okB c T lo hi n' a' b' u' v' = true) :
    okB c T lo hi n a b u v = true ∧ ∀ k : Nat, (k : Int) ≤ c → -fwB c T lo hi n a b u v k 0 ≤ -fwB c T lo hi n' a' b' u' v' k 0 ∧ fwB c T lo hi n' a' b' u' v' 0 k ≤ fwB c T lo hi n a b u v 0 k := by
  have hf := flt_iff.1 h1
  have hb := tube_bd hf.1
  have hr := rdOk_of hb.1 hf.2.2
  have hr2 := rdOk_of hb.1 (flt_iff.1 h2).2.2
  have tl := tr_more hn hx (tr_lo hb.2.1 hr2 h3)
  have th := tr_more hn hx (tr_hi hb.2.1 hr2 h3)
  refine ⟨ok_of_tr hb.2.1 hr tl, fun k hk => ?_⟩
  have b1 := tr_bd hb.2.1 hr tl (x := k) (by omega)
  have b2 := tr_bd hb.2.1 hr th (x := k) (by omega)
  exact ⟨b1.1, b2.2⟩


/-- A reading of which the Volume is narrower. -/
def nrU (u v : Nat → Int) (p : Nat) (d : Int) (j : Nat) : Int := if j = p then min (v j) (u j + d) else u j
def nrV (u v : Nat → Int) (p : Nat) (d e : Int) (j : Nat) : Int := if j = p then max (nrU u v p d j) (v j - e) else v j


theorem nrU_p {u v : Nat → Int} {p : Nat} {d : Int} : nrU u v p d p = min (v p) (u p + d) := if_pos rfl
theorem nrU_n {u v : Nat → Int} {p j : Nat} {d : Int} (h : j ≠ p) : nrU u v p d j = u j := if_neg h
theorem nrV_p {u v : Nat → Int} {p : Nat} {d e : Int} : nrV u v p d e p = max (min (v p) (u p + d)) (v p - e) := by
  unfold nrV
  rw [if_pos rfl, nrU_p]
theorem nrV_n {u v : Nat → Int} {p j : Nat} {d e : Int} (h : j ≠ p) : nrV u v p d e j = v j := if_neg h
theorem exL_lt {n j : Nat} {f : Nat → Int} {x : Int} (h : j < n) : exL n f x j = f j := if_pos h
theorem eB_or {c T lo hi : Int} {n : Nat} {a b u v : Nat → Int} (h : flt c T lo hi n a b u v = 0) : eB c T lo hi n a b u v = if okB c T lo hi n a b u v then 0 else 9 := by
  unfold eB fltB
  rw [if_pos h]
  rfl
theorem catE {n y : Nat} {a b u v : Nat → Int} {x1 x2 x3 x4 : Int} (h : y < n + 1) : catF (0 + n) (catF 0 (fun _ => []) fun k => [i (a k), i (b k), i (u k), i (v k)]) (chunk 4 [i x1, i x2, i x3, i x4]) y = [i (exL n a x1 y), i (exL n b x2 y), i (exL n u x3 y), i (exL n v x4 y)] := by
  have e : catF 0 (fun _ => []) (fun k => [i (a k), i (b k), i (u k), i (v k)]) = fun k => [i (a k), i (b k), i (u k), i (v k)] := by
    funext k
    show mergeL (decide (k < 0)) [] [i (a (k - 0)), i (b (k - 0)), i (u (k - 0)), i (v (k - 0))] = _
    rw [show decide (k < 0) = false by simp]
    rfl
  rw [Nat.zero_add, e]
  exact catF4x h
/-- One reading more, and one of all that is narrower. -/
theorem more_all {c T lo hi : Int} {n : Nat} {a b u v : Nat → Int} {xa xb xu xv d e : Int} {p : Nat} (hd : 0 ≤ d) (he : 0 ≤ e) (hn : n ≤ 11) (h : flt c T lo hi (n + 1) (exL n a xa) (exL n b xb) (exL n u xu) (exL n v xv) = 0) :
    flt c T lo hi n a b u v = 0 ∧ flt c T lo hi (n + 1) (exL n a xa) (exL n b xb) (nrU (exL n u xu) (exL n v xv) p d) (nrV (exL n u xu) (exL n v xv) p d e) = 0 ∧
    ∀ j, j < n → exL n a xa j = a j ∧ exL n b xb j = b j ∧ u j ≤ nrU (exL n u xu) (exL n v xv) p d j ∧ nrV (exL n u xu) (exL n v xv) p d e j ≤ v j := by
  have hf := flt_iff.1 h
  have hr := fun j (hj : j < n + 1) => rdB_v (allI_iff.1 hf.2.2 j hj)
  have key : ∀ j, j < n + 1 → exL n u xu j ≤ nrU (exL n u xu) (exL n v xv) p d j ∧ nrU (exL n u xu) (exL n v xv) p d j ≤ nrV (exL n u xu) (exL n v xv) p d e j ∧ nrV (exL n u xu) (exL n v xv) p d e j ≤ exL n v xv j := by
    intro j hj
    have h1 := hr j hj
    by_cases hp : j = p
    · subst hp
      rw [nrU_p, nrV_p]
      omega
    · rw [nrU_n hp, nrV_n hp]
      omega
  refine ⟨flt_ok hf.1 (by omega) (allI_iff.2 fun j hj => ?_), flt_ok hf.1 (by omega) (allI_iff.2 fun j hj => rdB_of ?_), fun j hj => ?_⟩
  · have h1 := allI_iff.1 hf.2.2 j (by omega)
    rw [exL_lt hj, exL_lt hj, exL_lt hj, exL_lt hj] at h1
    exact h1
  · have h1 := hr j hj
    have h2 := key j hj
    omega
  · have h2 := key j (by omega)
    rw [exL_lt hj, exL_lt hj] at h2
    exact ⟨exL_lt hj, exL_lt hj, by omega, by omega⟩

noncomputable def K_BoreMore (c T lo hi : Int) (n : Nat) (a b u v : Nat → Int) (xa xb xu xv wh by_ : Int) : St := { σ := [.agg [i c, i T, i lo, i hi], rds n a b u v, .agg [i xa, i xb, i xu, i xv], .x (.int .u8 wh), .x (.int .u8 by_), .ptr 0 0, .top, .ptr 1 0, .top, .top, .lit false, .row 900, .top, .top, .top, .top, .top, .top, .top, .top, .top, .top, .top, .top, .top, .top, .top, .top, .top, .top, .top, .top, .top, .top, .top, .top, .top, .top, .top, .top, .top, .top, .top, .top, .top, .top, .top, .top, .top, .top, .top, .top, .top, .top, .top, .top, .top, .top, .top, .top, .top, .top, .top, .top, .top, .top, .top, .top, .top, .top, .top, .top, .top, .top, .top, .top, .top, .top, .top, .top, .top, .top, .top, .top, .top, .top, .top, .top, .top, .top, .top, .top, .top, .top, .top, .top, .top, .top, .top, .top, .top, .top, .top, .top, .top, .top, .top, .top, .top, .top, .top, .top, .top, .top, .top, .top, .top], m := [(900, .row 47 4 (n + 1) (fun k => [i (exL n a xa k), i (exL n b xb k), i (exL n u xu k), i (exL n v xv k)])), (1, .cells 47 [i xa, i xb, i xu, i xv]), (0, .cells 25 [i c, i T, i lo, i hi])], nx := 2000 }
noncomputable def K2_BoreMore (c T lo hi : Int) (n : Nat) (a b u v : Nat → Int) (xa xb xu xv wh by_ : Int) : St := { σ := [.agg [i c, i T, i lo, i hi], rds n a b u v, .agg [i xa, i xb, i xu, i xv], .x (.int .u8 wh), .x (.int .u8 by_), .ptr 0 0, .top, .ptr 1 0, .top, .top, .lit false, .row 900, .top, .top, .top, .top, .top, .top, .top, .top, .top, .top, .top, .top, .top, .top, .top, .top, .top, .top, .top, .top, .top, .top, .top, .top, .top, .top, .top, .top, .top, .top, .top, .top, .top, .top, .top, .top, .top, .top, .top, .top, .top, .top, .top, .top, .top, .top, .top, .top, .top, .top, .top, .top, .top, .top, .top, .top, .top, .top, .top, .top, .top, .top, .top, .top, .top, .top, .top, .top, .top, .top, .top, .top, .top, .top, .top, .top, .top, .top, .top, .top, .top, .top, .top, .top, .top, .top, .top, .top, .top, .top, .top, .top, .top, .top, .top, .top, .top, .top, .top, .top, .top, .top, .top, .top, .top], m := [(900, .row 47 4 (n + 1) (fun k => [i (exL n a xa k), i (exL n b xb k), i ((nrU (exL n u xu) (exL n v xv) (wh.tmod ((n + 1 : Nat) : Int)).toNat (by_.tmod 5)) k), i ((nrV (exL n u xu) (exL n v xv) (wh.tmod ((n + 1 : Nat) : Int)).toNat (by_.tmod 5) ((by_.tdiv 8).tmod 5)) k)])), (1, .cells 47 [i xa, i xb, i xu, i xv]), (0, .cells 25 [i c, i T, i lo, i hi])], nx := 3000 }
set_option maxRecDepth 100000 in
theorem BoreMore_at (c T lo hi : Int) (n : Nat) (a b u v : Nat → Int) (xa xb xu xv wh by_ : Int) (pre0 : n * 32 ≤ 140737488351232) (pre1 : 0 ≤ wh ∧ wh ≤ 255) (pre2 : 0 ≤ by_ ∧ by_ ≤ 255) : SoundAt Try.prog 4 [.agg [i c, i T, i lo, i hi], rds n a b u v, .agg [i xa, i xb, i xu, i xv], .x (.int .u8 wh), .x (.int .u8 by_)] (bl true) := by
  refine soundAt_cut2 (G := [(28, S_ready), (20, S_wakes), (22, S_lTube), (23, S_lReadings), (29, S_Heights), (30, S_wider)]) (X := { R := [], H := [] }) (L := []) 2 [(.slot 11, 900, 47, 4)] (K_BoreMore c T lo hi n a b u v xa xb xu xv wh by_) 5 [] (K2_BoreMore c T lo hi n a b u v xa xb xu xv wh by_) (SoundG.cons ready_ok (SoundG.cons wakes_ok (SoundG.cons lTube_ok (SoundG.cons lReadings_ok (SoundG.cons Heights_ok (SoundG.cons wider_ok (SoundG.nil _))))))) (SoundX.of (SoundRL.nil _) (SoundHL.nil _)) mixed Try.func4 (show Try.f4.body = some (bodyOf Try.f4) by kernel_rfl) noLoopsS (by kernel_rfl) (by kernel_rfl) (t := (Tree.need [(0 + n) * 32 ≤ 140737488355328, ∀ (i : Nat), i < n → ∀ (a_2 : AV), a_2 ∈ [Ytmdeoobmeokmeaa.i (a i), Ytmdeoobmeokmeaa.i (b i), Ytmdeoobmeokmeaa.i (u i), Ytmdeoobmeokmeaa.i (v i)] → AV.one a_2 = true] (Tree.need [(0 + n + 1) * 32 ≤ 140737488355328, ∀ (i : Nat), i < 1 → ∀ (a : AV), a ∈ chunk 4 [iI xa, iI xb, iI xu, iI xv] i → AV.one a = true] (Tree.need [AV.agg [iI c, iI T, iI lo, iI hi] = AV.agg [iI c, iI T, iI lo, iI hi], (AV.lst 4 n fun k => [iI (a k), iI (b k), iI (u k), iI (v k)]) = AV.lst 4 n fun k => [iI (a k), iI (b k), iI (u k), iI (v k)], AV.agg [iI xa, iI xb, iI xu, iI xv] = AV.agg [iI xa, iI xb, iI xu, iI xv], wh = wh, by_ = by_, AV.ptr 0 0 = AV.ptr 0 0, AV.ptr 1 0 = AV.ptr 1 0, AV.lit false = AV.lit false, AV.row 900 = AV.row 900, 0 + n + 1 = n + 1, ∀ (i : Nat), i < n + 1 → catF (0 + n) (catF 0 (fun x => []) fun k => [Ytmdeoobmeokmeaa.i (a k), Ytmdeoobmeokmeaa.i (b k), Ytmdeoobmeokmeaa.i (u k), Ytmdeoobmeokmeaa.i (v k)]) (chunk 4 [iI xa, iI xb, iI xu, iI xv]) i = [Ytmdeoobmeokmeaa.i (exL n a xa i), Ytmdeoobmeokmeaa.i (exL n b xb i), Ytmdeoobmeokmeaa.i (exL n u xu i), Ytmdeoobmeokmeaa.i (exL n v xv i)], xa = xa, xb = xb, xu = xu, xv = xv, c = c, T = T, lo = lo, hi = hi] (Tree.branch (decide ((↑n : Int) > (11 : Int))) (Tree.leaf (RV.x (Value.bool true))) (Tree.need [isRec 4 (n + 1) fun k => [i (exL n a xa k), i (exL n b xb k), i (exL n u xu k), i (exL n v xv k)]] (Tree.branch (!rdyB c T lo hi (n + 1) (exL n a xa) (exL n b xb) (exL n u xu) (exL n v xv)) (Tree.leaf (RV.x (Value.bool true))) (Tree.need [inI64 wh] (Tree.need [(↑(n + 1) : Int) ≠ (0 : Int)] (Tree.need [(0 : Int) ≤ Int.tmod wh (↑(n + 1) : Int) ∧ Int.tmod wh (↑(n + 1) : Int) < (↑(n + 1) : Int)] (Tree.need [Int.toNat (Int.tmod wh (↑(n + 1) : Int)) < n + 1] (Tree.need [Int.toNat (Int.tmod wh (↑(n + 1) : Int)) < n + 1] (Tree.need [inI64 by_] (Tree.need [(5 : Int) ≠ (0 : Int)] (Tree.need [inI64 (exL n u xu (Int.toNat (Int.tmod wh (↑(n + 1) : Int))) + Int.tmod by_ (5 : Int))] (Tree.need [Int.toNat (Int.tmod wh (↑(n + 1) : Int)) < n + 1] (Tree.need [Int.toNat (Int.tmod wh (↑(n + 1) : Int)) < n + 1] (Tree.need [Int.toNat (Int.tmod wh (↑(n + 1) : Int)) < n + 1] (Tree.need [inI64 by_] (Tree.need [(8 : Int) ≠ (0 : Int), inI64 (Int.tdiv by_ (8 : Int))] (Tree.need [(5 : Int) ≠ (0 : Int)] (Tree.need [inI64 ((if decide (Int.toNat (Int.tmod wh (↑(n + 1) : Int)) = Int.toNat (Int.tmod wh (↑(n + 1) : Int))) = true then exL n v xv (Int.toNat (Int.tmod wh (↑(n + 1) : Int))) else exL n v xv (Int.toNat (Int.tmod wh (↑(n + 1) : Int)))) - Int.tmod (Int.tdiv by_ (8 : Int)) (5 : Int))] (Tree.need [Int.toNat (Int.tmod wh (↑(n + 1) : Int)) < n + 1] (Tree.need [AV.agg [iI c, iI T, iI lo, iI hi] = AV.agg [iI c, iI T, iI lo, iI hi], (AV.lst 4 n fun k => [iI (a k), iI (b k), iI (u k), iI (v k)]) = AV.lst 4 n fun k => [iI (a k), iI (b k), iI (u k), iI (v k)], AV.agg [iI xa, iI xb, iI xu, iI xv] = AV.agg [iI xa, iI xb, iI xu, iI xv], wh = wh, by_ = by_, AV.ptr 0 0 = AV.ptr 0 0, AV.ptr 1 0 = AV.ptr 1 0, AV.lit false = AV.lit false, AV.row 900 = AV.row 900, n + 1 = n + 1, ∀ (i : Nat), i < n + 1 → mergeL (decide (i = Int.toNat (Int.tmod wh (↑(n + 1) : Int)))) (iI (if decide (i = Int.toNat (Int.tmod wh (↑(n + 1) : Int))) = true then exL n a xa i else exL n a xa i) :: iI (if decide (i = Int.toNat (Int.tmod wh (↑(n + 1) : Int))) = true then exL n b xb i else exL n b xb i) :: iI (if decide (i = Int.toNat (Int.tmod wh (↑(n + 1) : Int))) = true then min (exL n v xv (Int.toNat (Int.tmod wh (↑(n + 1) : Int)))) (exL n u xu (Int.toNat (Int.tmod wh (↑(n + 1) : Int))) + Int.tmod by_ (5 : Int)) else exL n u xu i) :: iI (max (if decide (Int.toNat (Int.tmod wh (↑(n + 1) : Int)) = Int.toNat (Int.tmod wh (↑(n + 1) : Int))) = true then min (exL n v xv (Int.toNat (Int.tmod wh (↑(n + 1) : Int)))) (exL n u xu (Int.toNat (Int.tmod wh (↑(n + 1) : Int))) + Int.tmod by_ (5 : Int)) else exL n u xu (Int.toNat (Int.tmod wh (↑(n + 1) : Int)))) ((if decide (Int.toNat (Int.tmod wh (↑(n + 1) : Int)) = Int.toNat (Int.tmod wh (↑(n + 1) : Int))) = true then exL n v xv (Int.toNat (Int.tmod wh (↑(n + 1) : Int))) else exL n v xv (Int.toNat (Int.tmod wh (↑(n + 1) : Int)))) - Int.tmod (Int.tdiv by_ (8 : Int)) (5 : Int))) :: Bool.rec ((fun _ => []) ()) ((fun _ => []) ()) (decide (i = Int.toNat (Int.tmod wh (↑(n + 1) : Int))))) (mergeL (decide (i = Int.toNat (Int.tmod wh (↑(n + 1) : Int)))) [iI (exL n a xa i), iI (exL n b xb i), iI (min (exL n v xv (Int.toNat (Int.tmod wh (↑(n + 1) : Int)))) (exL n u xu (Int.toNat (Int.tmod wh (↑(n + 1) : Int))) + Int.tmod by_ (5 : Int))), iI (exL n v xv i)] [Ytmdeoobmeokmeaa.i (exL n a xa i), Ytmdeoobmeokmeaa.i (exL n b xb i), Ytmdeoobmeokmeaa.i (exL n u xu i), Ytmdeoobmeokmeaa.i (exL n v xv i)]) = [Ytmdeoobmeokmeaa.i (exL n a xa i), Ytmdeoobmeokmeaa.i (exL n b xb i), Ytmdeoobmeokmeaa.i (nrU (exL n u xu) (exL n v xv) (Int.toNat (Int.tmod wh (↑(n + 1) : Int))) (Int.tmod by_ (5 : Int)) i), Ytmdeoobmeokmeaa.i (nrV (exL n u xu) (exL n v xv) (Int.toNat (Int.tmod wh (↑(n + 1) : Int))) (Int.tmod by_ (5 : Int)) (Int.tmod (Int.tdiv by_ (8 : Int)) (5 : Int)) i)], xa = xa, xb = xb, xu = xu, xv = xv, c = c, T = T, lo = lo, hi = hi] (Tree.need [isRec 4 n fun k => [i (a k), i (b k), i (u k), i (v k)], n ≤ 100000] (Tree.need [isRec 4 n fun k => [i (a k), i (b k), i (u k), i (v k)]] (Tree.need [isRec 4 (n + 1) fun k => [i (exL n a xa k), i (exL n b xb k), i (nrU (exL n u xu) (exL n v xv) (Int.toNat (Int.tmod wh (↑(n + 1) : Int))) (Int.tmod by_ (5 : Int)) k), i (nrV (exL n u xu) (exL n v xv) (Int.toNat (Int.tmod wh (↑(n + 1) : Int))) (Int.tmod by_ (5 : Int)) (Int.tmod (Int.tdiv by_ (8 : Int)) (5 : Int)) k)], n + 1 ≤ 100000] (Tree.need [isRec 4 (n + 1) fun k => [i (exL n a xa k), i (exL n b xb k), i (nrU (exL n u xu) (exL n v xv) (Int.toNat (Int.tmod wh (↑(n + 1) : Int))) (Int.tmod by_ (5 : Int)) k), i (nrV (exL n u xu) (exL n v xv) (Int.toNat (Int.tmod wh (↑(n + 1) : Int))) (Int.tmod by_ (5 : Int)) (Int.tmod (Int.tdiv by_ (8 : Int)) (5 : Int)) k)]] (Tree.branch (eB c T lo hi (n + 1) (exL n a xa) (exL n b xb) (nrU (exL n u xu) (exL n v xv) (Int.toNat (Int.tmod wh (↑(n + 1) : Int))) (Int.tmod by_ (5 : Int))) (nrV (exL n u xu) (exL n v xv) (Int.toNat (Int.tmod wh (↑(n + 1) : Int))) (Int.tmod by_ (5 : Int)) (Int.tmod (Int.tdiv by_ (8 : Int)) (5 : Int))) == (0 : Int)) (Tree.branch (eB c T lo hi n a b u v == (0 : Int)) (Tree.need [isRec 2 (lenB c T lo hi (n + 1) (exL n a xa) (exL n b xb) (nrU (exL n u xu) (exL n v xv) (Int.toNat (Int.tmod wh (↑(n + 1) : Int))) (Int.tmod by_ (5 : Int))) (nrV (exL n u xu) (exL n v xv) (Int.toNat (Int.tmod wh (↑(n + 1) : Int))) (Int.tmod by_ (5 : Int)) (Int.tmod (Int.tdiv by_ (8 : Int)) (5 : Int)))) fun k => [i (-fwB c T lo hi (n + 1) (exL n a xa) (exL n b xb) (nrU (exL n u xu) (exL n v xv) (Int.toNat (Int.tmod wh (↑(n + 1) : Int))) (Int.tmod by_ (5 : Int))) (nrV (exL n u xu) (exL n v xv) (Int.toNat (Int.tmod wh (↑(n + 1) : Int))) (Int.tmod by_ (5 : Int)) (Int.tmod (Int.tdiv by_ (8 : Int)) (5 : Int))) k 0), i (fwB c T lo hi (n + 1) (exL n a xa) (exL n b xb) (nrU (exL n u xu) (exL n v xv) (Int.toNat (Int.tmod wh (↑(n + 1) : Int))) (Int.tmod by_ (5 : Int))) (nrV (exL n u xu) (exL n v xv) (Int.toNat (Int.tmod wh (↑(n + 1) : Int))) (Int.tmod by_ (5 : Int)) (Int.tmod (Int.tdiv by_ (8 : Int)) (5 : Int))) 0 k)], isRec 2 (lenB c T lo hi n a b u v) fun k => [i (-fwB c T lo hi n a b u v k 0), i (fwB c T lo hi n a b u v 0 k)], lenB c T lo hi (n + 1) (exL n a xa) (exL n b xb) (nrU (exL n u xu) (exL n v xv) (Int.toNat (Int.tmod wh (↑(n + 1) : Int))) (Int.tmod by_ (5 : Int))) (nrV (exL n u xu) (exL n v xv) (Int.toNat (Int.tmod wh (↑(n + 1) : Int))) (Int.tmod by_ (5 : Int)) (Int.tmod (Int.tdiv by_ (8 : Int)) (5 : Int))) ≤ 100000] (Tree.branch (decide (lenB c T lo hi (n + 1) (exL n a xa) (exL n b xb) (nrU (exL n u xu) (exL n v xv) (Int.toNat (Int.tmod wh (↑(n + 1) : Int))) (Int.tmod by_ (5 : Int))) (nrV (exL n u xu) (exL n v xv) (Int.toNat (Int.tmod wh (↑(n + 1) : Int))) (Int.tmod by_ (5 : Int)) (Int.tmod (Int.tdiv by_ (8 : Int)) (5 : Int))) = lenB c T lo hi n a b u v) && allI (wiB (fun k => -fwB c T lo hi (n + 1) (exL n a xa) (exL n b xb) (nrU (exL n u xu) (exL n v xv) (Int.toNat (Int.tmod wh (↑(n + 1) : Int))) (Int.tmod by_ (5 : Int))) (nrV (exL n u xu) (exL n v xv) (Int.toNat (Int.tmod wh (↑(n + 1) : Int))) (Int.tmod by_ (5 : Int)) (Int.tmod (Int.tdiv by_ (8 : Int)) (5 : Int))) k 0) (fwB c T lo hi (n + 1) (exL n a xa) (exL n b xb) (nrU (exL n u xu) (exL n v xv) (Int.toNat (Int.tmod wh (↑(n + 1) : Int))) (Int.tmod by_ (5 : Int))) (nrV (exL n u xu) (exL n v xv) (Int.toNat (Int.tmod wh (↑(n + 1) : Int))) (Int.tmod by_ (5 : Int)) (Int.tmod (Int.tdiv by_ (8 : Int)) (5 : Int))) 0) (fun k => -fwB c T lo hi n a b u v k 0) (fwB c T lo hi n a b u v 0)) (lenB c T lo hi (n + 1) (exL n a xa) (exL n b xb) (nrU (exL n u xu) (exL n v xv) (Int.toNat (Int.tmod wh (↑(n + 1) : Int))) (Int.tmod by_ (5 : Int))) (nrV (exL n u xu) (exL n v xv) (Int.toNat (Int.tmod wh (↑(n + 1) : Int))) (Int.tmod by_ (5 : Int)) (Int.tmod (Int.tdiv by_ (8 : Int)) (5 : Int))))) (Tree.leaf (RV.x (Value.bool true))) (Tree.leaf (RV.x (Value.bool false))))) (Tree.leaf (RV.x (Value.bool false)))) (Tree.branch (eB c T lo hi (n + 1) (exL n a xa) (exL n b xb) (nrU (exL n u xu) (exL n v xv) (Int.toNat (Int.tmod wh (↑(n + 1) : Int))) (Int.tmod by_ (5 : Int))) (nrV (exL n u xu) (exL n v xv) (Int.toNat (Int.tmod wh (↑(n + 1) : Int))) (Int.tmod by_ (5 : Int)) (Int.tmod (Int.tdiv by_ (8 : Int)) (5 : Int))) == (9 : Int)) (Tree.branch (eB c T lo hi n a b u v == (0 : Int)) (Tree.leaf (RV.x (Value.bool true))) (Tree.branch (eB c T lo hi n a b u v == (9 : Int)) (Tree.leaf (RV.x (Value.bool true))) (Tree.leaf (RV.x (Value.bool false))))) (Tree.leaf (RV.x (Value.bool false))))))))))))))))))))))))))))))))) (by kernel_rfl) ?_
  have hp := tmod_bd (x := wh) (d := ((n + 1 : Nat) : Int)) (by omega) (by omega)
  have hd1 := tmod_bd (x := by_) (d := 5) (by omega) (by omega)
  have hd0 := tdiv_bd (x := by_) (d := 8) (by omega) (by omega)
  have hd2 := tmod_bd (x := by_.tdiv 8) (d := 5) (by omega) (by omega)
  have hall := fun (hn : n ≤ 11) (h : rdyB c T lo hi (n + 1) (exL n a xa) (exL n b xb) (exL n u xu) (exL n v xv) = true) => more_all (p := (wh.tmod ((n + 1 : Nat) : Int)).toNat) hd1.1 hd2.1 hn (rdy_iff.1 h)
  have hub : n ≤ 11 → rdyB c T lo hi (n + 1) (exL n a xa) (exL n b xb) (exL n u xu) (exL n v xv) = true → (0 ≤ exL n u xu (wh.tmod ((n + 1 : Nat) : Int)).toNat ∧ exL n u xu (wh.tmod ((n + 1 : Nat) : Int)).toNat ≤ 2000) ∧ (0 ≤ exL n v xv (wh.tmod ((n + 1 : Nat) : Int)).toNat ∧ exL n v xv (wh.tmod ((n + 1 : Nat) : Int)).toNat ≤ 2000) := fun hn h => by
    have h1 := rdB_v (allI_iff.1 (flt_iff.1 (rdy_iff.1 h)).2.2 (wh.tmod ((n + 1 : Nat) : Int)).toNat (by omega))
    omega
  have hfin : n ≤ 11 → rdyB c T lo hi (n + 1) (exL n a xa) (exL n b xb) (exL n u xu) (exL n v xv) = true → (eB c T lo hi (n + 1) (exL n a xa) (exL n b xb) (nrU (exL n u xu) (exL n v xv) (wh.tmod ((n + 1 : Nat) : Int)).toNat (by_.tmod 5)) (nrV (exL n u xu) (exL n v xv) (wh.tmod ((n + 1 : Nat) : Int)).toNat (by_.tmod 5) ((by_.tdiv 8).tmod 5)) = 0 → eB c T lo hi n a b u v = 0 ∧ (decide (lenB c T lo hi (n + 1) (exL n a xa) (exL n b xb) (nrU (exL n u xu) (exL n v xv) (wh.tmod ((n + 1 : Nat) : Int)).toNat (by_.tmod 5)) (nrV (exL n u xu) (exL n v xv) (wh.tmod ((n + 1 : Nat) : Int)).toNat (by_.tmod 5) ((by_.tdiv 8).tmod 5)) = lenB c T lo hi n a b u v) && allI (wiB (fun k => -fwB c T lo hi (n + 1) (exL n a xa) (exL n b xb) (nrU (exL n u xu) (exL n v xv) (wh.tmod ((n + 1 : Nat) : Int)).toNat (by_.tmod 5)) (nrV (exL n u xu) (exL n v xv) (wh.tmod ((n + 1 : Nat) : Int)).toNat (by_.tmod 5) ((by_.tdiv 8).tmod 5)) k 0) (fun k => fwB c T lo hi (n + 1) (exL n a xa) (exL n b xb) (nrU (exL n u xu) (exL n v xv) (wh.tmod ((n + 1 : Nat) : Int)).toNat (by_.tmod 5)) (nrV (exL n u xu) (exL n v xv) (wh.tmod ((n + 1 : Nat) : Int)).toNat (by_.tmod 5) ((by_.tdiv 8).tmod 5)) 0 k) (fun k => -fwB c T lo hi n a b u v k 0) (fun k => fwB c T lo hi n a b u v 0 k)) (lenB c T lo hi (n + 1) (exL n a xa) (exL n b xb) (nrU (exL n u xu) (exL n v xv) (wh.tmod ((n + 1 : Nat) : Int)).toNat (by_.tmod 5)) (nrV (exL n u xu) (exL n v xv) (wh.tmod ((n + 1 : Nat) : Int)).toNat (by_.tmod 5) ((by_.tdiv 8).tmod 5)))) = true) ∧ (eB c T lo hi (n + 1) (exL n a xa) (exL n b xb) (nrU (exL n u xu) (exL n v xv) (wh.tmod ((n + 1 : Nat) : Int)).toNat (by_.tmod 5)) (nrV (exL n u xu) (exL n v xv) (wh.tmod ((n + 1 : Nat) : Int)).toNat (by_.tmod 5) ((by_.tdiv 8).tmod 5)) ≠ 0 → eB c T lo hi (n + 1) (exL n a xa) (exL n b xb) (nrU (exL n u xu) (exL n v xv) (wh.tmod ((n + 1 : Nat) : Int)).toNat (by_.tmod 5)) (nrV (exL n u xu) (exL n v xv) (wh.tmod ((n + 1 : Nat) : Int)).toNat (by_.tmod 5) ((by_.tdiv 8).tmod 5)) = 9) ∧ (eB c T lo hi n a b u v ≠ 0 → eB c T lo hi n a b u v = 9) ∧ lenB c T lo hi (n + 1) (exL n a xa) (exL n b xb) (nrU (exL n u xu) (exL n v xv) (wh.tmod ((n + 1 : Nat) : Int)).toNat (by_.tmod 5)) (nrV (exL n u xu) (exL n v xv) (wh.tmod ((n + 1 : Nat) : Int)).toNat (by_.tmod 5) ((by_.tdiv 8).tmod 5)) ≤ 100 := fun hn h => by
    obtain ⟨h1, h2, h3⟩ := hall hn h
    have hb := tube_bd (flt_iff.1 h1).1
    have e1 := eB_or h1
    have e2 := eB_or h2
    refine ⟨fun h0 => ?_, fun h0 => ?_, fun h0 => ?_, ?_⟩
    · have hok : okB c T lo hi (n + 1) (exL n a xa) (exL n b xb) (nrU (exL n u xu) (exL n v xv) (wh.tmod ((n + 1 : Nat) : Int)).toNat (by_.tmod 5)) (nrV (exL n u xu) (exL n v xv) (wh.tmod ((n + 1 : Nat) : Int)).toNat (by_.tmod 5) ((by_.tdiv 8).tmod 5)) = true := (fltB_iff.1 h0).2.2
      obtain ⟨k1, k2⟩ := more_bd (show n ≤ n + 1 by omega) h3 h1 h2 hok
      have he : eB c T lo hi n a b u v = 0 := fltB_ok h1 k1
      have l1 : lenB c T lo hi n a b u v = c.toNat + 1 := if_pos he
      have l2 : lenB c T lo hi (n + 1) (exL n a xa) (exL n b xb) (nrU (exL n u xu) (exL n v xv) (wh.tmod ((n + 1 : Nat) : Int)).toNat (by_.tmod 5)) (nrV (exL n u xu) (exL n v xv) (wh.tmod ((n + 1 : Nat) : Int)).toNat (by_.tmod 5) ((by_.tdiv 8).tmod 5)) = c.toNat + 1 := if_pos h0
      refine ⟨he, ?_⟩
      rw [l1, l2, decide_eq_true rfl, Bool.true_and]
      refine allI_iff.2 fun k hk => ?_
      have hkk := k2 k (by omega)
      simp only [wiB, Bool.not_eq_true', Bool.or_eq_false_iff, decide_eq_false_iff_not]
      omega
    · rw [e2] at h0 ⊢
      split at h0
      · exact absurd rfl h0
      · rename_i hh
        rw [if_neg hh]
    · rw [e1] at h0 ⊢
      split at h0
      · exact absurd rfl h0
      · rename_i hh
        rw [if_neg hh]
    · have hl : lenB c T lo hi (n + 1) (exL n a xa) (exL n b xb) (nrU (exL n u xu) (exL n v xv) (wh.tmod ((n + 1 : Nat) : Int)).toNat (by_.tmod 5)) (nrV (exL n u xu) (exL n v xv) (wh.tmod ((n + 1 : Nat) : Int)).toNat (by_.tmod 5) ((by_.tdiv 8).tmod 5)) = (if eB c T lo hi (n + 1) (exL n a xa) (exL n b xb) (nrU (exL n u xu) (exL n v xv) (wh.tmod ((n + 1 : Nat) : Int)).toNat (by_.tmod 5)) (nrV (exL n u xu) (exL n v xv) (wh.tmod ((n + 1 : Nat) : Int)).toNat (by_.tmod 5) ((by_.tdiv 8).tmod 5)) = 0 then c.toNat + 1 else 0) := rfl
      rw [hl]
      split <;> omega
  simp only [Tree.sat, allP, fitP, fitL, valEq, inI64, true_and, and_true, decide_eq_true_eq, decide_eq_false_iff_not, Bool.not_eq_true', Bool.not_eq_false', bne_iff_ne, ne_eq, bne_eq_false_iff_eq, beq_iff_eq, beq_eq_false_iff_ne]
  (repeat' first | with_reducible apply And.intro | with_reducible intro _)
  all_goals first | exact True.intro | omega | with_reducible rfl | exact isRec4 _ _ _ _ _ | (intro _ _; rfl) | exact one_of (by assumption) (by simp [AV.one, Value.oneCell']) | (rename_i hm; simp only [List.mem_cons, List.not_mem_nil, or_false] at hm; rcases hm with rfl | rfl | rfl | rfl <;> rfl) | exact catE (by assumption) | (have := hub (by omega) (by assumption); omega) | (have := hub (by omega) (by assumption); simp only [ite_self]; omega) | assumption | (rename_i q hq; by_cases hqp : q = (wh.tmod ((n + 1 : Nat) : Int)).toNat; (subst hqp; rw [nrU_p, nrV_p]; simp only [show decide ((wh.tmod ((n + 1 : Nat) : Int)).toNat = (wh.tmod ((n + 1 : Nat) : Int)).toNat) = true from decide_eq_true rfl]; rfl); (rw [nrU_n hqp, nrV_n hqp]; simp only [decide_eq_false hqp]; rfl)) | (have h4 := (hfin (by omega) (by assumption)).2.2.2; omega) | exact ((hfin (by omega) (by assumption)).1 (by assumption)).2 | exact absurd ((hfin (by omega) (by assumption)).1 (by assumption)).1 (by assumption) | exact absurd ((hfin (by omega) (by assumption)).2.1 (by assumption)) (by assumption) | exact absurd ((hfin (by omega) (by assumption)).2.2.1 (by assumption)) (by assumption) | (rename_i hw; rw [show _ = true from ((hfin (by omega) (by assumption)).1 (by assumption)).2] at hw; cases hw)

end Go.Proofs.Ytmdeoobmeokmeaa
