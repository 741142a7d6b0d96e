/- Texts of this claim, put together: BoG, BoH, BoI, BoJ, BoK, BoL -/
import Derived.Test.YtlinbkmpkcmniaaGreatMk
set_option linter.unusedSimpArgs false
set_option linter.unusedVariables false
set_option maxRecDepth 100000
namespace Go.Proofs.YtlinbkmpkcmniaaGreat.Bo
open Go Go.Sx Go.RowKit
def S_allr1 : Sx.Spec := fun l => match l with
 | [.agg [.x (.int .i64 a), .x (.int .i64 b), .x (.int .i64 u), .x (.int .i64 v)], .ro [.fn (.func 139) [.agg [.x (.int .i64 c), .x (.int .i64 T), .x (.int .i64 lo), .x (.int .i64 hi)]] []]] => some ([1 ≤ c ∧ c ≤ 10], bl (!rdB c a b u v))
 | _ => none
theorem allr1_at (c T lo hi a b u v : Int) (pre0 : 1 ≤ c ∧ c ≤ 10) : SoundAt Tryz.prog 156 [.agg [i a, i b, i u, i v], .ro [.fn (.func 139) [.agg [i c, i T, i lo, i hi]] []]] (bl (!rdB c a b u v)) := by
 refine soundAt_fin (G := [(139, S_reading)]) (L := []) (SoundG.cons reading_ok (SoundG.nil _)) mixed Tryz.func156 (show Tryz.f156.body = some (bodyOf Tryz.f156) by kernel_rfl) noLoops (t := (Tree.need [(1 : Int) ≤ c ∧ c ≤ (10 : Int)] (Tree.leaf (RV.x (Value.bool !rdB c a b u v))))) (by kernel_rfl) ?_
 simp [Tree.sat, allP, fitP, valEq]; exact pre0
theorem allr1_ok : SoundSpec Tryz.prog 156 S_allr1 := by
 refine ⟨⟨_, Tryz.func156, by kernel_rfl, by kernel_rfl⟩, ?_⟩
 intro avs ns res h hn
 unfold S_allr1 at h
 split at h
 ·cases h
  exact allr1_at _ _ _ _ _ _ _ _ (hn _ (by simp))
 ·cases h
def notR (c : Int) (a b u v : Nat → Int) (k : Nat) : Bool := !rdB c (a k) (b k) (u k) (v k)
def allR (c : Int) (n : Nat) (a b u v : Nat → Int) : Bool := allI (fun k => rdB c (a k) (b k) (u k) (v k)) n
noncomputable def E_xfr (c T lo hi : Int) (n : Nat) (a b u v : Nat → Int) : St := (some { σ := [AV.lst 4 n fun k => [iI (a k), iI (b k), iI (u k), iI (v k)], AV.fn (Fn.func 156) [] [AV.ro [AV.fn (Fn.func 139) [AV.agg [iI c, iI T, iI lo, iI hi]] []]]] ++ tpL 5 [iI (↑n : Int)] ++ tpL 11 [], m := [], nx := 4 } : Option St).getD { σ := [], m := [], nx := 0 }
noncomputable def B_xfr : Code := loopBody (loopAt (bodyOf Tryz.f162) 0)
noncomputable def inv_xfr (c T lo hi : Int) (n : Nat) (a b u v : Nat → Int) (k : Nat) : St := { σ := ovrS [(8, i k)] (E_xfr c T lo hi n a b u v).σ, m := (E_xfr c T lo hi n a b u v).m, nx := (E_xfr c T lo hi n a b u v).nx }
noncomputable def out_xfr (c T lo hi : Int) (n : Nat) (a b u v : Nat → Int) (k : Nat) : AEx → Option St := fun ex => match ex with
 | .ret => some { σ := ovrS [(4, i (fstI (notR c a b u v) n))] (E_xfr c T lo hi n a b u v).σ, m := (E_xfr c T lo hi n a b u v).m, nx := (E_xfr c T lo hi n a b u v).nx }
 | .exit 0 => some { σ := ovrS [] (E_xfr c T lo hi n a b u v).σ, m := (E_xfr c T lo hi n a b u v).m, nx := (E_xfr c T lo hi n a b u v).nx }
 | _ => none
noncomputable def T_xfr (c T lo hi : Int) (n : Nat) (a b u v : Nat → Int) : CT := .branch (decide (fstI (notR c a b u v) n < n)) (.leaf (.ret, ( out_xfr c T lo hi n a b u v 0 .ret).getD (E_xfr c T lo hi n a b u v))) (.leaf (.exit 0, ( out_xfr c T lo hi n a b u v 0 (.exit 0)).getD (E_xfr c T lo hi n a b u v)))
noncomputable def LS_xfr (c T lo hi : Int) (n : Nat) (a b u v : Nat → Int) : LSpec := (sumL (inv_xfr c T lo hi n a b u v (0)) (T_xfr c T lo hi n a b u v))
theorem xfr_ls (c T lo hi : Int) (n : Nat) (a b u v : Nat → Int) (pre0 : n ≤ 100000) (pre1 : 1 ≤ c ∧ c ≤ 10) : LSound Tryz.prog (.loop B_xfr) (LS_xfr c T lo hi n a b u v) := by
 refine loop_rounds (G := [(156, S_allr1)]) (L := []) (SoundG.cons allr1_ok (SoundG.nil _)) mixed noLoops (X := Nat) (inv_xfr c T lo hi n a b u v) (fun k => k ≤ n ∧ ∀ j, j < k → notR c a b u v j = false) (fun k => n - k) (out_xfr c T lo hi n a b u v) (x0 := 0) (by simp) ?_ ?_ ?_
 ·rintro k
  kernel_rfl
 ·rintro k y E h
  unfold out_xfr at h
  split at h
  ·cases h; kernel_rfl
  ·cases h; kernel_rfl
  ·cases h
 ·rintro Q hQ k hx
  refine ⟨(k + 1), ?_⟩
  have e : roundT Tryz.prog [(156, S_allr1)] [] B_xfr (inv_xfr c T lo hi n a b u v k) (inv_xfr c T lo hi n a b u v ((k + 1))) (out_xfr c T lo hi n a b u v k) = (let z0 := (AV.fn (Fn.func 156) [] [AV.ro [AV.fn (Fn.func 139) [AV.agg [iI c, iI T, iI lo, iI hi]] []]]); let z1 := (AV.lst 4 n fun k => [iI (a k), iI (b k), iI (u k), iI (v k)]); (Tree.branch (decide ((↑k : Int) < (↑n : Int))) (Tree.need [(0 : Int) ≤ (↑k : Int) ∧ (↑k : Int) < (↑n : Int)] (Tree.need [(1 : Int) ≤ c ∧ c ≤ (10 : Int)] (Tree.branch (!rdB c (a k) (b k) (u k) (v k)) (Tree.need [z1 = AV.lst 4 n fun k => [iI (a k), iI (b k), iI (u k), iI (v k)], Eq1 z0, (↑k : Int) = (↑(fstI (notR c a b u v) n) : Int), Eq1 (↑n : Int)] (Tree.leaf AEx.ret)) (Tree.need [inI64 ((↑k : Int) + (1 : Int))] (Tree.need [z1 = AV.lst 4 n fun k => [iI (a k), iI (b k), iI (u k), iI (v k)], Eq1 z0, Eq1 (↑n : Int), (↑k : Int) + (1 : Int) = (↑(k + 1) : Int)] (Tree.leaf AEx.normal)))))) (Tree.need [z1 = AV.lst 4 n fun k => [iI (a k), iI (b k), iI (u k), iI (v k)], Eq1 z0, Eq1 (↑n : Int)] (Tree.leaf (AEx.exit 0))))) := by kernel_rfl
  rw [e]
  simp only [T_xfr, out_xfr, Tree.sat, Option.getD_some, decide_eq_true_eq, decide_eq_false_iff_not] at hQ
  simp only [Tree.sat, allP, true_and, and_true, decide_eq_true_eq, decide_eq_false_iff_not, inI64, out_xfr, Int.toNat_natCast]
  refine ⟨fun h => ⟨by omega, pre1, fun hb => ?_, fun hb => ?_⟩, fun h => ?_⟩
  ·have hf : fstI (notR c a b u v) n = k := fstI_eq (by omega) hb hx.2
   refine ⟨by omega, fun E hE => ?_⟩
   cases hE
   exact hQ.1 (by omega)
  ·refine ⟨by omega, by omega, ⟨by omega, fun j hj => ?_⟩, by omega⟩
   rcases (show j < k ∨ j = k by omega) with h1 | rfl
   ·exact hx.2 j h1
   ·exact hb
  ·have hf : fstI (notR c a b u v) n = n := fstI_none (fun j hj => hx.2 j (by omega))
   intro E hE
   cases hE
   exact hQ.2 (by omega)
theorem xfr_at (c T lo hi : Int) (n : Nat) (a b u v : Nat → Int) (pre0 : n ≤ 100000) (pre1 : 1 ≤ c ∧ c ≤ 10) : SoundAt Tryz.prog 162 [rds n a b u v, .fn (.func 156) [] [.ro [.fn (.func 139) [.agg [i c, i T, i lo, i hi]] []]]] (i (if fstI (notR c a b u v) n < n then (fstI (notR c a b u v) n : Int) else -1)) := by
 refine soundAt_fin (G := [(156, S_allr1)]) (L := [LS_xfr c T lo hi n a b u v]) (SoundG.cons allr1_ok (SoundG.nil _)) mixed Tryz.func162 (show Tryz.f162.body = some (bodyOf Tryz.f162) by kernel_rfl) (one_loop (fun cj hcj => by
  have e : loopAt (bodyOf Tryz.f162) 0 = some (.loop B_xfr) := by kernel_rfl
  rw [e] at hcj; cases hcj
  exact xfr_ls c T lo hi n a b u v pre0 pre1)) (t := (Tree.need [(AV.lst 4 n fun k => [iI (a k), iI (b k), iI (u k), iI (v k)]) = AV.lst 4 n fun k => [iI (a k), iI (b k), iI (u k), iI (v k)], AV.fn (Fn.func 156) [] [AV.ro [AV.fn (Fn.func 139) [AV.agg [iI c, iI T, iI lo, iI hi]] []]] = AV.fn (Fn.func 156) [] [AV.ro [AV.fn (Fn.func 139) [AV.agg [iI c, iI T, iI lo, iI hi]] []]], (↑n : Int) = (↑n : Int), (0 : Int) = (↑(0 : Nat) : Int)] (Tree.branch (decide (fstI (notR c a b u v) n < n)) (Tree.leaf (RV.x (Value.int IntKind.i64 (↑(fstI (notR c a b u v) n) : Int)))) (Tree.leaf (RV.x (Value.int IntKind.i64 (-1 : Int))))))) (by kernel_rfl) ?_
 simp only [Tree.sat, allP, fitP, valEq, true_and, and_true, decide_eq_true_eq, decide_eq_false_iff_not]
 simp +contextual
theorem isRec4 (n : Nat) (a b u v : Nat → Int) : isRec 4 n (fun k => [i (a k), i (b k), i (u k), i (v k)]) := fun _ _ => rfl
def S_xfr : Sx.Spec := fun l => match l with
 | [.lst 4 n f, .fn (.func 156) [] [.ro [.fn (.func 139) [.agg [.x (.int .i64 c), .x (.int .i64 T), .x (.int .i64 lo), .x (.int .i64 hi)]] []]]] => some ([isRec 4 n f, n ≤ 100000, 1 ≤ c ∧ c ≤ 10], i (if fstI (notR c (col 0 f) (col 1 f) (col 2 f) (col 3 f)) n < n then (fstI (notR c (col 0 f) (col 1 f) (col 2 f) (col 3 f)) n : Int) else -1))
 | _ => none
def S_cfr : Sx.Spec := fun l => match l with
 | [.lst 4 n f, .fn (.func 156) [] [.ro [.fn (.func 139) [.agg [.x (.int .i64 c), .x (.int .i64 T), .x (.int .i64 lo), .x (.int .i64 hi)]] []]]] => some ([isRec 4 n f, n ≤ 100000, 1 ≤ c ∧ c ≤ 10], bl (!allR c n (col 0 f) (col 1 f) (col 2 f) (col 3 f)))
 | _ => none
def S_allr : Sx.Spec := fun l => match l with
 | [.lst 4 n f, .fn (.func 139) [.agg [.x (.int .i64 c), .x (.int .i64 T), .x (.int .i64 lo), .x (.int .i64 hi)]] []] => some ([isRec 4 n f, n ≤ 100000, 1 ≤ c ∧ c ≤ 10], bl (allR c n (col 0 f) (col 1 f) (col 2 f) (col 3 f)))
 | _ => none
def flt (c T lo hi : Int) (n : Nat) (a b u v : Nat → Int) : Int := if tubeB c T lo hi then (if 12 < n then 3 else if allR c n a b u v then 0 else 2) else 1
def S_check : Sx.Spec := fun l => match l with
 | [.agg [.x (.int .i64 c), .x (.int .i64 T), .x (.int .i64 lo), .x (.int .i64 hi)], .lst 4 n f] => some ([isRec 4 n f], i (flt c T lo hi n (col 0 f) (col 1 f) (col 2 f) (col 3 f)))
 | _ => none
theorem xfr_ok : SoundSpec Tryz.prog 162 S_xfr := by
 refine ⟨⟨_, Tryz.func162, by kernel_rfl, by kernel_rfl⟩, ?_⟩
 intro avs ns res h hn
 unfold S_xfr at h
 split at h
 ·cases h
  have hr : isRec 4 _ _ := hn _ (List.mem_cons_self)
  exact (xfr_at _ _ _ _ _ (col 0 _) (col 1 _) (col 2 _) (col 3 _) (hn _ (by simp)) (hn _ (by simp))).same (.cons (.lst 4 _ _ _ hr) (.cons (.refl _) .nil))
 ·cases h
theorem cfr_at (c T lo hi : Int) (n : Nat) (a b u v : Nat → Int) (pre0 : n ≤ 100000) (pre1 : 1 ≤ c ∧ c ≤ 10) : SoundAt Tryz.prog 155 [rds n a b u v, .fn (.func 156) [] [.ro [.fn (.func 139) [.agg [i c, i T, i lo, i hi]] []]]] (bl (!allR c n a b u v)) := by
 refine soundAt_fin (G := [(162, S_xfr)]) (L := []) (SoundG.cons xfr_ok (SoundG.nil _)) mixed Tryz.func155 (show Tryz.f155.body = some (bodyOf Tryz.f155) by kernel_rfl) noLoops (t := (Tree.need [isRec 4 n fun k => [i (a k), i (b k), i (u k), i (v k)], n ≤ 100000, (1 : Int) ≤ c ∧ c ≤ (10 : Int)] (Tree.leaf (RV.x (Value.bool (decide ((if fstI (notR c a b u v) n < n then (↑(fstI (notR c a b u v) n) : Int) else (-1 : Int)) ≥ (0 : Int)))))))) (by kernel_rfl) ?_
 simp only [Tree.sat, allP, fitP, valEq, true_and, and_true]
 refine ⟨⟨isRec4 n _ _ _ _, pre0, pre1⟩, ?_⟩
 unfold allR
 rw [allI_fst]
 have := fstI_spec (notR c a b u v) n
 have e : (fun k => !(fun k => rdB c (a k) (b k) (u k) (v k)) k) = notR c a b u v := rfl
 rw [e]
 split <;> simp <;> omega
theorem cfr_ok : SoundSpec Tryz.prog 155 S_cfr := by
 refine ⟨⟨_, Tryz.func155, by kernel_rfl, by kernel_rfl⟩, ?_⟩
 intro avs ns res h hn
 unfold S_cfr at h
 split at h
 ·cases h
  have hr : isRec 4 _ _ := hn _ (List.mem_cons_self)
  exact (cfr_at _ _ _ _ _ (col 0 _) (col 1 _) (col 2 _) (col 3 _) (hn _ (by simp)) (hn _ (by simp))).same (.cons (.lst 4 _ _ _ hr) (.cons (.refl _) .nil))
 ·cases h
theorem allr_at (c T lo hi : Int) (n : Nat) (a b u v : Nat → Int) (pre0 : n ≤ 100000) (pre1 : 1 ≤ c ∧ c ≤ 10) : SoundAt Tryz.prog 140 [rds n a b u v, .fn (.func 139) [.agg [i c, i T, i lo, i hi]] []] (bl (allR c n a b u v)) := by
 refine soundAt_fin (G := [(155, S_cfr)]) (L := []) (SoundG.cons cfr_ok (SoundG.nil _)) mixed Tryz.func140 (show Tryz.f140.body = some (bodyOf Tryz.f140) by kernel_rfl) noLoops (t := (Tree.need [isRec 4 n fun k => [i (a k), i (b k), i (u k), i (v k)], n ≤ 100000, (1 : Int) ≤ c ∧ c ≤ (10 : Int)] (Tree.leaf (RV.x (Value.bool !!allR c n a b u v))))) (by kernel_rfl) ?_
 simp only [Tree.sat, allP, fitP, valEq, true_and, and_true]
 refine ⟨⟨isRec4 n _ _ _ _, pre0, pre1⟩, ?_⟩
 simp
theorem allr_ok : SoundSpec Tryz.prog 140 S_allr := by
 refine ⟨⟨_, Tryz.func140, by kernel_rfl, by kernel_rfl⟩, ?_⟩
 intro avs ns res h hn
 unfold S_allr at h
 split at h
 ·cases h
  have hr : isRec 4 _ _ := hn _ (List.mem_cons_self)
  exact (allr_at _ _ _ _ _ (col 0 _) (col 1 _) (col 2 _) (col 3 _) (hn _ (by simp)) (hn _ (by simp))).same (.cons (.lst 4 _ _ _ hr) (.cons (.refl _) .nil))
 ·cases h
theorem tube_bd {c T lo hi : Int} (h : tubeB c T lo hi = true) : (1 ≤ c ∧ c ≤ 10) ∧ (1 ≤ lo ∧ lo ≤ hi ∧ hi ≤ 200 ∧ 1 ≤ T ∧ T ≤ 2000) ∧ c * lo ≤ T ∧ T ≤ c * hi := by
 simp only [tubeB, Bool.and_eq_true, bt_iff, insB_iff] at h
 omega
theorem check_at (c T lo hi : Int) (n : Nat) (a b u v : Nat → Int) : SoundAt Tryz.prog 120 [.agg [i c, i T, i lo, i hi], rds n a b u v] (i (flt c T lo hi n a b u v)) := by
 refine soundAt_fin (G := [(125, S_CheckTube), (140, S_allr)]) (L := []) (SoundG.cons CheckTube_ok (SoundG.cons allr_ok (SoundG.nil _))) mixed Tryz.func120 (show Tryz.f120.body = some (bodyOf Tryz.f120) by kernel_rfl) noLoops (t := (Tree.branch ((if tubeB c T lo hi = true then (0 : Int) else (1 : Int)) != (0 : Int)) (Tree.leaf (RV.x (Value.int IntKind.i64 (if tubeB c T lo hi = true then (0 : Int) else (1 : Int))))) (Tree.branch (decide ((↑n : Int) > (12 : Int))) (Tree.leaf (RV.x (Value.int IntKind.i64 (3 : Int)))) (Tree.need [isRec 4 n fun k => [i (a k), i (b k), i (u k), i (v k)], n ≤ 100000, (1 : Int) ≤ c ∧ c ≤ (10 : Int)] (Tree.branch (!allR c n a b u v) (Tree.leaf (RV.x (Value.int IntKind.i64 (2 : Int)))) (Tree.leaf (RV.x (Value.int IntKind.i64 (0 : Int))))))))) (by kernel_rfl) ?_
 simp only [Tree.sat, allP, fitP, valEq, true_and, and_true, flt]
 by_cases ht : tubeB c T lo hi = true
 ·have hb := tube_bd ht
  by_cases hn : 12 < n
  ·simp [ht, hn]; omega
  ·cases ha : allR c n a b u v <;> simp [ht, hn, ha, isRec4 n a b u v] <;> omega
 ·simp [ht]
theorem check_ok : SoundSpec Tryz.prog 120 S_check := by
 refine ⟨⟨_, Tryz.func120, by kernel_rfl, by kernel_rfl⟩, ?_⟩
 intro avs ns res h hn
 unfold S_check at h
 split at h
 ·cases h
  have hr : isRec 4 _ _ := hn _ (List.mem_cons_self)
  exact (check_at _ _ _ _ _ (col 0 _) (col 1 _) (col 2 _) (col 3 _)).same (.cons (.refl _) (.cons (.lst 4 _ _ _ hr) .nil))
 ·cases h
end Go.Proofs.YtlinbkmpkcmniaaGreat.Bo
namespace Go.Proofs.YtlinbkmpkcmniaaGreat.Bo
open Go Go.Sx Go.RowKit
theorem low_at (f : Nat → Int) (k : Nat) (pre0 : k ≤ 10) (pre1 : -1000000000000 ≤ f (k * 11 + 4) ∧ f (k * 11 + 4) ≤ 1000000000000) : SoundAt Tryz.prog 122 [.roI [] 125 f 0, i k] (i (-(f (k * 11 + 4)))) := by
 refine soundAt_fin (G := []) (L := []) (SoundG.nil _) mixed Tryz.func122 (show Tryz.f122.body = some (bodyOf Tryz.f122) by kernel_rfl) noLoops (t := (Tree.need [(0 : Int) ≤ (↑k : Int) ∧ (↑k : Int) < (↑(11 : Nat) : Int)] (Tree.need [(0 : Int) ≤ (0 : Int) ∧ (0 : Int) < (↑(11 : Nat) : Int)] (Tree.need [0 + (k * 11 + 4) < 125] (Tree.need [inI64 (-f (0 + (k * 11 + 4)))] (Tree.leaf (RV.x (Value.int IntKind.i64 (-f (0 + (k * 11 + 4))))))))))) (by kernel_rfl) ?_
 simp only [Tree.sat, allP, fitP, fitL, valEq, true_and, and_true, Int.toNat_natCast]
 rw [show 0 + (k * 11 + 4) = k * 11 + 4 by omega]
 simp only [inI64]
 simp
 omega
def S_low : Sx.Spec := fun l => match l with
 | [.roI [] 125 f 0, .x (.int .i64 k)] => some ([0 ≤ k ∧ k ≤ 10, -1000000000000 ≤ f (k.toNat * 11 + 4) ∧ f (k.toNat * 11 + 4) ≤ 1000000000000], i (-(f (k.toNat * 11 + 4))))
 | _ => none
theorem low_ok : SoundSpec Tryz.prog 122 S_low := by
 refine ⟨⟨_, Tryz.func122, by kernel_rfl, by kernel_rfl⟩, ?_⟩
 intro avs ns res h hn
 unfold S_low at h
 split at h
 ·rename_i f k
  cases h
  have hk : 0 ≤ k ∧ k ≤ 10 := hn _ (by simp)
  have e : ((k.toNat : Nat) : Int) = k := by omega
  have h0 := low_at f k.toNat (by omega) (hn _ (by simp))
  rw [e] at h0
  exact h0
 ·cases h
theorem high_at (f : Nat → Int) (k : Nat) (pre0 : k ≤ 10) (pre1 : -1000000000000 ≤ f (k * 11 + 4) ∧ f (k * 11 + 4) ≤ 1000000000000) : SoundAt Tryz.prog 123 [.roI [] 125 f 0, i k] (i (f (k + 4))) := by
 refine soundAt_fin (G := []) (L := []) (SoundG.nil _) mixed Tryz.func123 (show Tryz.f123.body = some (bodyOf Tryz.f123) by kernel_rfl) noLoops (t := (Tree.need [(0 : Int) ≤ (0 : Int) ∧ (0 : Int) < (↑(11 : Nat) : Int)] (Tree.need [(0 : Int) ≤ (↑k : Int) ∧ (↑k : Int) < (↑(11 : Nat) : Int)] (Tree.need [k * 1 + 4 < 125] (Tree.leaf (RV.x (Value.int IntKind.i64 (f (k * 1 + 4))))))))) (by kernel_rfl) ?_
 simp only [Tree.sat, allP, fitP, fitL, valEq, true_and, and_true, Int.toNat_natCast]
 rw [show k * 1 + 4 = k + 4 by omega]
 simp only [inI64]
 simp
 omega
def S_high : Sx.Spec := fun l => match l with
 | [.roI [] 125 f 0, .x (.int .i64 k)] => some ([0 ≤ k ∧ k ≤ 10, -1000000000000 ≤ f (k.toNat * 11 + 4) ∧ f (k.toNat * 11 + 4) ≤ 1000000000000], i (f (k.toNat + 4)))
 | _ => none
theorem high_ok : SoundSpec Tryz.prog 123 S_high := by
 refine ⟨⟨_, Tryz.func123, by kernel_rfl, by kernel_rfl⟩, ?_⟩
 intro avs ns res h hn
 unfold S_high at h
 split at h
 ·rename_i f k
  cases h
  have hk : 0 ≤ k ∧ k ≤ 10 := hn _ (by simp)
  have e : ((k.toNat : Nat) : Int) = k := by omega
  have h0 := high_at f k.toNat (by omega) (hn _ (by simp))
  rw [e] at h0
  exact h0
 ·cases h
def S_lowest : Sx.Spec := fun l => match l with
 | [] => some ([], .agg [.fn (.func 122) [] []])
 | _ => none
theorem lowest_at  : SoundAt Tryz.prog 88 [] (.agg [.fn (.func 122) [] []]) := by
 refine soundAt_fin (G := []) (L := []) (SoundG.nil _) mixed Tryz.func88 (show Tryz.f88.body = some (bodyOf Tryz.f88) by kernel_rfl) noLoops (t := (Tree.leaf (RV.agg [RV.fn (Fn.func 122)]))) (by kernel_rfl) ?_
 simp only [Tree.sat, allP, fitP, fitL, valEq, true_and, and_true, Int.toNat_natCast]
 repeat' first | with_reducible apply And.intro | with_reducible intro _
 all_goals first | exact True.intro | omega | with_reducible rfl | assumption
theorem lowest_ok : SoundSpec Tryz.prog 88 S_lowest := by
 refine ⟨⟨_, Tryz.func88, by kernel_rfl, by kernel_rfl⟩, ?_⟩
 intro avs ns res h hn
 unfold S_lowest at h
 split at h
 ·cases h
  exact lowest_at 
 ·cases h
def S_highest : Sx.Spec := fun l => match l with
 | [] => some ([], .agg [.fn (.func 123) [] []])
 | _ => none
theorem highest_at  : SoundAt Tryz.prog 89 [] (.agg [.fn (.func 123) [] []]) := by
 refine soundAt_fin (G := []) (L := []) (SoundG.nil _) mixed Tryz.func89 (show Tryz.f89.body = some (bodyOf Tryz.f89) by kernel_rfl) noLoops (t := (Tree.leaf (RV.agg [RV.fn (Fn.func 123)]))) (by kernel_rfl) ?_
 simp only [Tree.sat, allP, fitP, fitL, valEq, true_and, and_true, Int.toNat_natCast]
 repeat' first | with_reducible apply And.intro | with_reducible intro _
 all_goals first | exact True.intro | omega | with_reducible rfl | assumption
theorem highest_ok : SoundSpec Tryz.prog 89 S_highest := by
 refine ⟨⟨_, Tryz.func89, by kernel_rfl, by kernel_rfl⟩, ?_⟩
 intro avs ns res h hn
 unfold S_highest at h
 split at h
 ·cases h
  exact highest_at 
 ·cases h
theorem bounds_at (f : Nat → Int) (k : Nat) (pre0 : k ≤ 10) (pre1 : -1000000000000 ≤ f (k * 11 + 4) ∧ f (k * 11 + 4) ≤ 1000000000000) : SoundAt Tryz.prog 105 [.roI [] 125 f 0, i k] (.agg [i (-(f (k * 11 + 4))), i (f (k + 4))]) := by
 refine soundAt_fin (G := [(122, S_low), (123, S_high), (88, S_lowest), (89, S_highest)]) (L := []) (SoundG.cons low_ok (SoundG.cons high_ok (SoundG.cons lowest_ok (SoundG.cons highest_ok (SoundG.nil _))))) mixed Tryz.func105 (show Tryz.f105.body = some (bodyOf Tryz.f105) by kernel_rfl) noLoops (t := (Tree.need [(0 : Int) ≤ (↑k : Int) ∧ (↑k : Int) ≤ (10 : Int), (-1000000000000 : Int) ≤ f (k * 11 + 4) ∧ f (k * 11 + 4) ≤ (1000000000000 : Int)] (Tree.need [(0 : Int) ≤ (↑k : Int) ∧ (↑k : Int) ≤ (10 : Int), (-1000000000000 : Int) ≤ f (k * 11 + 4) ∧ f (k * 11 + 4) ≤ (1000000000000 : Int)] (Tree.leaf (RV.agg [RV.x (Value.int IntKind.i64 (-f (k * 11 + 4))), RV.x (Value.int IntKind.i64 (f (k + 4)))]))))) (by kernel_rfl) ?_
 simp only [Tree.sat, allP, fitP, fitL, valEq, true_and, and_true, Int.toNat_natCast]
 repeat' first | with_reducible apply And.intro | with_reducible intro _
 all_goals first | exact True.intro | omega | with_reducible rfl | assumption
end Go.Proofs.YtlinbkmpkcmniaaGreat.Bo
namespace Go.Proofs.YtlinbkmpkcmniaaGreat.Bo
open Go Go.Sx Go.RowKit
def S_bounds : Sx.Spec := fun l => match l with
 | [.roI [] 125 f 0, .x (.int .i64 k)] => some ([0 ≤ k ∧ k ≤ 10, -1000000000000 ≤ f (k.toNat * 11 + 4) ∧ f (k.toNat * 11 + 4) ≤ 1000000000000], .agg [i (-(f (k.toNat * 11 + 4))), i (f (k.toNat + 4))])
 | _ => none
theorem bounds_ok : SoundSpec Tryz.prog 105 S_bounds := by
 refine ⟨⟨_, Tryz.func105, by kernel_rfl, by kernel_rfl⟩, ?_⟩
 intro avs ns res h hn
 unfold S_bounds at h
 split at h
 ·rename_i f k
  cases h
  have hk : 0 ≤ k ∧ k ≤ 10 := hn _ (by simp)
  have e : ((k.toNat : Nat) : Int) = k := by omega
  have h0 := bounds_at f k.toNat (by omega) (hn _ (by simp))
  rw [e] at h0
  exact h0
 ·cases h
end Go.Proofs.YtlinbkmpkcmniaaGreat.Bo
namespace Go.Proofs.YtlinbkmpkcmniaaGreat.Bo
open Go Go.Sx Go.RowKit
abbrev siteB (c T lo hi : Int) (n : Nat) (a b u v : Nat → Int) : AV := siteA c.toNat T lo hi n a b u v
def okB (c T lo hi : Int) (n : Nat) (a b u v : Nat → Int) : Bool := okR c.toNat T lo hi n a b u v
def fltB (c T lo hi : Int) (n : Nat) (a b u v : Nat → Int) (r : Bool) : Int := if flt c T lo hi n a b u v = 0 then (if r then (if okB c T lo hi n a b u v then 0 else 9) else 2) else flt c T lo hi n a b u v
theorem flt_iff {c T lo hi : Int} {n : Nat} {a b u v : Nat → Int} : flt c T lo hi n a b u v = 0 ↔ tubeB c T lo hi = true ∧ n ≤ 12 ∧ allI (fun k => rdB c (a k) (b k) (u k) (v k)) n = true := by
 unfold flt allR
 split
 ·rename_i h1
  split
  ·rename_i h2
   constructor
   ·intro h; cases h
   ·intro h; omega
  ·rename_i h2
   split
   ·rename_i h3
    exact ⟨fun _ => ⟨h1, by omega, h3⟩, fun _ => rfl⟩
   ·rename_i h3
    constructor
    ·intro h; cases h
    ·intro h; exact absurd h.2.2 h3
 ·rename_i h1
  constructor
  ·intro h; cases h
  ·intro h; exact absurd h.1 h1
theorem fltB_iff {c T lo hi : Int} {n : Nat} {a b u v : Nat → Int} {r : Bool} : fltB c T lo hi n a b u v r = 0 ↔ flt c T lo hi n a b u v = 0 ∧ r = true ∧ okB c T lo hi n a b u v = true := by
 unfold fltB
 split
 ·rename_i h1
  split
  ·rename_i h2
   split
   ·rename_i h3
    simp [h1, h2, h3]
   ·rename_i h3
    simp [h1, h2, h3]
  ·rename_i h2
   simp [h1, h2]
 ·rename_i h1
  simp [h1]
theorem tried_at (c T lo hi : Int) (n : Nat) (a b u v : Nat → Int) (r : Bool) : SoundCAt Tryz.prog 86 [.agg [i c, i T, i lo, i hi], rds n a b u v, bl r] (.branch (decide (fltB c T lo hi n a b u v r = 0)) (.leaf (.tup [siteB c T lo hi n a b u v, i 0])) (.leaf (.tup [nilP, i (fltB c T lo hi n a b u v r)]))) := by
 refine soundCAt_fin (G := [(120, S_check)]) (X := { R := [], H := [], C := [(121, C_read)] }) (L := []) (SoundG.cons check_ok (SoundG.nil _)) (SoundX.ofC (SoundRL.nil _) (SoundHL.nil _) (SoundCL.cons read_okC (SoundCL.nil _))) mixed Tryz.func86 (show Tryz.f86.body = some (bodyOf Tryz.f86) by kernel_rfl) noLoopsS (t := (Tree.need [isRec 4 n fun k => [i (a k), i (b k), i (u k), i (v k)]] (Tree.branch (flt c T lo hi n a b u v != (0 : Int)) (Tree.leaf (AV.tup [AV.x (Value.pointer none), iI (flt c T lo hi n a b u v)])) (Tree.branch (!r) (Tree.leaf (AV.tup [AV.x (Value.pointer none), iI (2 : Int)])) (Tree.need [isRec 4 n fun k => [i (a k), i (b k), i (u k), i (v k)], (1 : Int) ≤ c ∧ c ≤ (10 : Int), (1 : Int) ≤ lo ∧ lo ≤ hi ∧ hi ≤ (200 : Int) ∧ (1 : Int) ≤ T ∧ T ≤ (2000 : Int), n ≤ 1000, allI (fun k => rdB c (a k) (b k) (u k) (v k)) n = true] (Tree.branch (okR (Int.toNat c) T lo hi n a b u v) (Tree.leaf (AV.tup [AV.roI [] 125 (fun k => siteF (↑(Int.toNat c) : Int) T lo hi (fwM (Int.toNat c) T lo hi n a b u v) k) 0, iI (0 : Int)])) (Tree.leaf (AV.tup [AV.x (Value.pointer none), iI (9 : Int)])))))))) (by kernel_rfl) ?_
 intro Q hQ
 have e : c.toNat = c ∨ c < 0 := by omega
 simp only [Tree.sat, allP, true_and, and_true, bne_iff_ne, ne_eq, decide_eq_true_eq, decide_eq_false_iff_not, Bool.not_eq_true', bne_eq_false_iff_eq] at hQ ⊢
 refine ⟨isRec4 n a b u v, fun h1 => ?_, fun h1 => ?_⟩
 ·refine ⟨.tup [nilP, i (flt c T lo hi n a b u v)], ⟨rfl, ⟨rfl, rfl⟩, True.intro⟩, ?_⟩
  have h2 : fltB c T lo hi n a b u v r = flt c T lo hi n a b u v := by unfold fltB; rw [if_neg h1]
  rw [h2] at hQ
  exact hQ.2 h1
 ·have hf := flt_iff.1 h1
  have hb := tube_bd hf.1
  refine ⟨fun h2 => ?_, fun h2 => ⟨⟨isRec4 n a b u v, hb.1, hb.2.1, by have := hf.2.1; omega, hf.2.2⟩, fun h3 => ?_, fun h3 => ?_⟩⟩
  ·subst h2
   have h4 : fltB c T lo hi n a b u v false = 2 := by unfold fltB; rw [if_pos h1]; rfl
   rw [h4] at hQ
   exact ⟨.tup [nilP, i 2], ⟨rfl, ⟨rfl, rfl⟩, True.intro⟩, hQ.2 (by omega)⟩
  ·have h2 : r = true := by simpa using h2
   subst h2
   have h4 : fltB c T lo hi n a b u v true = 0 := fltB_iff.2 ⟨h1, rfl, h3⟩
   exact ⟨.tup [siteB c T lo hi n a b u v, i 0], ⟨⟨rfl, rfl, fun _ _ => rfl, rfl⟩, ⟨rfl, rfl⟩, True.intro⟩, hQ.1 h4⟩
  ·have h2 : r = true := by simpa using h2
   subst h2
   have h4 : fltB c T lo hi n a b u v true = 9 := by unfold fltB okB; rw [if_pos h1, h3]; rfl
   rw [h4] at hQ
   exact ⟨.tup [nilP, i 9], ⟨rfl, ⟨rfl, rfl⟩, True.intro⟩, hQ.2 (by omega)⟩
noncomputable def C_tried : CSpec := fun l => match l with
 | [.agg [.x (.int .i64 c), .x (.int .i64 T), .x (.int .i64 lo), .x (.int .i64 hi)], .lst 4 n f, .x (.bool r)] => some (.need [isRec 4 n f] (.branch (decide (fltB c T lo hi n (col 0 f) (col 1 f) (col 2 f) (col 3 f) r = 0)) (.leaf (.tup [siteB c T lo hi n (col 0 f) (col 1 f) (col 2 f) (col 3 f), i 0])) (.leaf (.tup [nilP, i (fltB c T lo hi n (col 0 f) (col 1 f) (col 2 f) (col 3 f) r)]))))
 | [.agg [.x (.int .i64 c), .x (.int .i64 T), .x (.int .i64 lo), .x (.int .i64 hi)], .lst 4 n f, .lit r] => some (.need [isRec 4 n f] (.branch (decide (fltB c T lo hi n (col 0 f) (col 1 f) (col 2 f) (col 3 f) r = 0)) (.leaf (.tup [siteB c T lo hi n (col 0 f) (col 1 f) (col 2 f) (col 3 f), i 0])) (.leaf (.tup [nilP, i (fltB c T lo hi n (col 0 f) (col 1 f) (col 2 f) (col 3 f) r)]))))
 | _ => none
theorem RepL.lits {e : Env} {w : World} {r : Bool} : ∀ {l : List AV} {vs : List Value}, RepL e w (l ++ [.lit r]) vs → RepL e w (l ++ [.x (.bool r)]) vs
 | [], vs, h => by
  obtain ⟨v, vs', rfl, hv, hvs⟩ := h.cons_inv
  cases hv
  exact RepL.cons (.x _) hvs
 | a :: l, vs, h => by
  obtain ⟨v, vs', rfl, hv, hvs⟩ := h.cons_inv
  exact RepL.cons hv (RepL.lits hvs)
theorem SoundCAt.lits {P : Program} {f : FuncId} {l : List AV} {r : Bool} {t : Tree AV} (h : SoundCAt P f (l ++ [.x (.bool r)]) t) : SoundCAt P f (l ++ [.lit r]) t := fun Q hQ e w args hro hidf hr => h Q hQ e w args hro (fun a ha => by
 rcases List.mem_append.1 ha with h1 | h1
 ·exact hidf a (List.mem_append_left _ h1)
 ·cases List.mem_singleton.1 h1
  exact .x _) (RepL.lits hr)
theorem tried_okC : Enters Tryz.prog 86 ∧ ∀ avs t, C_tried avs = some t → SoundCAt Tryz.prog 86 avs t := by
 refine ⟨⟨_, Tryz.func86, by kernel_rfl, by kernel_rfl⟩, ?_⟩
 intro avs t h
 unfold C_tried at h
 split at h
 ·rename_i c T lo hi n f r
  cases h
  intro Q hQ
  have hr : isRec 4 n f := allP_mem hQ.1 _ (by simp)
  exact SoundCAt.same (tried_at c T lo hi n (col 0 f) (col 1 f) (col 2 f) (col 3 f) r) (.cons (.refl _) (.cons (.lst 4 n _ _ hr) (.cons (.refl _) .nil))) Q hQ.2
 ·rename_i c T lo hi n f r
  cases h
  intro Q hQ
  have hr : isRec 4 n f := allP_mem hQ.1 _ (by simp)
  exact SoundCAt.lits (l := [.agg [.x (.int .i64 c), .x (.int .i64 T), .x (.int .i64 lo), .x (.int .i64 hi)], .lst 4 n f]) (SoundCAt.same (tried_at c T lo hi n (col 0 f) (col 1 f) (col 2 f) (col 3 f) r) (.cons (.refl _) (.cons (.lst 4 n _ _ hr) (.cons (.refl _) .nil)))) Q hQ.2
 ·cases h
end Go.Proofs.YtlinbkmpkcmniaaGreat.Bo
namespace Go.Proofs.YtlinbkmpkcmniaaGreat.Bo
open Go Go.Sx Go.RowKit
def eB (c T lo hi : Int) (n : Nat) (a b u v : Nat → Int) : Int := fltB c T lo hi n a b u v true
def fwB (c T lo hi : Int) (n : Nat) (a b u v : Nat → Int) : Nat → Nat → Int := fwM c.toNat T lo hi n a b u v
def sfB (c T lo hi : Int) (n : Nat) (a b u v : Nat → Int) : Nat → Int := siteF (c.toNat : Nat) T lo hi (fwB c T lo hi n a b u v)
def lenB (c T lo hi : Int) (n : Nat) (a b u v : Nat → Int) : Nat := if eB c T lo hi n a b u v = 0 then c.toNat + 1 else 0
theorem rdB_v {c a b u v : Int} (h : rdB c a b u v = true) : (0 ≤ a ∧ a ≤ c - 1) ∧ (a ≤ b ∧ b ≤ c) ∧ 0 ≤ u ∧ u ≤ v ∧ v ≤ 2000 := by
 simp only [rdB, Bool.and_eq_true, bt_iff, insB_iff] at h
 omega
theorem fwM_bd {c T lo hi : Int} {n : Nat} {a b u v : Nat → Int} (h : flt c T lo hi n a b u v = 0) (x y : Nat) : -1000000000000 ≤ fwB c T lo hi n a b u v x y ∧ fwB c T lo hi n a b u v x y ≤ 2000 := by
 have hf := flt_iff.1 h
 have hb := tube_bd hf.1
 have hl := rdM_lb (c := c.toNat) (a := a) (b := b) hb.2.1 (fun j hj => (rdB_v (allI_iff.1 hf.2.2 j hj)).2.2) n (Nat.le_refl n)
 have h1 := LB_O (c := c.toNat) hl (c.toNat + 1) x y
 have h2 := pow6 c.toNat (by omega)
 rw [Int.pow_succ] at h1
 unfold fwB fwM
 omega
theorem sfB_low (c T lo hi : Int) (n : Nat) (a b u v : Nat → Int) (k : Nat) : sfB c T lo hi n a b u v (k * 11 + 4) = fwB c T lo hi n a b u v k 0 := site_get _ _ _ _ _ (by omega) (by omega)
theorem sfB_high (c T lo hi : Int) (n : Nat) (a b u v : Nat → Int) {k : Nat} (hk : k ≤ 10) : sfB c T lo hi n a b u v (k + 4) = fwB c T lo hi n a b u v 0 k := site_get _ _ _ _ _ (by omega) (by omega)
theorem chunk_mem {sz k : Nat} {l : List AV} {x : AV} (h : x ∈ chunk sz l k) : x ∈ l := List.mem_of_mem_drop (List.mem_of_mem_take h)
theorem one_of {sz k : Nat} {l : List AV} {x : AV} (hm : x ∈ chunk sz l k) (h : ∀ y ∈ l, AV.one y = true) : AV.one x = true := h x (chunk_mem hm)
theorem catF2 {k j : Nat} {a b : Nat → Int} {x y : Int} (h : j < k + 1) (hx : x = a k) (hy : y = b k) : catF k (fun k => [i (a k), i (b k)]) (chunk 2 [i x, i y]) j = [i (a j), i (b j)] := by
 have e : j - k = 0 := by omega
 show mergeL (decide (j < k)) [i (a j), i (b j)] (chunk 2 [i x, i y] (j - k)) = _
 rw [e]
 by_cases hj : j < k
 ·rw [show decide (j < k) = true by simp [hj]]
  rfl
 ·have hk : j = k := by omega
  rw [show decide (j < k) = false by simp [hj], hk, hx, hy]
  rfl
noncomputable def E_hs (c T lo hi : Int) (n : Nat) (a b u v : Nat → Int) : St := (some { σ := [.agg [i c, i T, i lo, i hi], rds n a b u v, .ptr 0 0, .top, .x (.slice none 0 0), i 0, siteB c T lo hi n a b u v, i 0, .top, .top, .top, .top, .top, .top, .top, .top, .top, .top, .top, .top, .top, i (c + 1), .top, .top, .top, .top, .top, .top, .top, .top, .top, .top, .top], m := [(900, .row 40 2 0 (fun _ => [])), (0, .cells 42 [i c, i T, i lo, i hi])], nx := 901 } : Option St).getD { σ := [], m := [], nx := 0 }
noncomputable def B_hs : Code := loopBody (loopAt (bodyOf Tryz.f70) 0)
noncomputable def inv_hs (c T lo hi : Int) (n : Nat) (a b u v : Nat → Int) (k : Nat) : St := { σ := ovrS [(8, .row 900), (22, i k)] (E_hs c T lo hi n a b u v).σ, m := [(900, .row 40 2 (k) (fun k => [i (-(fwB c T lo hi n a b u v k 0)), i (fwB c T lo hi n a b u v 0 k)])), (0, .cells 42 [i c, i T, i lo, i hi])], nx := (E_hs c T lo hi n a b u v).nx }
noncomputable def out_hs (c T lo hi : Int) (n : Nat) (a b u v : Nat → Int) (k : Nat) : AEx → Option St := fun ex => match ex with
 | .exit 0 => some { σ := ovrS [(8, .row 900)] (E_hs c T lo hi n a b u v).σ, m := [(900, .row 40 2 (c.toNat + 1) (fun k => [i (-(fwB c T lo hi n a b u v k 0)), i (fwB c T lo hi n a b u v 0 k)])), (0, .cells 42 [i c, i T, i lo, i hi])], nx := (E_hs c T lo hi n a b u v).nx }
 | _ => none
noncomputable def T_hs (c T lo hi : Int) (n : Nat) (a b u v : Nat → Int) : CT := .leaf (.exit 0, ( out_hs c T lo hi n a b u v 0 (.exit 0)).getD (E_hs c T lo hi n a b u v))
noncomputable def LS_hs (c T lo hi : Int) (n : Nat) (a b u v : Nat → Int) : LSpec := normSp [(.slot 8, 900, 40, 2)] (sumL (inv_hs c T lo hi n a b u v (0)) (T_hs c T lo hi n a b u v))
theorem hs_ls (c T lo hi : Int) (n : Nat) (a b u v : Nat → Int) (pre0 : flt c T lo hi n a b u v = 0) : LSound Tryz.prog (.loop B_hs) (LS_hs c T lo hi n a b u v) := by
 refine loop_roundsN [(.slot 8, 900, 40, 2)] (G := [(105, S_bounds)]) (L := []) (SoundG.cons bounds_ok (SoundG.nil _)) mixed noLoops (X := Nat) (inv_hs c T lo hi n a b u v) (fun k => k ≤ c.toNat + 1) (fun k => c.toNat + 1 - k) (out_hs c T lo hi n a b u v) (x0 := 0) (by simp) ?_ ?_ ?_
 ·rintro k
  kernel_rfl
 ·rintro k y E h
  unfold out_hs at h
  split at h
  ·cases h; kernel_rfl
  ·cases h
 ·rintro Q hQ k hx
  refine ⟨(k + 1), ?_⟩
  have e : roundN Tryz.prog [(105, S_bounds)] [] [(.slot 8, 900, 40, 2)] B_hs (inv_hs c T lo hi n a b u v k) (inv_hs c T lo hi n a b u v ((k + 1))) (out_hs c T lo hi n a b u v k) = (let z0 := (fwM (Int.toNat c) T lo hi n a b u v); let z1 := fwB c T lo hi n a b u v; let z2 := (AV.lst 4 n fun k => [iI (a k), iI (b k), iI (u k), iI (v k)]); (Tree.branch (decide ((↑k : Int) < c + (1 : Int))) (Tree.need [(0 : Int) ≤ (↑k : Int) ∧ (↑k : Int) ≤ (10 : Int), (-1000000000000 : Int) ≤ siteF (↑(Int.toNat c) : Int) T lo hi z0 (k * 11 + 4) ∧ siteF (↑(Int.toNat c) : Int) T lo hi z0 (k * 11 + 4) ≤ (1000000000000 : Int)] (Tree.need [(k + 1) * 16 ≤ 140737488355328, ∀ (i : Nat), i < 1 → ∀ (a_2 : AV), a_2 ∈ chunk 2 [iI (-siteF (↑(Int.toNat c) : Int) T lo hi z0 (k * 11 + 4)), iI (siteF (↑(Int.toNat c) : Int) T lo hi z0 (k + 4))] i → AV.one a_2 = true] (Tree.need [inI64 ((↑k : Int) + (1 : Int))] (Tree.need [Eq1 (AV.agg [iI c, iI T, iI lo, iI hi]), z2 = AV.lst 4 n fun k => [iI (a k), iI (b k), iI (u k), iI (v k)], Eq1 (AV.ptr 0 0), Eq1 (AV.x (Value.slice none 0 0)), Eq1 (0 : Int), Eq1 (AV.roI [] 125 (fun k => siteF (↑(Int.toNat c) : Int) T lo hi z0 k) 0), Eq1 (0 : Int), Eq1 (AV.row 900), Eq1 (c + (1 : Int)), (↑k : Int) + (1 : Int) = (↑(k + 1) : Int), k + 1 = k + 1, ∀ (i : Nat), i < k + 1 → catF k (fun k => [Bo.i (-z1 k 0), Bo.i (z1 0 k)]) (chunk 2 [iI (-siteF (↑(Int.toNat c) : Int) T lo hi z0 (k * 11 + 4)), iI (siteF (↑(Int.toNat c) : Int) T lo hi z0 (k + 4))]) i = [Bo.i (-z1 i 0), Bo.i (z1 0 i)], c = c, T = T, lo = lo, hi = hi] (Tree.leaf AEx.normal))))) (Tree.need [Eq1 (AV.agg [iI c, iI T, iI lo, iI hi]), z2 = AV.lst 4 n fun k => [iI (a k), iI (b k), iI (u k), iI (v k)], Eq1 (AV.ptr 0 0), Eq1 (AV.x (Value.slice none 0 0)), Eq1 (0 : Int), Eq1 (AV.roI [] 125 (fun k => siteF (↑(Int.toNat c) : Int) T lo hi z0 k) 0), Eq1 (0 : Int), Eq1 (AV.row 900), Eq1 (c + (1 : Int)), k = Int.toNat c + 1, ∀ (i : Nat), i < Int.toNat c + 1 → [Bo.i (-z1 i 0), Bo.i (z1 0 i)] = [Bo.i (-z1 i 0), Bo.i (z1 0 i)], c = c, T = T, lo = lo, hi = hi] (Tree.leaf (AEx.exit 0))))) := by kernel_rfl
  rw [e]
  simp only [T_hs, out_hs, Tree.sat, Option.getD_some] at hQ
  have hc := (tube_bd (flt_iff.1 pre0).1).1
  have e0 : ((c.toNat : Nat) : Int) = c := by omega
  have eq : ∀ k, siteF c.toNat T lo hi (fwM c.toNat T lo hi n a b u v) k = sfB c T lo hi n a b u v k := fun _ => rfl
  simp only [Tree.sat, allP, fitP, fitL, valEq, inI64, true_and, and_true, decide_eq_true_eq, decide_eq_false_iff_not, Int.natCast_zero, Int.toNat_natCast, out_hs, eq]
  clear e
  refine ⟨fun h => ?_, fun h => ?_⟩
  ·have h2 := fwM_bd pre0 k 0
   have h3 := fwM_bd pre0 0 k
   refine ⟨⟨by omega, by rw [sfB_low]; omega⟩, ⟨by omega, fun i hi a ha => one_of ha (by simp [AV.one, Value.oneCell'])⟩, by omega, ⟨by omega, fun i hi => catF2 hi (by rw [sfB_low]) (by rw [sfB_high _ _ _ _ _ _ _ _ _ (by omega)])⟩, by omega, by omega⟩
  ·obtain rfl : k = c.toNat + 1 := by omega
   exact ⟨⟨rfl, fun _ _ => True.intro⟩, fun E hE => by cases hE; exact hQ⟩
theorem Heights_at1 (c T lo hi : Int) (n : Nat) (a b u v : Nat → Int) (pre0 : fltB c T lo hi n a b u v true = 0) (pre1 : flt c T lo hi n a b u v = 0) : SoundAt Tryz.prog 70 [.agg [i c, i T, i lo, i hi], rds n a b u v] (.tup [.lst 2 (lenB c T lo hi n a b u v) (fun k => [i (-(fwB c T lo hi n a b u v k 0)), i (fwB c T lo hi n a b u v 0 k)]), i (eB c T lo hi n a b u v)]) := by
 refine soundAt_finG (G := [(105, S_bounds)]) (X := { R := [], H := [], C := [(86, C_tried)] }) (L := [LS_hs c T lo hi n a b u v]) (Gd.go true (Gd.go false Gd.rest)) (SoundG.cons bounds_ok (SoundG.nil _)) (SoundX.ofC (SoundRL.nil _) (SoundHL.nil _) (SoundCL.cons tried_okC (SoundCL.nil _))) mixed Tryz.func70 (show Tryz.f70.body = some (bodyOf Tryz.f70) by kernel_rfl) (one_loop (fun cj hcj => by
  have e : loopAt (bodyOf Tryz.f70) 0 = some (.loop B_hs) := by kernel_rfl
  rw [e] at hcj; cases hcj
  exact (hs_ls c T lo hi n a b u v pre1).N)) (t := (let z0 := fwB c T lo hi n a b u v; (Tree.need [isRec 4 n fun k => [i (a k), i (b k), i (u k), i (v k)]] (Tree.need [decide (fltB c T lo hi n a b u v true = (0 : Int)) = true] (Tree.need [((0 : Int) != (0 : Int)) = false] (Tree.need [inI64 (c + (1 : Int))] (Tree.need [Eq1 (AV.agg [iI c, iI T, iI lo, iI hi]), (AV.lst 4 n fun k => [iI (a k), iI (b k), iI (u k), iI (v k)]) = AV.lst 4 n fun k => [iI (a k), iI (b k), iI (u k), iI (v k)], Eq1 (AV.ptr 0 0), Eq1 (AV.x (Value.slice none 0 0)), Eq1 (0 : Int), Eq1 (AV.roI [] 125 (fun k => siteF (↑(Int.toNat c) : Int) T lo hi (fwM (Int.toNat c) T lo hi n a b u v) k) 0), Eq1 (0 : Int), Eq1 (AV.row 900), Eq1 (c + (1 : Int)), (0 : Int) = (↑(0 : Nat) : Int), 0 = 0, ∀ (i : Nat), i < 0 → [] = [Bo.i (-z0 i 0), Bo.i (z0 0 i)], c = c, T = T, lo = lo, hi = hi] (Tree.leaf (RV.tup [RV.lst 2 (Int.toNat c + 1) fun k => [iI (-z0 k 0), iI (z0 0 k)], RV.x (Value.int IntKind.i64 (0 : Int))]))))))))) (by kernel_rfl) ?_
 have hc := (tube_bd (flt_iff.1 pre1).1).1
 have hl : lenB c T lo hi n a b u v = c.toNat + 1 := if_pos pre0
 have he : eB c T lo hi n a b u v = 0 := pre0
 rw [hl, he]
 simp only [Tree.sat, allP, fitP, fitL, valEq, inI64, true_and, and_true]
 (repeat' first | with_reducible apply And.intro | with_reducible intro _)
 all_goals first | exact True.intro | with_reducible rfl | omega | exact isRec4 _ _ _ _ _ | (simp [*]; done) | (rename_i hm; simp only [List.mem_cons, List.not_mem_nil, or_false] at hm; rcases hm with rfl | rfl <;> exact True.intro)
theorem Heights_at0 (c T lo hi : Int) (n : Nat) (a b u v : Nat → Int) (pre0 : fltB c T lo hi n a b u v true ≠ 0) : SoundAt Tryz.prog 70 [.agg [i c, i T, i lo, i hi], rds n a b u v] (.tup [.lst 2 (lenB c T lo hi n a b u v) (fun k => [i (-(fwB c T lo hi n a b u v k 0)), i (fwB c T lo hi n a b u v 0 k)]), i (eB c T lo hi n a b u v)]) := by
 refine soundAt_finG (G := [(105, S_bounds)]) (X := { R := [], H := [], C := [(86, C_tried)] }) (L := []) (Gd.go false (Gd.go true Gd.rest)) (SoundG.cons bounds_ok (SoundG.nil _)) (SoundX.ofC (SoundRL.nil _) (SoundHL.nil _) (SoundCL.cons tried_okC (SoundCL.nil _))) mixed Tryz.func70 (show Tryz.f70.body = some (bodyOf Tryz.f70) by kernel_rfl) noLoopsS (t := (Tree.need [isRec 4 n fun k => [i (a k), i (b k), i (u k), i (v k)]] (Tree.need [decide (fltB c T lo hi n a b u v true = (0 : Int)) = false] (Tree.need [(fltB c T lo hi n a b u v true != (0 : Int)) = true] (Tree.leaf (RV.tup [RV.x (Value.slice none 0 0), RV.x (Value.int IntKind.i64 (fltB c T lo hi n a b u v true))])))))) (by kernel_rfl) ?_
 have hl : lenB c T lo hi n a b u v = 0 := if_neg pre0
 have he : eB c T lo hi n a b u v = fltB c T lo hi n a b u v true := rfl
 rw [hl, he]
 simp only [Tree.sat, allP, fitP, fitL, valEq, inI64, true_and, and_true]
 (repeat' first | with_reducible apply And.intro | with_reducible intro _)
 all_goals first | exact True.intro | with_reducible rfl | omega | exact isRec4 _ _ _ _ _ | (simp [*]; done)
def S_Heights : Sx.Spec := fun l => match l with
 | [.agg [.x (.int .i64 c), .x (.int .i64 T), .x (.int .i64 lo), .x (.int .i64 hi)], .lst 4 n f] => some ([isRec 4 n f], .tup [.lst 2 (lenB c T lo hi n (col 0 f) (col 1 f) (col 2 f) (col 3 f)) (fun k => [i (-(fwB c T lo hi n (col 0 f) (col 1 f) (col 2 f) (col 3 f) k 0)), i (fwB c T lo hi n (col 0 f) (col 1 f) (col 2 f) (col 3 f) 0 k)]), i (eB c T lo hi n (col 0 f) (col 1 f) (col 2 f) (col 3 f))])
 | _ => none
theorem Heights_at (c T lo hi : Int) (n : Nat) (a b u v : Nat → Int) : SoundAt Tryz.prog 70 [.agg [i c, i T, i lo, i hi], rds n a b u v] (.tup [.lst 2 (lenB c T lo hi n a b u v) (fun k => [i (-(fwB c T lo hi n a b u v k 0)), i (fwB c T lo hi n a b u v 0 k)]), i (eB c T lo hi n a b u v)]) := by
 by_cases h : fltB c T lo hi n a b u v true = 0
 ·exact Heights_at1 c T lo hi n a b u v h (fltB_iff.1 h).1
 ·exact Heights_at0 c T lo hi n a b u v h
theorem Heights_ok : SoundSpec Tryz.prog 70 S_Heights := by
 refine ⟨⟨_, Tryz.func70, by kernel_rfl, by kernel_rfl⟩, ?_⟩
 intro avs ns res h hn
 unfold S_Heights at h
 split at h
 ·rename_i c T lo hi n f
  cases h
  have hr : isRec 4 n f := hn _ (List.mem_cons_self)
  exact (Heights_at c T lo hi n (col 0 f) (col 1 f) (col 2 f) (col 3 f)).same (.cons (.refl _) (.cons (.lst 4 n _ _ hr) .nil))
 ·cases h
end Go.Proofs.YtlinbkmpkcmniaaGreat.Bo
namespace Go.Proofs.YtlinbkmpkcmniaaGreat.Bo
open Go Go.Sx Go.RowKit
end Go.Proofs.YtlinbkmpkcmniaaGreat.Bo
