/- Texts of this claim, put together: CeK, CeL, CeM, CeN, CeO, CeQ, CeS, CeU, CeX, CeY, CfA, CfB, CfC, CfD, CfR, CfS, CfT -/
import Derived.Test.YtlinbkmpkcmniaaGreatMm
set_option linter.unusedSimpArgs false
set_option linter.unusedVariables false
set_option maxRecDepth 100000
namespace Go.Proofs.YtlinbkmpkcmniaaGreat
open Go Go.Sx Go.RowKit Bo
noncomputable def F_en (c T lo hi : Int) (n : Nat) (a b u v : Nat → Int) (m : Nat) (p q : Nat → Int) (pl ph dl dh : Int) (u0 u1 wi day : Int) : St → Option LSpec := fun s => match s.sv with
 | σ :: _ => match σ.getD 30 .top with
  | .x (.int _ ke) => some (needSp [n ≤ 12] (LS_en c T lo hi n a b u v m p q pl ph dl dh u0 u1 wi day ke.toNat))
  | _ => none
 | [] => none
noncomputable def H_en (c T lo hi : Int) (n : Nat) (a b u v : Nat → Int) (m : Nat) (p q : Nat → Int) (pl ph dl dh : Int) (u0 u1 wi day : Int) : HSpec := inlH Tryz.prog [(82, S_kept)] { R := [], H := [], C := [(64, C_read)] } [stSp (F_en c T lo hi n a b u v m p q pl ph dl dh u0 u1 wi day)] Tryz.f94 (bodyOf Tryz.f94)
theorem en_okH (c T lo hi : Int) (n : Nat) (a b u v : Nat → Int) (m : Nat) (p q : Nat → Int) (pl ph dl dh : Int) (u0 u1 wi day : Int) : SoundHSpec Tryz.prog 94 (H_en c T lo hi n a b u v m p q pl ph dl dh u0 u1 wi day) :=
 inl_sound (G := [(82, S_kept)]) (X := { R := [], H := [], C := [(64, C_read)] }) (L := [stSp (F_en c T lo hi n a b u v m p q pl ph dl dh u0 u1 wi day)]) (SoundG.cons kept_ok (SoundG.nil _)) (SoundX.ofC (SoundRL.nil _) (SoundHL.nil _) (SoundCL.cons read_okC (SoundCL.nil _))) mixed ⟨_, Tryz.func94, by kernel_rfl, by kernel_rfl⟩ Tryz.func94 (show Tryz.f94.body = some (bodyOf Tryz.f94) by kernel_rfl) (one_loop (fun cj hcj => by
  have e : loopAt (bodyOf Tryz.f94) 0 = some (.loop B_en) := by kernel_rfl
  rw [e] at hcj; cases hcj
  refine stSp_sound (fun s l hl => ?_)
  unfold F_en at hl
  split at hl
  ·split at hl
   ·cases hl
    exact needSp_sound (fun h => en_ls c T lo hi n a b u v m p q pl ph dl dh u0 u1 wi day _ h)
   ·cases hl
  ·cases hl))
theorem nthJ_app (l m : List Int) : ∀ k, nthJ (l ++ m) k = if k < l.length then nthJ l k else nthJ m (k - l.length) := by
 induction l with
 | nil => intro k; simp
 | cons x l ih =>
  intro k
  cases k with
  | zero => simp [nthJ]
  | succ k =>
   show nthJ (l ++ m) k = _
   rw [ih]
   simp only [List.length_cons, Nat.add_lt_add_iff_right, Nat.add_sub_add_right]
   rfl
theorem catJ1 {l : List Int} {x : Int} {j : Nat} (h : j < l.length + 1) : catF l.length (fun j => [i (nthJ l j)]) (chunk 1 [i x]) j = [i (nthJ (l ++ [x]) j)] := by
 rw [nthJ_app]
 show mergeL (decide (j < l.length)) _ (chunk 1 [i x] (j - l.length)) = _
 rw [show j - l.length = 0 by omega]
 by_cases hj : j < l.length
 ·rw [decide_eq_true hj, if_pos hj]; rfl
 ·rw [decide_eq_false hj, if_neg hj]; rfl
theorem hgL_len (c T lo hi : Int) (n : Nat) (a b u v : Nat → Int) (m : Nat) (p q : Nat → Int) (pl ph dl dh : Int) (u0 u1 wi day : Int) : ∀ k, (hgL c T lo hi n a b u v m p q pl ph dl dh u0 u1 wi day k).length ≤ k
 | 0 => Nat.le_refl _
 | k + 1 => by
  have := hgL_len c T lo hi n a b u v m p q pl ph dl dh u0 u1 wi day k
  unfold hgL
  split
  ·omega
  ·rw [List.length_append]; simp; omega
theorem pow12 {k : Nat} (h : k ≤ 12) : (1 : Int) ≤ 1 * 2 ^ k ∧ (1 : Int) * 2 ^ k ≤ 4096 := by
 rcases (show k = 0 ∨ k = 1 ∨ k = 2 ∨ k = 3 ∨ k = 4 ∨ k = 5 ∨ k = 6 ∨ k = 7 ∨ k = 8 ∨ k = 9 ∨ k = 10 ∨ k = 11 ∨ k = 12 by omega) with rfl | rfl | rfl | rfl | rfl | rfl | rfl | rfl | rfl | rfl | rfl | rfl | rfl <;> decide
theorem ha_ls (c T lo hi : Int) (n : Nat) (a b u v : Nat → Int) (m : Nat) (p q : Nat → Int) (pl ph dl dh : Int) (u0 u1 wi day : Int) (pre0 : n ≤ 12) (pre1 : usB c u0 u1 wi = true) (pre2 : 0 ≤ day ∧ day ≤ 10000) : LSound Tryz.prog (.loop B_ha) (LS_ha c T lo hi n a b u v m p q pl ph dl dh u0 u1 wi day) := by
 refine loop_roundsX [(.slot 12, 900, 3, 1)] (E := { R := [], H := [(94, (H_en c T lo hi n a b u v m p q pl ph dl dh u0 u1 wi day))] }) (G := []) (L := []) (SoundG.nil _) (SoundX.of (SoundRL.nil _) (SoundHL.cons (en_okH c T lo hi n a b u v m p q pl ph dl dh u0 u1 wi day) (SoundHL.nil _))) mixed noLoops (X := Nat) (inv_ha c T lo hi n a b u v m p q pl ph dl dh u0 u1 wi day) (fun k => k ≤ n) (fun k => n - k) (out_ha c T lo hi n a b u v m p q pl ph dl dh u0 u1 wi day) (x0 := 0) (by simp) ?_ ?_ ?_
 ·rintro k
  kernel_rfl
 ·rintro k y E h
  unfold out_ha at h
  split at h
  ·cases h; kernel_rfl
  ·cases h
 ·rintro Q hQ k hx
  refine ⟨(k + 1), ?_⟩
  have e : roundX Tryz.prog [] { R := [], H := [(94, (H_en c T lo hi n a b u v m p q pl ph dl dh u0 u1 wi day))] } [] [(.slot 12, 900, 3, 1)] B_ha (inv_ha c T lo hi n a b u v m p q pl ph dl dh u0 u1 wi day k) (inv_ha c T lo hi n a b u v m p q pl ph dl dh u0 u1 wi day ((k + 1))) (out_ha c T lo hi n a b u v m p q pl ph dl dh u0 u1 wi day k) = (let z4 := hgL c T lo hi n a b u v m p q pl ph dl dh u0 u1 wi day; let z7 := (AV.agg [iI c, iI T, iI lo, iI hi, AV.lst 4 n fun k => [iI (a k), iI (b k), iI (u k), iI (v k)], AV.lst 2 m fun k => [iI (p k), iI (q k)], iI pl, iI ph, iI dl, iI dh]); let z11 := (AV.agg [iI u0, iI u1, iI wi]); let z12 := (AV.x (Value.slice none 0 0)); let z8 := (AV.fn (Fn.func 94) [AV.ptr 33 0] []); let z2 := enF c T lo hi n a b u v m p q pl ph dl dh u0 u1 wi day; let z0 := (Tree.need [(List.length (z4 k) + 1) * 8 ≤ 140737488355328, ∀ (i : Nat), i < 1 → ∀ (a : AV), a ∈ chunk 1 [iI (↑k : Int)] i → AV.one a = true] (Tree.need [inI64 ((↑k : Int) + (1 : Int))] (Tree.need [Eq1 z7, Eq1 z11, day = day, Eq1 (AV.ptr 0 0), Eq1 (AV.ptr 1 0), Eq1 z12, Eq1 (0 : Int), Eq1 (AV.ptr 33 0), Eq1 (AV.ptr 47 0), Eq1 (0 : Int), Eq1 z8, Eq1 (AV.row 900), Eq1 (↑n : Int), (↑k : Int) + (1 : Int) = (↑(k + 1) : Int), List.length (z4 k) + 1 = List.length (z4 (k + 1)), ∀ (i : Nat), i < List.length (z4 (k + 1)) → catF (List.length (z4 k)) (fun j => [iI (nthJ (z4 k) j)]) (chunk 1 [iI (↑k : Int)]) i = [iI (nthJ (z4 (k + 1)) i)], whI n = whI n, ∀ (k : Value), enH k → enH k ∧ z2 k = z2 k, c = c, T = T, lo = lo, hi = hi, (AV.lst 4 n fun k => [iI (a k), iI (b k), iI (u k), iI (v k)]) = AV.lst 4 n fun k => [iI (a k), iI (b k), iI (u k), iI (v k)], (AV.lst 2 m fun k => [iI (p k), iI (q k)]) = AV.lst 2 m fun k => [iI (p k), iI (q k)], pl = pl, ph = ph, dl = dl, dh = dh, u0 = u0, u1 = u1, wi = wi, day = day, Eq1 (AV.mp 31), c = c, T = T, lo = lo, hi = hi, (AV.lst 4 n fun k => [iI (a k), iI (b k), iI (u k), iI (v k)]) = AV.lst 4 n fun k => [iI (a k), iI (b k), iI (u k), iI (v k)], (AV.lst 2 m fun k => [iI (p k), iI (q k)]) = AV.lst 2 m fun k => [iI (p k), iI (q k)], pl = pl, ph = ph, dl = dl, dh = dh] (Tree.leaf AEx.normal)))); let z1 := (Tree.need [inI64 ((↑k : Int) + (1 : Int))] (Tree.need [Eq1 z7, Eq1 z11, day = day, Eq1 (AV.ptr 0 0), Eq1 (AV.ptr 1 0), Eq1 z12, Eq1 (0 : Int), Eq1 (AV.ptr 33 0), Eq1 (AV.ptr 47 0), Eq1 (0 : Int), Eq1 z8, Eq1 (AV.row 900), Eq1 (↑n : Int), (↑k : Int) + (1 : Int) = (↑(k + 1) : Int), List.length (z4 k) = List.length (z4 (k + 1)), ∀ (i : Nat), i < List.length (z4 (k + 1)) → [iI (nthJ (z4 k) i)] = [iI (nthJ (z4 (k + 1)) i)], whI n = whI n, ∀ (k : Value), enH k → enH k ∧ z2 k = z2 k, c = c, T = T, lo = lo, hi = hi, (AV.lst 4 n fun k => [iI (a k), iI (b k), iI (u k), iI (v k)]) = AV.lst 4 n fun k => [iI (a k), iI (b k), iI (u k), iI (v k)], (AV.lst 2 m fun k => [iI (p k), iI (q k)]) = AV.lst 2 m fun k => [iI (p k), iI (q k)], pl = pl, ph = ph, dl = dl, dh = dh, u0 = u0, u1 = u1, wi = wi, day = day, Eq1 (AV.mp 31), c = c, T = T, lo = lo, hi = hi, (AV.lst 4 n fun k => [iI (a k), iI (b k), iI (u k), iI (v k)]) = AV.lst 4 n fun k => [iI (a k), iI (b k), iI (u k), iI (v k)], (AV.lst 2 m fun k => [iI (p k), iI (q k)]) = AV.lst 2 m fun k => [iI (p k), iI (q k)], pl = pl, ph = ph, dl = dl, dh = dh] (Tree.leaf AEx.normal))); let z10 := (List.length (selL (buI n k) n)); let z3 := (wkA c T lo hi z10 (sg a (selL (buI n k) n)) (sg b (selL (buI n k) n)) (sg u (selL (buI n k) n)) (sg v (selL (buI n k) n)) m p q pl ph dl dh); let z5 := (IntKind.wrap IntKind.i64 (↑(BitVec.toNat (BitVec.ofInt 64 (whI n) &&& ~~~BitVec.ofInt 64 ((1 : Int) * (2 : Int) ^ k))) : Int)); let z6 := (Value.agg #[Value.int IntKind.i64 (buI n k)]); let z9 := (Tree.need [MapKey Tryz.prog 198 enH z6 (Value.bool false), enH z6, Value.bool false = z2 z6] z0); let z13 := (Value.agg #[Value.int IntKind.i64 z5]); (Tree.branch (decide ((↑k : Int) < (↑n : Int))) (Tree.need [(0 : Int) ≤ (↑k : Int) ∧ (↑k : Int) ≤ (64 : Int), inI64 ((1 : Int) * (2 : Int) ^ k)] (Tree.need [MapKey Tryz.prog 198 enH z13 (Value.bool false)] (Tree.may (enH z13) (Tree.branch (!enB c T lo hi n a b u v m p q pl ph dl dh u0 u1 wi day (keyI z13)) z0 z1) (Tree.need [n ≤ 12] (Tree.need [Eq1 (AV.ptr 33 0), AV.agg [iI z5] = AV.agg [iI (buI n k)], Eq1 (AV.ptr 911 0), Eq1 (AV.lit false), false = false, Eq1 (AV.lit false), Eq1 (AV.ptr 919 0), (AV.lst 4 n fun k => [iI (a k), iI (b k), iI (u k), iI (v k)]) = AV.lst 4 n fun k => [iI (a k), iI (b k), iI (u k), iI (v k)], Eq1 (↑n : Int), (0 : Int) = (↑(0 : Nat) : Int), 0 = List.length (selL (buI n k) 0), ∀ (i : Nat), i < List.length (selL (buI n k) 0) → [] = [iI (sg a (selL (buI n k) 0) i), iI (sg b (selL (buI n k) 0) i), iI (sg u (selL (buI n k) 0) i), iI (sg v (selL (buI n k) 0) i)], c = c, T = T, lo = lo, hi = hi, Eq1 (AV.row 950), (AV.lst 2 m fun k => [iI (p k), iI (q k)]) = AV.lst 2 m fun k => [iI (p k), iI (q k)], pl = pl, ph = ph, dl = dl, dh = dh, IntKind.wrap IntKind.i64 (↑(BitVec.toNat (BitVec.ofInt 64 (whI n) &&& ~~~BitVec.ofInt 64 ((1 : Int) * (2 : Int) ^ k))) : Int) = buI n k, Eq1 (List.length (z4 k)), ∀ (i : Nat), i < List.length (z4 k) → [iI (nthJ (z4 k) i)] = [iI (nthJ (z4 k) i)], whI n = whI n, ∀ (k : Value), enH k → enH k ∧ z2 k = z2 k, c = c, T = T, lo = lo, hi = hi, (AV.lst 4 n fun k => [iI (a k), iI (b k), iI (u k), iI (v k)]) = AV.lst 4 n fun k => [iI (a k), iI (b k), iI (u k), iI (v k)], (AV.lst 2 m fun k => [iI (p k), iI (q k)]) = AV.lst 2 m fun k => [iI (p k), iI (q k)], pl = pl, ph = ph, dl = dl, dh = dh, u0 = u0, u1 = u1, wi = wi, day = day, Eq1 (AV.mp 31), c = c, T = T, lo = lo, hi = hi, (AV.lst 4 n fun k => [iI (a k), iI (b k), iI (u k), iI (v k)]) = AV.lst 4 n fun k => [iI (a k), iI (b k), iI (u k), iI (v k)], (AV.lst 2 m fun k => [iI (p k), iI (q k)]) = AV.lst 2 m fun k => [iI (p k), iI (q k)], pl = pl, ph = ph, dl = dl, dh = dh, Eq1 z7, Eq1 z11, day = day, Eq1 (AV.ptr 0 0), Eq1 (AV.ptr 1 0), Eq1 z12, Eq1 (0 : Int), Eq1 (AV.ptr 33 0), Eq1 (AV.ptr 47 0), Eq1 (0 : Int), Eq1 z8, Eq1 (AV.row 900), Eq1 (↑k : Int), Eq1 (↑n : Int), Eq1 (↑k : Int), Eq1 (AV.lit true), Eq1 (↑k : Int), Eq1 z8, Eq1 (AV.ptr 47 0), whI n = whI n, Eq1 (↑k : Int), Eq1 ((1 : Int) * (2 : Int) ^ k), IntKind.wrap IntKind.i64 (↑(BitVec.toNat (BitVec.ofInt 64 (whI n) &&& ~~~BitVec.ofInt 64 ((1 : Int) * (2 : Int) ^ k))) : Int) = buI n k, AV.agg [iI z5] = AV.agg [iI (buI n k)]] (Tree.need [isRec 4 z10 fun q => [i (sg a (selL (buI n k) n) q), i (sg b (selL (buI n k) n) q), i (sg u (selL (buI n k) n) q), i (sg v (selL (buI n k) n) q)], isRec 2 m fun k => [Pt.i (p k), Pt.i (q k)]] (Tree.branch (decide (rdE c T lo hi z10 (sg a (selL (buI n k) n)) (sg b (selL (buI n k) n)) (sg u (selL (buI n k) n)) (sg v (selL (buI n k) n)) m p q pl ph dl dh = (0 : Int))) (Tree.branch ((0 : Int) == (0 : Int)) (Tree.need [drB z3, bdB z3, (1 : Int) ≤ c ∧ c ≤ (10 : Int), (0 : Int) ≤ u0 ∧ u0 ≤ u1 ∧ u1 ≤ (10 : Int), (0 : Int) ≤ wi ∧ wi ≤ (1000000 : Int), (0 : Int) ≤ day ∧ day ≤ (100000 : Int)] (Tree.need [MapKey Tryz.prog 198 enH z6 (Value.bool false), enH z6, Value.bool (keB c z3 u0 u1 wi day) = z2 z6] (Tree.branch (!keB c z3 u0 u1 wi day) z0 z1))) z9) (Tree.branch (rdE c T lo hi z10 (sg a (selL (buI n k) n)) (sg b (selL (buI n k) n)) (sg u (selL (buI n k) n)) (sg v (selL (buI n k) n)) m p q pl ph dl dh == (0 : Int)) Tree.fail z9)))))))) (Tree.need [Eq1 z7, Eq1 z11, day = day, Eq1 (AV.ptr 0 0), Eq1 (AV.ptr 1 0), Eq1 z12, Eq1 (0 : Int), Eq1 (AV.ptr 33 0), Eq1 (AV.ptr 47 0), Eq1 (0 : Int), Eq1 z8, Eq1 (AV.row 900), Eq1 (↑n : Int), List.length (z4 k) = List.length (z4 n), ∀ (i : Nat), i < List.length (z4 n) → [iI (nthJ (z4 k) i)] = [iI (nthJ (z4 n) i)], whI n = whI n, ∀ (k : Value), enH k → enH k ∧ z2 k = z2 k, c = c, T = T, lo = lo, hi = hi, (AV.lst 4 n fun k => [iI (a k), iI (b k), iI (u k), iI (v k)]) = AV.lst 4 n fun k => [iI (a k), iI (b k), iI (u k), iI (v k)], (AV.lst 2 m fun k => [iI (p k), iI (q k)]) = AV.lst 2 m fun k => [iI (p k), iI (q k)], pl = pl, ph = ph, dl = dl, dh = dh, u0 = u0, u1 = u1, wi = wi, day = day, Eq1 (AV.mp 31), c = c, T = T, lo = lo, hi = hi, (AV.lst 4 n fun k => [iI (a k), iI (b k), iI (u k), iI (v k)]) = AV.lst 4 n fun k => [iI (a k), iI (b k), iI (u k), iI (v k)], (AV.lst 2 m fun k => [iI (p k), iI (q k)]) = AV.lst 2 m fun k => [iI (p k), iI (q k)], pl = pl, ph = ph, dl = dl, dh = dh] (Tree.leaf (AEx.exit 0))))) := by kernel_rfl
  rw [e]
  simp only [T_ha, out_ha, Tree.sat, Option.getD_some] at hQ
  simp only [Tree.sat, allP, fitP, fitL, valEq, inI64, true_and, and_true, decide_eq_true_eq, decide_eq_false_iff_not, Int.toNat_natCast]
  clear e
  have eb : IntKind.i64.wrap ((BitVec.ofInt 64 (whI n) &&& ~~~BitVec.ofInt 64 (1 * 2 ^ k)).toNat : Int) = buI n k := rfl
  have ek : ∀ x : Int, keyI (Value.agg #[Value.int IntKind.i64 x]) = x := fun _ => rfl
  simp only [eb, ek]
  have hg : hgL c T lo hi n a b u v m p q pl ph dl dh u0 u1 wi day (k + 1) = if enB c T lo hi n a b u v m p q pl ph dl dh u0 u1 wi day (buI n k) then hgL c T lo hi n a b u v m p q pl ph dl dh u0 u1 wi day k else hgL c T lo hi n a b u v m p q pl ph dl dh u0 u1 wi day k ++ [(k : Int)] := rfl
  have hl := hgL_len c T lo hi n a b u v m p q pl ph dl dh u0 u1 wi day k
  have hc1 : ∀ x : Int, ∀ (j : Nat), j < 1 → ∀ y, y ∈ chunk 1 [iI x] j → AV.one y = true := fun x j _ y hy => one_of hy (by simp [AV.one, Value.oneCell'])
  have hE : enB c T lo hi n a b u v m p q pl ph dl dh u0 u1 wi day (buI n k) = (decide (rdE c T lo hi (selL (buI n k) n).length (sg a (selL (buI n k) n)) (sg b (selL (buI n k) n)) (sg u (selL (buI n k) n)) (sg v (selL (buI n k) n)) m p q pl ph dl dh = 0) && keB c (wkA c T lo hi (selL (buI n k) n).length (sg a (selL (buI n k) n)) (sg b (selL (buI n k) n)) (sg u (selL (buI n k) n)) (sg v (selL (buI n k) n)) m p q pl ph dl dh) u0 u1 wi day) := rfl
  have hF : enF c T lo hi n a b u v m p q pl ph dl dh u0 u1 wi day (Value.agg #[Value.int IntKind.i64 (buI n k)]) = .bool (enB c T lo hi n a b u v m p q pl ph dl dh u0 u1 wi day (buI n k)) := rfl
  have hH : enH (Value.agg #[Value.int IntKind.i64 (buI n k)]) := ⟨_, rfl⟩
  have mk := mapKey_en (buI n k)
  rw [hF]
  generalize selL (buI n k) n = L at hE ⊢
  generalize hgL c T lo hi n a b u v m p q pl ph dl dh u0 u1 wi day (k + 1) = H' at hg ⊢
  generalize hHk : hgL c T lo hi n a b u v m p q pl ph dl dh u0 u1 wi day k = H at hl hg ⊢
  generalize enB c T lo hi n a b u v m p q pl ph dl dh u0 u1 wi day (buI n k) = B at hE hg ⊢
  have yes : B = true → H' = H := fun h => by rw [hg, if_pos h]
  have no : B = false → H' = H ++ [(k : Int)] := fun h => by rw [hg, if_neg (by rw [h]; simp)]
  have hu := usB_iff.1 pre1
  refine ⟨fun h => ⟨⟨by omega, ?_⟩, mk, fun _ => ⟨fun h2 => ?_, fun h2 => ?_⟩, pre0, ⟨trivial, rfl, rfl, fun j hj => absurd hj (Nat.not_lt_zero _), trivial, fun _ _ => trivial, fun _ h => h, trivial, trivial⟩, ⟨Bo.isRec4 _ _ _ _ _, Pt.isRec2 _ _ _⟩, fun h3 => ⟨fun _ => ⟨?_, ⟨mk, hH, ?_⟩, fun h2 => ?_, fun h2 => ?_⟩, fun h2 => by simp at h2⟩, fun h3 => ⟨fun h2 => absurd (by simpa using h2) h3, fun _ => ⟨⟨mk, hH, ?_⟩, ?_⟩⟩⟩, fun h => ?_⟩
  ·have := pow12 (k := k) (by omega)
   omega
  ·rw [no (by simpa using h2), List.length_append]
   (repeat' first | with_reducible apply And.intro | with_reducible intro _)
   all_goals first | exact True.intro | omega | with_reducible rfl | exact hc1 _ _ (by assumption) _ (by assumption) | exact catJ1 (by assumption) | assumption | rfl
  ·rw [yes (by simpa using h2)]
   (repeat' first | with_reducible apply And.intro | with_reducible intro _)
   all_goals first | exact True.intro | omega | with_reducible rfl | exact hc1 _ _ (by assumption) _ (by assumption) | exact catJ1 (by assumption) | assumption | rfl
  ·have hw := wk_ok h3
   exact ⟨hw.1, hw.2.1, hw.2.2.1, by omega, by omega, by omega⟩
  ·rw [hE, decide_eq_true h3]
   rfl
  ·have hB : B = false := by
    rw [hE, decide_eq_true h3]
    simpa using h2
   rw [no hB, List.length_append]
   (repeat' first | with_reducible apply And.intro | with_reducible intro _)
   all_goals first | exact True.intro | omega | with_reducible rfl | exact hc1 _ _ (by assumption) _ (by assumption) | exact catJ1 (by assumption) | assumption | rfl
  ·have hB : B = true := by
    rw [hE, decide_eq_true h3]
    simpa using h2
   rw [yes hB]
   (repeat' first | with_reducible apply And.intro | with_reducible intro _)
   all_goals first | exact True.intro | omega | with_reducible rfl | exact hc1 _ _ (by assumption) _ (by assumption) | exact catJ1 (by assumption) | assumption | rfl
  ·rw [hE, decide_eq_false h3]
   rfl
  ·have hB : B = false := by
    rw [hE, decide_eq_false h3]
    rfl
   rw [no hB, List.length_append]
   (repeat' first | with_reducible apply And.intro | with_reducible intro _)
   all_goals first | exact True.intro | omega | with_reducible rfl | exact hc1 _ _ (by assumption) _ (by assumption) | exact catJ1 (by assumption) | assumption | rfl
  ·obtain rfl : k = n := by omega
   subst hHk
   (repeat' first | with_reducible apply And.intro | with_reducible intro _)
   all_goals first | exact True.intro | omega | with_reducible rfl | (rename_i E hE; cases hE; exact hQ) | assumption | rfl
def hgE (c T lo hi : Int) (n : Nat) (a b u v : Nat → Int) (m : Nat) (p q : Nat → Int) (pl ph dl dh : Int) (u0 u1 wi day : Int) : Int := if asE c T lo hi n a b u v m p q pl ph dl dh u0 u1 wi day = 0 then (if keB c (wkA c T lo hi n a b u v m p q pl ph dl dh) u0 u1 wi day then 0 else 10) else asE c T lo hi n a b u v m p q pl ph dl dh u0 u1 wi day
def hgR (c T lo hi : Int) (n : Nat) (a b u v : Nat → Int) (m : Nat) (p q : Nat → Int) (pl ph dl dh : Int) (u0 u1 wi day : Int) : List Int := if hgE c T lo hi n a b u v m p q pl ph dl dh u0 u1 wi day = 0 then hgL c T lo hi n a b u v m p q pl ph dl dh u0 u1 wi day n else []
theorem Hangs_at (c T lo hi : Int) (n : Nat) (a b u v : Nat → Int) (m : Nat) (p q : Nat → Int) (pl ph dl dh : Int) (u0 u1 wi day : Int) : SoundAt Tryz.prog 54 [.agg [i c, i T, i lo, i hi, rds n a b u v, Pt.scs m p q, i pl, i ph, i dl, i dh], .agg [i u0, i u1, i wi], i day] (.tup [.lst 1 (hgR c T lo hi n a b u v m p q pl ph dl dh u0 u1 wi day).length (fun j => [i (nthJ (hgR c T lo hi n a b u v m p q pl ph dl dh u0 u1 wi day) j)]), i (hgE c T lo hi n a b u v m p q pl ph dl dh u0 u1 wi day)]) := by
 refine soundAt_finX (G := []) (X := { R := [], H := [(93, H_trial), (94, (H_en c T lo hi n a b u v m p q pl ph dl dh u0 u1 wi day))] }) (L := [needSp [n ≤ 12, usB c u0 u1 wi = true, 0 ≤ day ∧ day ≤ 10000] (LS_ha c T lo hi n a b u v m p q pl ph dl dh u0 u1 wi day)]) (SoundG.nil _) (SoundX.of (SoundRL.nil _) (SoundHL.cons trial_okH (SoundHL.cons (en_okH c T lo hi n a b u v m p q pl ph dl dh u0 u1 wi day) (SoundHL.nil _)))) mixed Tryz.func54 (show Tryz.f54.body = some (bodyOf Tryz.f54) by kernel_rfl) (one_loop (fun cj hcj => by
  have e : loopAt (bodyOf Tryz.f54) 0 = some (.loop B_ha) := by kernel_rfl
  rw [e] at hcj; cases hcj
  exact (needSp_sound (ps := [n ≤ 12, usB c u0 u1 wi = true, 0 ≤ day ∧ day ≤ 10000]) (fun h => ha_ls c T lo hi n a b u v m p q pl ph dl dh u0 u1 wi day h.1 h.2.1 h.2.2)).N)) (t := (let z9 := (hgL c T lo hi n a b u v m p q pl ph dl dh u0 u1 wi day n); let z0 := (Tree.leaf (RV.tup [RV.lst 1 (List.length z9) fun j => [iI (nthJ z9 j)], RV.x (Value.int IntKind.i64 (0 : Int))])); let z1 := (hgL c T lo hi n a b u v m p q pl ph dl dh u0 u1 wi day 0); let z2 := (AV.agg [iI c, iI T, iI lo, iI hi, AV.lst 4 n fun k => [iI (a k), iI (b k), iI (u k), iI (v k)], AV.lst 2 m fun k => [iI (p k), iI (q k)], iI pl, iI ph, iI dl, iI dh]); let z3 := asE c T lo hi n a b u v m p q pl ph dl dh u0 u1 wi day; let z4 := (AV.lst 4 n fun k => [iI (a k), iI (b k), iI (u k), iI (v k)]); let z5 := (Tree.leaf (RV.tup [RV.x (Value.slice none 0 0), RV.x (Value.int IntKind.i64 (0 : Int))])); let z6 := (AV.agg [iI u0, iI u1, iI wi]); let z7 := (wkA c T lo hi n a b u v m p q pl ph dl dh); let z8 := (AV.x (Value.slice none 0 0)); (Tree.need [isRec 4 n fun k => [Bo.i (a k), Bo.i (b k), Bo.i (u k), Bo.i (v k)], isRec 2 m fun k => [Pt.i (p k), Pt.i (q k)]] (Tree.branch (decide (z3 = (0 : Int))) (Tree.branch ((0 : Int) != (0 : Int)) (Tree.branch ((0 : Int) != (0 : Int)) z5 (Tree.need [n ≤ 12, usB c u0 u1 wi = true, (0 : Int) ≤ day ∧ day ≤ (10000 : Int)] (Tree.need [Eq1 z2, Eq1 z6, day = day, Eq1 (AV.ptr 0 0), Eq1 (AV.ptr 1 0), Eq1 z8, Eq1 (0 : Int), AV.x (Value.pointer none) = AV.ptr 33 0, AV.ptr 32 0 = AV.ptr 47 0, Eq1 (0 : Int), AV.fn (Fn.func 94) [AV.x (Value.pointer none)] [] = AV.fn (Fn.func 94) [AV.ptr 33 0] [], Eq1 (AV.row 900), Eq1 (↑n : Int), (0 : Int) = (↑(0 : Nat) : Int), 0 = List.length z1, ∀ (i : Nat), i < List.length z1 → [] = [iI (nthJ z1 i)], False, False, False, c = c, T = T, lo = lo, hi = hi, z4 = AV.lst 4 n fun k => [iI (a k), iI (b k), iI (u k), iI (v k)], (AV.lst 2 m fun k => [iI (p k), iI (q k)]) = AV.lst 2 m fun k => [iI (p k), iI (q k)], pl = pl, ph = ph, dl = dl, dh = dh] z0))) (Tree.need [drB z7, bdB z7, (1 : Int) ≤ c ∧ c ≤ (10 : Int), (0 : Int) ≤ u0 ∧ u0 ≤ u1 ∧ u1 ≤ (10 : Int), (0 : Int) ≤ wi ∧ wi ≤ (1000000 : Int), (0 : Int) ≤ day ∧ day ≤ (100000 : Int)] (Tree.branch (!keB c z7 u0 u1 wi day) (Tree.branch ((10 : Int) != (0 : Int)) (Tree.leaf (RV.tup [RV.x (Value.slice none 0 0), RV.x (Value.int IntKind.i64 (10 : Int))])) (Tree.need [n ≤ 12, usB c u0 u1 wi = true, (0 : Int) ≤ day ∧ day ≤ (10000 : Int)] (Tree.need [Eq1 z2, Eq1 z6, day = day, Eq1 (AV.ptr 0 0), Eq1 (AV.ptr 1 0), Eq1 z8, Eq1 (0 : Int), AV.x (Value.pointer none) = AV.ptr 33 0, AV.ptr 36 0 = AV.ptr 47 0, (10 : Int) = (0 : Int), AV.fn (Fn.func 94) [AV.x (Value.pointer none)] [] = AV.fn (Fn.func 94) [AV.ptr 33 0] [], Eq1 (AV.row 900), Eq1 (↑n : Int), (0 : Int) = (↑(0 : Nat) : Int), 0 = List.length z1, ∀ (i : Nat), i < List.length z1 → [] = [iI (nthJ z1 i)], False, False, False, c = c, T = T, lo = lo, hi = hi, z4 = AV.lst 4 n fun k => [iI (a k), iI (b k), iI (u k), iI (v k)], (AV.lst 2 m fun k => [iI (p k), iI (q k)]) = AV.lst 2 m fun k => [iI (p k), iI (q k)], pl = pl, ph = ph, dl = dl, dh = dh] z0))) (Tree.need [(0 : Int) ≤ (↑n : Int) ∧ (↑n : Int) ≤ (64 : Int), inI64 ((1 : Int) * (2 : Int) ^ n)] (Tree.need [inI64 ((1 : Int) * (2 : Int) ^ n - (1 : Int))] (Tree.branch ((0 : Int) != (0 : Int)) z5 (Tree.need [n ≤ 12, usB c u0 u1 wi = true, (0 : Int) ≤ day ∧ day ≤ (10000 : Int)] (Tree.need [Eq1 z2, Eq1 z6, day = day, Eq1 (AV.ptr 0 0), Eq1 (AV.ptr 1 0), Eq1 z8, Eq1 (0 : Int), Eq1 (AV.ptr 33 0), Eq1 (AV.ptr 47 0), Eq1 (0 : Int), Eq1 (AV.fn (Fn.func 94) [AV.ptr 33 0] []), Eq1 (AV.row 900), Eq1 (↑n : Int), (0 : Int) = (↑(0 : Nat) : Int), 0 = List.length z1, ∀ (i : Nat), i < List.length z1 → [] = [iI (nthJ z1 i)], (1 : Int) * (2 : Int) ^ n - (1 : Int) = whI n, ∀ (k : Value), False → enH k ∧ k = enF c T lo hi n a b u v m p q pl ph dl dh u0 u1 wi day k, c = c, T = T, lo = lo, hi = hi, z4 = AV.lst 4 n fun k => [iI (a k), iI (b k), iI (u k), iI (v k)], (AV.lst 2 m fun k => [iI (p k), iI (q k)]) = AV.lst 2 m fun k => [iI (p k), iI (q k)], pl = pl, ph = ph, dl = dl, dh = dh, u0 = u0, u1 = u1, wi = wi, day = day, Eq1 (AV.mp 31), c = c, T = T, lo = lo, hi = hi, z4 = AV.lst 4 n fun k => [iI (a k), iI (b k), iI (u k), iI (v k)], (AV.lst 2 m fun k => [iI (p k), iI (q k)]) = AV.lst 2 m fun k => [iI (p k), iI (q k)], pl = pl, ph = ph, dl = dl, dh = dh] z0)))))))) (Tree.branch (z3 != (0 : Int)) (Tree.branch (z3 != (0 : Int)) (Tree.leaf (RV.tup [RV.x (Value.slice none 0 0), RV.x (Value.int IntKind.i64 (z3))])) (Tree.need [n ≤ 12, usB c u0 u1 wi = true, (0 : Int) ≤ day ∧ day ≤ (10000 : Int)] (Tree.need [Eq1 z2, Eq1 z6, day = day, Eq1 (AV.ptr 0 0), Eq1 (AV.ptr 1 0), Eq1 z8, Eq1 (0 : Int), AV.x (Value.pointer none) = AV.ptr 33 0, AV.ptr 32 0 = AV.ptr 47 0, z3 = (0 : Int), AV.fn (Fn.func 94) [AV.x (Value.pointer none)] [] = AV.fn (Fn.func 94) [AV.ptr 33 0] [], Eq1 (AV.row 900), Eq1 (↑n : Int), (0 : Int) = (↑(0 : Nat) : Int), 0 = List.length z1, ∀ (i : Nat), i < List.length z1 → [] = [iI (nthJ z1 i)], False, False, False, c = c, T = T, lo = lo, hi = hi, z4 = AV.lst 4 n fun k => [iI (a k), iI (b k), iI (u k), iI (v k)], (AV.lst 2 m fun k => [iI (p k), iI (q k)]) = AV.lst 2 m fun k => [iI (p k), iI (q k)], pl = pl, ph = ph, dl = dl, dh = dh] z0))) Tree.fail))))) (by kernel_rfl) ?_
 simp only [Tree.sat, allP, fitP, fitL, valEq, true_and, and_true, decide_eq_true_eq, decide_eq_false_iff_not, bne_iff_ne, ne_eq, bne_eq_false_iff_eq, beq_iff_eq, beq_eq_false_iff_ne, Bool.not_eq_true', Bool.not_eq_false', not_true_eq_false, false_imp_iff, true_imp_iff]
 have ISR : (isRec 4 n fun k => [Bo.i (a k), Bo.i (b k), Bo.i (u k), Bo.i (v k)]) ∧ isRec 2 m fun k => [Pt.i (p k), Pt.i (q k)] := ⟨Bo.isRec4 n a b u v, Pt.isRec2 m p q⟩
 have eR : hgE c T lo hi n a b u v m p q pl ph dl dh u0 u1 wi day = 0 → hgR c T lo hi n a b u v m p q pl ph dl dh u0 u1 wi day = hgL c T lo hi n a b u v m p q pl ph dl dh u0 u1 wi day n := fun h => if_pos h
 have eN : ∀ k : Int, hgE c T lo hi n a b u v m p q pl ph dl dh u0 u1 wi day = k → k ≠ 0 → (isNil (Value.slice none 0 0) ∧ (hgR c T lo hi n a b u v m p q pl ph dl dh u0 u1 wi day).length = 0) ∧ k = hgE c T lo hi n a b u v m p q pl ph dl dh u0 u1 wi day := fun k h hk => by
  refine ⟨⟨by trivial, ?_⟩, h.symm⟩
  unfold hgR
  rw [if_neg (by rw [h]; exact hk)]
  rfl
 refine ⟨ISR, fun h => ⟨?_, fun h' => ⟨fun _ => eN 10 ?_ (by decide), fun h2 => absurd h2 (by decide)⟩, fun h' => ?_⟩, fun h => ⟨fun _ => ⟨fun _ => eN _ (if_neg h) h, fun h2 => absurd h2 h⟩, fun h2 => h h2⟩⟩
 ·obtain ⟨h1, h2, h3⟩ := asE_0 h
  have hw := wk_ok h1
  have hu := usB_iff.1 h2
  exact ⟨hw.1, hw.2.1, hw.2.2.1, by omega, by omega, by omega⟩
 ·unfold hgE
  rw [if_pos h, h']
  rfl
 ·obtain ⟨h1, h2, h3⟩ := asE_0 h
  have hn := (rdE_0 h1).1
  have hp := pow12 hn
  have h0 : hgE c T lo hi n a b u v m p q pl ph dl dh u0 u1 wi day = 0 := by
   unfold hgE
   rw [if_pos h, h']
   rfl
  rw [eR h0, h0]
  refine ⟨⟨by omega, ?_⟩, ?_, ⟨hn, h2, h3⟩, ⟨rfl, rfl, fun j hj => absurd hj (Nat.not_lt_zero _), rfl, fun _ => trivial⟩, ⟨rfl, fun j hj => ⟨rfl, fun x hx => ?_⟩⟩, rfl⟩
  ·simp only [inI64] at *
   omega
  ·simp only [inI64] at *
   omega
  ·cases List.mem_singleton.1 hx
   exact True.intro
def S_Hangs : Sx.Spec := fun l => match l with
 | [.agg [.x (.int .i64 c), .x (.int .i64 T), .x (.int .i64 lo), .x (.int .i64 hi), .lst 4 n fr, .lst 2 m ft, .x (.int .i64 pl), .x (.int .i64 ph), .x (.int .i64 dl), .x (.int .i64 dh)], .agg [.x (.int .i64 u0), .x (.int .i64 u1), .x (.int .i64 wi)], .x (.int .i64 day)] => some ([isRec 4 n fr, isRec 2 m ft], .tup [.lst 1 (hgR c T lo hi n (col 0 fr) (col 1 fr) (col 2 fr) (col 3 fr) m (Pt.col 0 ft) (Pt.col 1 ft) pl ph dl dh u0 u1 wi day).length (fun j => [i (nthJ (hgR c T lo hi n (col 0 fr) (col 1 fr) (col 2 fr) (col 3 fr) m (Pt.col 0 ft) (Pt.col 1 ft) pl ph dl dh u0 u1 wi day) j)]), i (hgE c T lo hi n (col 0 fr) (col 1 fr) (col 2 fr) (col 3 fr) m (Pt.col 0 ft) (Pt.col 1 ft) pl ph dl dh u0 u1 wi day)])
 | _ => none
theorem Hangs_ok : SoundSpec Tryz.prog 54 S_Hangs := by
 refine ⟨⟨_, Tryz.func54, by kernel_rfl, by kernel_rfl⟩, ?_⟩
 intro avs ns res h hn
 unfold S_Hangs at h
 split at h
 ·cases h
  have hr : isRec 4 _ _ := hn _ List.mem_cons_self
  have ht : isRec 2 _ _ := hn _ (List.mem_cons_of_mem _ List.mem_cons_self)
  exact (Hangs_at _ _ _ _ _ _ _ _ _ _ _ _ _ _ _ _ _ _ _ _ ).same (.cons (Sames.same (.cons (.refl _) (.cons (.refl _) (.cons (.refl _) (.cons (.refl _) (.cons (.lst 4 _ _ _ hr) (.cons (.lst 2 _ _ _ ht) (.cons (.refl _) (.cons (.refl _) (.cons (.refl _) (.cons (.refl _) .nil))))))))))) (.cons (.refl _) (.cons (.refl _) .nil)))
 ·cases h
end Go.Proofs.YtlinbkmpkcmniaaGreat
namespace Go.Proofs.YtlinbkmpkcmniaaGreat
open Go Go.Sx Go.RowKit Bo
def S_between : Sx.Spec := fun l => match l with
 | [.x (.int .i64 a), .x (.int .i64 b)] => some ([], .agg [i a, i b])
 | _ => none
theorem between_at (a b : Int) : SoundAt Tryz.prog 38 [i a, i b] (.agg [i a, i b]) := by
 refine soundAt_fin (G := []) (L := []) (SoundG.nil _) mixed Tryz.func38 (show Tryz.f38.body = some (bodyOf Tryz.f38) by kernel_rfl) noLoops (t := (Tree.leaf (RV.agg [RV.x (Value.int IntKind.i64 a), RV.x (Value.int IntKind.i64 b)]))) (by kernel_rfl) ?_
 simp only [Tree.sat, allP, fitP, fitL, valEq, inI64, true_and, and_true]
 all_goals first | omega | grind
theorem between_ok : SoundSpec Tryz.prog 38 S_between := by
 refine ⟨⟨_, Tryz.func38, by kernel_rfl, by kernel_rfl⟩, ?_⟩
 intro avs ns res h hn
 unfold S_between at h
 split at h
 ·cases h
  exact between_at _ _
 ·cases h
def S_whole : Sx.Spec := fun l => match l with
 | [.x (.int .i64 w)] => some ([], .agg [i 0, i 4, i w])
 | _ => none
theorem whole_at (w : Int) : SoundAt Tryz.prog 63 [i w] (.agg [i 0, i 4, i w]) := by
 refine soundAt_fin (G := []) (L := []) (SoundG.nil _) mixed Tryz.func63 (show Tryz.f63.body = some (bodyOf Tryz.f63) by kernel_rfl) noLoops (t := (Tree.leaf (RV.agg [RV.x (Value.int IntKind.i64 (0 : Int)), RV.x (Value.int IntKind.i64 (4 : Int)), RV.x (Value.int IntKind.i64 w)]))) (by kernel_rfl) ?_
 simp only [Tree.sat, allP, fitP, fitL, valEq, inI64, true_and, and_true]
 all_goals first | omega | grind
theorem whole_ok : SoundSpec Tryz.prog 63 S_whole := by
 refine ⟨⟨_, Tryz.func63, by kernel_rfl, by kernel_rfl⟩, ?_⟩
 intro avs ns res h hn
 unfold S_whole at h
 split at h
 ·cases h
  exact whole_at _
 ·cases h
def S_glass : Sx.Spec := fun l => match l with
 | [] => some ([], .agg [i 4, i 100, i 20, i 30, .lst 4 2 (chunk 4 [i 0, i 1, i 40, i 40, i 2, i 3, i 48, i 50]), .lst 2 3 (chunk 2 [i 720, i 985, i 760, i 1000, i 800, i 1014]), i 760, i 760, i 1, i 3])
 | _ => none
theorem glass_at  : SoundAt Tryz.prog 62 [] (.agg [i 4, i 100, i 20, i 30, .lst 4 2 (chunk 4 [i 0, i 1, i 40, i 40, i 2, i 3, i 48, i 50]), .lst 2 3 (chunk 2 [i 720, i 985, i 760, i 1000, i 800, i 1014]), i 760, i 760, i 1, i 3]) := by
 refine soundAt_fin (G := [(38, S_between)]) (L := []) (SoundG.cons between_ok (SoundG.nil _)) mixed Tryz.func62 (show Tryz.f62.body = some (bodyOf Tryz.f62) by kernel_rfl) noLoops (t := (Tree.leaf (RV.agg [RV.x (Value.int IntKind.i64 (4 : Int)), RV.x (Value.int IntKind.i64 (100 : Int)), RV.x (Value.int IntKind.i64 (20 : Int)), RV.x (Value.int IntKind.i64 (30 : Int)), RV.lst 4 2 (chunk 4 [iI (0 : Int), iI (1 : Int), iI (40 : Int), iI (40 : Int), iI (2 : Int), iI (3 : Int), iI (48 : Int), iI (50 : Int)]), RV.lst 2 3 (chunk 2 [iI (720 : Int), iI (985 : Int), iI (760 : Int), iI (1000 : Int), iI (800 : Int), iI (1014 : Int)]), RV.x (Value.int IntKind.i64 (760 : Int)), RV.x (Value.int IntKind.i64 (760 : Int)), RV.x (Value.int IntKind.i64 (1 : Int)), RV.x (Value.int IntKind.i64 (3 : Int))]))) (by kernel_rfl) ?_
 simp only [Tree.sat, allP, fitP, fitL, valEq, true_and, and_true]
 refine ⟨fun _ _ x hm => ?_, fun _ _ x hm => ?_⟩
 all_goals
  have hm := chunk_mem hm
  simp only [List.mem_cons, List.not_mem_nil, or_false] at hm
  (repeat' rcases hm with rfl | hm) <;> first | exact True.intro | (subst hm; exact True.intro)
theorem glass_ok : SoundSpec Tryz.prog 62 S_glass := by
 refine ⟨⟨_, Tryz.func62, by kernel_rfl, by kernel_rfl⟩, ?_⟩
 intro avs ns res h hn
 unfold S_glass at h
 split at h
 ·cases h
  exact glass_at 
 ·cases h
noncomputable def E_nt (n m : Nat) (a b : Nat → Int) : St := (some { σ := [AV.lst 1 n fun k => [iI (a k)], AV.lst 1 m fun k => [iI (b k)]] ++ tpL 24 [], m := [], nx := 7 } : Option St).getD { σ := [], m := [], nx := 0 }
noncomputable def B_nt : Code := loopBody (loopAt (bodyOf Tryz.f59) 0)
noncomputable def inv_nt (n m : Nat) (a b : Nat → Int) (k : Nat) : St := { σ := ovrS [(5, i k)] (E_nt n m a b).σ, m := (E_nt n m a b).m, nx := (E_nt n m a b).nx }
noncomputable def out_nt (n m : Nat) (a b : Nat → Int) (k : Nat) : AEx → Option St := fun ex => match ex with
 | .exit 0 => some { σ := ovrS [] (E_nt n m a b).σ, m := (E_nt n m a b).m, nx := (E_nt n m a b).nx }
 | .ret => some { σ := ovrS [(4, .lit false)] (E_nt n m a b).σ, m := (E_nt n m a b).m, nx := (E_nt n m a b).nx }
 | _ => none
noncomputable def T_nt (n m : Nat) (a b : Nat → Int) : CT := .branch (allI ((fun k => a k == b k)) n) (.leaf (.exit 0, ( out_nt n m a b 0 (.exit 0)).getD (E_nt n m a b))) (.leaf (.ret, ( out_nt n m a b 0 .ret).getD (E_nt n m a b)))
noncomputable def LS_nt (n m : Nat) (a b : Nat → Int) : LSpec := (sumL (inv_nt n m a b (0)) (T_nt n m a b))
theorem nt_ls (n m : Nat) (a b : Nat → Int) (pre0 : n ≤ 100000) (pre1 : n = m) : LSound Tryz.prog (.loop B_nt) (LS_nt n m a b) := by
 refine loop_rounds (G := []) (L := []) (SoundG.nil _) mixed noLoops (X := Nat) (inv_nt n m a b) (fun k => k ≤ n ∧ ∀ j, j < k → ((fun k => a k == b k)) j = true) (fun k => n - k) (out_nt n m a b) (x0 := 0) ⟨by omega, fun j hj => by omega⟩ ?_ ?_ ?_
 ·rintro k
  kernel_rfl
 ·rintro k y E h
  unfold out_nt at h
  split at h
  ·cases h; kernel_rfl
  ·cases h; kernel_rfl
  ·cases h
 ·rintro Q hQ k hx
  refine ⟨(k + 1), ?_⟩
  have e : roundT Tryz.prog [] [] B_nt (inv_nt n m a b k) (inv_nt n m a b ((k + 1))) (out_nt n m a b k) = (let z0 := (AV.lst 1 n fun k => [iI (a k)]); (Tree.branch (decide ((↑k : Int) < (↑n : Int))) (Tree.need [(0 : Int) ≤ (↑k : Int) ∧ (↑k : Int) < (↑n : Int)] (Tree.need [(0 : Int) ≤ (↑k : Int) ∧ (↑k : Int) < (↑m : Int)] (Tree.branch (a k != b k) (Tree.need [z0 = AV.lst 1 n fun k => [iI (a k)], (AV.lst 1 m fun k => [iI (b k)]) = AV.lst 1 m fun k => [iI (b k)], Eq1 (AV.lit false)] (Tree.leaf AEx.ret)) (Tree.need [inI64 ((↑k : Int) + (1 : Int))] (Tree.need [z0 = AV.lst 1 n fun k => [iI (a k)], (AV.lst 1 m fun k => [iI (b k)]) = AV.lst 1 m fun k => [iI (b k)], (↑k : Int) + (1 : Int) = (↑(k + 1) : Int)] (Tree.leaf AEx.normal)))))) (Tree.need [z0 = AV.lst 1 n fun k => [iI (a k)], (AV.lst 1 m fun k => [iI (b k)]) = AV.lst 1 m fun k => [iI (b k)]] (Tree.leaf (AEx.exit 0))))) := by kernel_rfl
  rw [e]
  simp only [T_nt, out_nt, Tree.sat, Option.getD_some] at hQ
  have hbad : k < n → ((fun k => a k == b k)) k = false → allI ((fun k => a k == b k)) n = false := by
   intro h1 h2
   rw [← Bool.not_eq_true]
   intro h3
   have := allI_iff.1 h3 k h1
   exact Bool.noConfusion (h2.symm.trans this)
  have hgood : ((fun k => a k == b k)) k = true → ∀ j, j < k + 1 → ((fun k => a k == b k)) j = true := by
   intro h1 j hj
   rcases (show j < k ∨ j = k by omega) with h | rfl
   ·exact hx.2 j h
   ·exact h1
  have hend : ¬ k < n → allI ((fun k => a k == b k)) n = true := fun h => allI_iff.2 (fun j hj => hx.2 j (by omega))
  have hQ1 : ∀ E, out_nt n m a b k .ret = some E → allI ((fun k => a k == b k)) n = false → Q (.ret, E) := by
   intro E hE hf
   cases hE
   exact hQ.2 hf
  have hQ2 : ∀ E, out_nt n m a b k (.exit 0) = some E → allI ((fun k => a k == b k)) n = true → Q (.exit 0, E) := by
   intro E hE hf
   cases hE
   exact hQ.1 hf
  simp only [Tree.sat, allP, true_and, and_true, decide_eq_true_eq, decide_eq_false_iff_not, inI64, Int.toNat_natCast]
  
  clear e
  repeat' first | with_reducible apply And.intro | with_reducible intro _
  all_goals first | exact True.intro | omega | exact hQ1 _ (by assumption) (hbad (by omega) (by simp_all)) | exact hQ2 _ (by assumption) (hend (by omega)) | exact hgood (by simp_all) _ (by assumption)
theorem lints_at (n m : Nat) (a b : Nat → Int) (pre0 : n ≤ 100000) : SoundAt Tryz.prog 59 [.lst 1 n (fun k => [i (a k)]), .lst 1 m (fun k => [i (b k)])] (bl (decide (n = m) && allI (fun k => a k == b k) n)) := by
 refine soundAt_fin (G := []) (L := [needSp [n ≤ 100000, n = m] (LS_nt n m a b)]) (SoundG.nil _) mixed Tryz.func59 (show Tryz.f59.body = some (bodyOf Tryz.f59) by kernel_rfl) (one_loop (fun cj hcj => by
  have e : loopAt (bodyOf Tryz.f59) 0 = some (.loop B_nt) := by kernel_rfl
  rw [e] at hcj; cases hcj
  exact needSp_sound (fun h => nt_ls n m a b h.1 h.2))) (t := (Tree.branch ((↑n : Int) != (↑m : Int)) (Tree.leaf (RV.x (Value.bool false))) (Tree.need [n ≤ 100000, n = m] (Tree.need [(AV.lst 1 n fun k => [iI (a k)]) = AV.lst 1 n fun k => [iI (a k)], (AV.lst 1 m fun k => [iI (b k)]) = AV.lst 1 m fun k => [iI (b k)], (0 : Int) = (↑(0 : Nat) : Int)] (Tree.branch (allI (fun k => a k == b k) n) (Tree.leaf (RV.x (Value.bool true))) (Tree.leaf (RV.x (Value.bool false)))))))) (by kernel_rfl) ?_
 simp only [Tree.sat, allP, fitP, fitL, valEq, inI64, true_and, and_true, decide_eq_true_eq, decide_eq_false_iff_not, Int.natCast_zero, Int.toNat_natCast, bne_iff_ne, ne_eq]
 refine ⟨fun h => ?_, fun h => ?_⟩
 ·have : n ≠ m := by intro h'; subst h'; simp at h
  simp [this]
 ·have e : n = m := by
   rw [bne_eq_false_iff_eq] at h
   omega
  subst e
  refine ⟨⟨by omega, rfl⟩, fun h2 => ?_, fun h2 => ?_⟩
  ·simp [h2]
  ·simp [h2]
def S_lints : Sx.Spec := fun l => match l with
 | [.lst 1 n f, .lst 1 m g] => some ([isRec 1 n f, isRec 1 m g, n ≤ 100000], bl (decide (n = m) && allI (fun k => col 0 f k == col 0 g k) n))
 | _ => none
theorem lints_ok : SoundSpec Tryz.prog 59 S_lints := by
 refine ⟨⟨_, Tryz.func59, by kernel_rfl, by kernel_rfl⟩, ?_⟩
 intro avs ns res h hn
 unfold S_lints at h
 split at h
 ·rename_i n f m g
  cases h
  have hr0 : isRec 1 n f := hn _ (by simp)
  have hr1 : isRec 1 m g := hn _ (by simp)
  exact (lints_at n m (col 0 f) (col 0 g) (hn _ (by simp))).same (.cons (.lst 1 n _ _ hr0) (.cons (.lst 1 m _ _ hr1) .nil))
 ·cases h
theorem dyHi_spec (p : Nat → Bool) : ∀ N, (dyHi p N = -1 ∧ ∀ k, k < N → p k = false) ∨ ∃ h : Nat, h < N ∧ p h = true ∧ dyHi p N = h ∧ ∀ k, h < k → k < N → p k = false
 | 0 => .inl ⟨rfl, fun k h => absurd h (Nat.not_lt_zero _)⟩
 | N + 1 => by
  have e : dyHi p (N + 1) = if p N then max (dyHi p N) N else dyHi p N := rfl
  have ih := dyHi_spec p N
  cases hp : p N with
  | true =>
   refine .inr ⟨N, by omega, hp, ?_, fun k h1 h2 => by omega⟩
   rw [e, if_pos hp]
   rcases ih with ⟨h, _⟩ | ⟨h, h1, _, h2, _⟩ <;> omega
  | false =>
   rw [if_neg (by rw [hp]; simp)] at e
   rw [e]
   have ext : ∀ k, k < N + 1 → k ≠ N → k < N := fun k h1 h2 => by omega
   rcases ih with ⟨h, h1⟩ | ⟨h, h1, h2, h3, h4⟩
   ·refine .inl ⟨h, fun k hk => ?_⟩
    by_cases hkN : k = N
    ·rw [hkN, hp]
    ·exact h1 k (ext k hk hkN)
   ·refine .inr ⟨h, by omega, h2, h3, fun k hk hk2 => ?_⟩
    by_cases hkN : k = N
    ·rw [hkN, hp]
    ·exact h4 k hk (ext k hk2 hkN)
theorem dyLo_spec (p : Nat → Bool) : ∀ N, N ≤ 10001 → (dyLo p N = 10001 ∧ ∀ k, k < N → p k = false) ∨ ∃ h : Nat, h < N ∧ p h = true ∧ dyLo p N = h ∧ ∀ k, k < h → p k = false
 | 0, _ => .inl ⟨rfl, fun k h => absurd h (Nat.not_lt_zero _)⟩
 | N + 1, hN => by
  have e : dyLo p (N + 1) = if p N then min (dyLo p N) N else dyLo p N := rfl
  have ih := dyLo_spec p N (by omega)
  cases hp : p N with
  | true =>
   rw [if_pos hp] at e
   rcases ih with ⟨h, h1⟩ | ⟨h, h1, h2, h3, h4⟩
   ·exact .inr ⟨N, by omega, hp, by omega, h1⟩
   ·exact .inr ⟨h, by omega, h2, by omega, h4⟩
  | false =>
   rw [if_neg (by rw [hp]; simp)] at e
   rw [e]
   rcases ih with ⟨h, h1⟩ | ⟨h, h1, h2, h3, h4⟩
   ·refine .inl ⟨h, fun k hk => ?_⟩
    by_cases hkN : k = N
    ·rw [hkN, hp]
    ·exact h1 k (by omega)
   ·exact .inr ⟨h, by omega, h2, h3, h4⟩
theorem dy_range {p : Nat → Bool} {h : Nat} (h1 : h < nD) (hp : ∀ k, k < nD → (p k = true ↔ k ≤ h)) : dyLo p nD = 0 ∧ dyHi p nD = h := by
 have hn : nD = 10001 := rfl
 constructor
 ·rcases dyLo_spec p nD (Nat.le_refl _) with ⟨_, h3⟩ | ⟨l, h3, h4, h5, h6⟩
  ·have := h3 0 (by omega)
   rw [(hp 0 (by omega)).2 (Nat.zero_le _)] at this
   cases this
  ·rcases Nat.eq_zero_or_pos l with rfl | hl
   ·exact h5
   ·have := h6 0 hl
    rw [(hp 0 (by omega)).2 (Nat.zero_le _)] at this
    cases this
 ·rcases dyHi_spec p nD with ⟨_, h3⟩ | ⟨l, h3, h4, h5, h6⟩
  ·have := h3 h h1
   rw [(hp h h1).2 (Nat.le_refl _)] at this
   cases this
  ·have h7 := (hp l h3).1 h4
   rcases Nat.lt_or_ge l h with hl | hl
   ·have := h6 h hl h1
    rw [(hp h h1).2 (Nat.le_refl _)] at this
    cases this
   ·rw [h5]
    omega
abbrev glA0 : Nat → Int := col 0 (chunk 4 [iI 0, iI 1, iI 40, iI 40, iI 2, iI 3, iI 48, iI 50])
abbrev glA1 : Nat → Int := col 1 (chunk 4 [iI 0, iI 1, iI 40, iI 40, iI 2, iI 3, iI 48, iI 50])
abbrev glA2 : Nat → Int := col 2 (chunk 4 [iI 0, iI 1, iI 40, iI 40, iI 2, iI 3, iI 48, iI 50])
abbrev glA3 : Nat → Int := col 3 (chunk 4 [iI 0, iI 1, iI 40, iI 40, iI 2, iI 3, iI 48, iI 50])
abbrev glB0 : Nat → Int := Pt.col 0 (chunk 2 [iI 720, iI 985, iI 760, iI 1000, iI 800, iI 1014])
abbrev glB1 : Nat → Int := Pt.col 1 (chunk 2 [iI 720, iI 985, iI 760, iI 1000, iI 800, iI 1014])
theorem gl_w2 : wkA 4 100 20 30 2 glA0 glA1 glA2 glA3 3 glB0 glB1 760 760 1 3 2 = 1 := by decide +kernel
theorem gl_w3 : wkA 4 100 20 30 2 glA0 glA1 glA2 glA3 3 glB0 glB1 760 760 1 3 3 = 3 := by decide +kernel
theorem gl_w4 : wkA 4 100 20 30 2 glA0 glA1 glA2 glA3 3 glB0 glB1 760 760 1 3 4 = 0 := by decide +kernel
theorem gl_w5 : wkA 4 100 20 30 2 glA0 glA1 glA2 glA3 3 glB0 glB1 760 760 1 3 5 = 0 := by decide +kernel
theorem gl_w6 : wkA 4 100 20 30 2 glA0 glA1 glA2 glA3 3 glB0 glB1 760 760 1 3 6 = 200 := by decide +kernel
theorem gl_w7 : wkA 4 100 20 30 2 glA0 glA1 glA2 glA3 3 glB0 glB1 760 760 1 3 7 = 300 := by decide +kernel
theorem gl_w8 : wkA 4 100 20 30 2 glA0 glA1 glA2 glA3 3 glB0 glB1 760 760 1 3 8 = 410 := by decide +kernel
theorem gl_w9 : wkA 4 100 20 30 2 glA0 glA1 glA2 glA3 3 glB0 glB1 760 760 1 3 9 = 510 := by decide +kernel
theorem gl_w10 : wkA 4 100 20 30 2 glA0 glA1 glA2 glA3 3 glB0 glB1 760 760 1 3 10 = 700 := by decide +kernel
theorem gl_w11 : wkA 4 100 20 30 2 glA0 glA1 glA2 glA3 3 glB0 glB1 760 760 1 3 11 = 800 := by decide +kernel
theorem gl_w12 : wkA 4 100 20 30 2 glA0 glA1 glA2 glA3 3 glB0 glB1 760 760 1 3 12 = 1000 := by decide +kernel
theorem gl_w13 : wkA 4 100 20 30 2 glA0 glA1 glA2 glA3 3 glB0 glB1 760 760 1 3 13 = 1000 := by decide +kernel
theorem gl_hd : (hdE 4 100 20 30 2 glA0 glA1 glA2 glA3 3 glB0 glB1 760 760 1 3 0 == 0) = true := by decide +kernel
theorem gl_hn : (((hdN 4 100 20 30 2 glA0 glA1 glA2 glA3 3 glB0 glB1 760 760 1 3 0 : Nat) : Int) == 5) = true := by decide +kernel
theorem gl_h1 : (onL (wkA 4 100 20 30 2 glA0 glA1 glA2 glA3 3 glB0 glB1 760 760 1 3) (Int.toNat 1) 0 == 200 && (onH (wkA 4 100 20 30 2 glA0 glA1 glA2 glA3 3 glB0 glB1 760 760 1 3) (Int.toNat 1) 0 == 300 && true)) = true := by decide +kernel
theorem gl_h2 : (onL (wkA 4 100 20 30 2 glA0 glA1 glA2 glA3 3 glB0 glB1 760 760 1 3) (Int.toNat 2) 0 == 410 && (onH (wkA 4 100 20 30 2 glA0 glA1 glA2 glA3 3 glB0 glB1 760 760 1 3) (Int.toNat 2) 0 == 510 && true)) = true := by decide +kernel
theorem gl_c2 : (onL (wkA 4 100 20 30 2 glA0 glA1 glA2 glA3 3 glB0 glB1 760 760 1 3) (Int.toNat 2) 0 - teM 4 (Int.toNat 2) == -90 && (onH (wkA 4 100 20 30 2 glA0 glA1 glA2 glA3 3 glB0 glB1 760 760 1 3) (Int.toNat 2) 0 - teM 4 (Int.toNat 2) == 10 && true)) = true := by decide +kernel
theorem gl_to : (toE 4 100 20 30 2 glA0 glA1 glA2 glA3 3 glB0 glB1 760 760 1 3 0 100 2 0 == 0) = true := by decide +kernel
theorem gl_tl : (toL 4 100 20 30 2 glA0 glA1 glA2 glA3 3 glB0 glB1 760 760 1 3 0 100 2 0 == 41 && (toH 4 100 20 30 2 glA0 glA1 glA2 glA3 3 glB0 glB1 760 760 1 3 0 100 2 0 == 51 && true)) = true := by decide +kernel
theorem gl_he : (hgE 4 100 20 30 2 glA0 glA1 glA2 glA3 3 glB0 glB1 760 760 1 3 0 4 90 0 == 0) = true := by decide +kernel
theorem gl_as : asE 4 100 20 30 2 glA0 glA1 glA2 glA3 3 glB0 glB1 760 760 1 3 0 4 100 0 = 0 := by decide +kernel
theorem gl_hg : hgR 4 100 20 30 2 glA0 glA1 glA2 glA3 3 glB0 glB1 760 760 1 3 0 4 90 0 = [0, 1] := by decide +kernel
theorem gl_kd (k : Nat) : keD 4 (wkA 4 100 20 30 2 glA0 glA1 glA2 glA3 3 glB0 glB1 760 760 1 3) 0 4 100 k = true ↔ k ≤ 333 := by
 have hu := up_spec (n := 3 * (k : Int)) (d := 100) (by omega) (by omega)
 have hd := dn_spec (n := 1 * (k : Int)) (d := 100) (by omega) (by omega)
 have e : ∀ x : Nat, keP 4 (wkA 4 100 20 30 2 glA0 glA1 glA2 glA3 3 glB0 glB1 760 760 1 3) 100 k ((0 : Int) + (x : Int)) = true ↔ -100 ≤ wkA 4 100 20 30 2 glA0 glA1 glA2 glA3 3 glB0 glB1 760 760 1 3 (4 + 2 * x) - upI (3 * k) 100 - teM 4 x ∧ wkA 4 100 20 30 2 glA0 glA1 glA2 glA3 3 glB0 glB1 760 760 1 3 (4 + 2 * x) - upI (3 * k) 100 - teM 4 x ≤ wkA 4 100 20 30 2 glA0 glA1 glA2 glA3 3 glB0 glB1 760 760 1 3 (5 + 2 * x) - dnI (1 * k) 100 - teM 4 x ∧ wkA 4 100 20 30 2 glA0 glA1 glA2 glA3 3 glB0 glB1 760 760 1 3 (5 + 2 * x) - dnI (1 * k) 100 - teM 4 x ≤ 100 := by
  intro x
  unfold keP onL onH
  rw [insB_iff, gl_w2, gl_w3, show ((0 : Int) + (x : Int)).toNat = x by omega]
 have t0 : teM 4 0 = 0 := by decide
 have t1 : teM 4 1 = 250 := by decide
 have t2 : teM 4 2 = 500 := by decide
 have t3 : teM 4 3 = 750 := by decide
 have t4 : teM 4 4 = 1000 := by decide
 unfold keD keB
 rw [show ((4 : Int) - 0 + 1).toNat = 5 by decide, allI_iff]
 constructor
 ·intro h
  have h2 := (e 2).1 (h 2 (by omega))
  rw [show 4 + 2 * 2 = 8 by rfl, show 5 + 2 * 2 = 9 by rfl, gl_w8, gl_w9, t2] at h2
  omega
 ·intro h j hj
  rw [e]
  rcases (show j = 0 ∨ j = 1 ∨ j = 2 ∨ j = 3 ∨ j = 4 by omega) with rfl | rfl | rfl | rfl | rfl
  ·rw [show 4 + 2 * 0 = 4 by rfl, show 5 + 2 * 0 = 5 by rfl, gl_w4, gl_w5, t0]
   omega
  ·rw [show 4 + 2 * 1 = 6 by rfl, show 5 + 2 * 1 = 7 by rfl, gl_w6, gl_w7, t1]
   omega
  ·rw [show 4 + 2 * 2 = 8 by rfl, show 5 + 2 * 2 = 9 by rfl, gl_w8, gl_w9, t2]
   omega
  ·rw [show 4 + 2 * 3 = 10 by rfl, show 5 + 2 * 3 = 11 by rfl, gl_w10, gl_w11, t3]
   omega
  ·rw [show 4 + 2 * 4 = 12 by rfl, show 5 + 2 * 4 = 13 by rfl, gl_w12, gl_w13, t4]
   omega
theorem gl_dy : dyLo (keD 4 (wkA 4 100 20 30 2 glA0 glA1 glA2 glA3 3 glB0 glB1 760 760 1 3) 0 4 100) nD = 0 ∧ dyHi (keD 4 (wkA 4 100 20 30 2 glA0 glA1 glA2 glA3 3 glB0 glB1 760 760 1 3) 0 4 100) nD = 333 := dy_range (h := 333) (by decide) (fun k _ => gl_kd k)
theorem gl_de : dsE 4 100 20 30 2 glA0 glA1 glA2 glA3 3 glB0 glB1 760 760 1 3 0 4 100 = 0 := by
 unfold dsE
 rw [if_pos gl_as, gl_dy.2, if_pos (by decide)]
theorem gl_ds : (dsE 4 100 20 30 2 glA0 glA1 glA2 glA3 3 glB0 glB1 760 760 1 3 0 4 100 == 0) = true := by
 rw [gl_de]
 rfl
theorem gl_dl : (dsL 4 100 20 30 2 glA0 glA1 glA2 glA3 3 glB0 glB1 760 760 1 3 0 4 100 == 0 && (dsH 4 100 20 30 2 glA0 glA1 glA2 glA3 3 glB0 glB1 760 760 1 3 0 4 100 == 333 && true)) = true := by
 unfold dsL dsH
 rw [if_pos gl_de, if_pos gl_de, gl_dy.1, gl_dy.2]
 rfl
theorem gl_R4 : isRec 4 2 (chunk 4 [iI 0, iI 1, iI 40, iI 40, iI 2, iI 3, iI 48, iI 50]) := by
 intro k hk
 rcases (show k = 0 ∨ k = 1 by omega) with rfl | rfl <;> rfl
theorem gl_R2 : isRec 2 3 (chunk 2 [iI 720, iI 985, iI 760, iI 1000, iI 800, iI 1014]) := by
 intro k hk
 rcases (show k = 0 ∨ k = 1 ∨ k = 2 by omega) with rfl | rfl | rfl <;> rfl
theorem gl_R1 : isRec 1 2 (chunk 1 [iI 0, iI 1]) := by
 intro k hk
 rcases (show k = 0 ∨ k = 1 by omega) with rfl | rfl <;> rfl
theorem gl_n : ((hdN 4 100 20 30 2 glA0 glA1 glA2 glA3 3 glB0 glB1 760 760 1 3 0 : Nat) : Int) = 5 := by decide +kernel
theorem gl_fin : (decide True && (true && nthJ (hgR 4 100 20 30 2 glA0 glA1 glA2 glA3 3 glB0 glB1 760 760 1 3 0 4 90 0) 0 == col 0 (chunk 1 [iI 0, iI 1]) 0 && nthJ (hgR 4 100 20 30 2 glA0 glA1 glA2 glA3 3 glB0 glB1 760 760 1 3 0 4 90 0) 1 == col 0 (chunk 1 [iI 0, iI 1]) 1)) = true := by
 rw [gl_hg]
 rfl
theorem gl_i1 : (0 : Int) ≤ 1 ∧ (1 : Int) < ((hdN 4 100 20 30 2 glA0 glA1 glA2 glA3 3 glB0 glB1 760 760 1 3 0 : Nat) : Int) := ⟨by decide, Int.lt_of_lt_of_le (show (1 : Int) < 5 by decide) (Int.le_of_eq gl_n.symm)⟩
theorem gl_i2 : (0 : Int) ≤ 2 ∧ (2 : Int) < ((hdN 4 100 20 30 2 glA0 glA1 glA2 glA3 3 glB0 glB1 760 760 1 3 0 : Nat) : Int) := ⟨by decide, Int.lt_of_lt_of_le (show (2 : Int) < 5 by decide) (Int.le_of_eq gl_n.symm)⟩
theorem nope {b : Bool} {p : Prop} (h : b = true) : b = false → p := fun h' => Bool.noConfusion (h.symm.trans h')
def S_wakes : Sx.Spec := fun l => match l with
 | [] => some ([], bl true)
 | _ => none
theorem wakes_at  : SoundAt Tryz.prog 18 [] (bl true) := by
 refine soundAt_finX (G := [(62, S_glass), (63, S_whole), (38, S_between), (19, S_Told), (35, S_Days), (54, S_Hangs), (59, S_lints)]) (X := { R := [(32, S_Heights), (41, S_Corrections)], H := [] }) (L := []) (SoundG.cons glass_ok (SoundG.cons whole_ok (SoundG.cons between_ok (SoundG.cons Told_ok (SoundG.cons Days_ok (SoundG.cons Hangs_ok (SoundG.cons lints_ok (SoundG.nil _)))))))) (SoundX.of (SoundRL.cons Heights_okR (SoundRL.cons Corrections_okR (SoundRL.nil _))) (SoundHL.nil _)) mixed Tryz.func18 (show Tryz.f18.body = some (bodyOf Tryz.f18) by kernel_rfl) noLoopsS (t := (let z0 := (chunk 4 [iI (0 : Int), iI (1 : Int), iI (40 : Int), iI (40 : Int), iI (2 : Int), iI (3 : Int), iI (48 : Int), iI (50 : Int)]); let z1 := (chunk 2 [iI (720 : Int), iI (985 : Int), iI (760 : Int), iI (1000 : Int), iI (800 : Int), iI (1014 : Int)]); let z2 := (wkA (4 : Int) (100 : Int) (20 : Int) (30 : Int) 2 (col 0 z0) (col 1 z0) (col 2 z0) (col 3 z0) 3 (Pt.col 0 z1) (Pt.col 1 z1) (760 : Int) (760 : Int) (1 : Int) (3 : Int)); let z3 := (hdN (4 : Int) (100 : Int) (20 : Int) (30 : Int) 2 (col 0 z0) (col 1 z0) (col 2 z0) (col 3 z0) 3 (Pt.col 0 z1) (Pt.col 1 z1) (760 : Int) (760 : Int) (1 : Int) (3 : Int) (0 : Int)); let z4 := (hgR (4 : Int) (100 : Int) (20 : Int) (30 : Int) 2 (col 0 z0) (col 1 z0) (col 2 z0) (col 3 z0) 3 (Pt.col 0 z1) (Pt.col 1 z1) (760 : Int) (760 : Int) (1 : Int) (3 : Int) (0 : Int) (4 : Int) (90 : Int) (0 : Int)); let z5 := (Tree.leaf (RV.x (Value.bool false))); let z6 := (chunk 1 [iI (0 : Int), iI (1 : Int)]); (Tree.need [isRec 4 2 z0, isRec 2 3 z1] (Tree.need [isRec 4 2 z0, isRec 2 3 z1] (Tree.need [isRec 4 2 z0, isRec 2 3 z1] (Tree.need [isRec 4 2 z0, isRec 2 3 z1] (Tree.need [isRec 4 2 z0, isRec 2 3 z1] (Tree.branch (hdE (4 : Int) (100 : Int) (20 : Int) (30 : Int) 2 (col 0 z0) (col 1 z0) (col 2 z0) (col 3 z0) 3 (Pt.col 0 z1) (Pt.col 1 z1) (760 : Int) (760 : Int) (1 : Int) (3 : Int) (0 : Int) == (0 : Int)) (Tree.branch ((↑z3 : Int) == (5 : Int)) (Tree.need [(0 : Int) ≤ (1 : Int) ∧ (1 : Int) < (↑z3 : Int)] (Tree.branch (onL z2 (Int.toNat (1 : Int)) (0 : Int) == (200 : Int) && (onH z2 (Int.toNat (1 : Int)) (0 : Int) == (300 : Int) && true)) (Tree.need [(0 : Int) ≤ (2 : Int) ∧ (2 : Int) < (↑z3 : Int)] (Tree.branch (onL z2 (Int.toNat (2 : Int)) (0 : Int) == (410 : Int) && (onH z2 (Int.toNat (2 : Int)) (0 : Int) == (510 : Int) && true)) (Tree.branch (hdE (4 : Int) (100 : Int) (20 : Int) (30 : Int) 2 (col 0 z0) (col 1 z0) (col 2 z0) (col 3 z0) 3 (Pt.col 0 z1) (Pt.col 1 z1) (760 : Int) (760 : Int) (1 : Int) (3 : Int) (0 : Int) == (0 : Int)) (Tree.branch ((↑z3 : Int) == (5 : Int)) (Tree.need [(0 : Int) ≤ (2 : Int) ∧ (2 : Int) < (↑z3 : Int)] (Tree.branch (onL z2 (Int.toNat (2 : Int)) (0 : Int) - teM (4 : Int) (Int.toNat (2 : Int)) == (-90 : Int) && (onH z2 (Int.toNat (2 : Int)) (0 : Int) - teM (4 : Int) (Int.toNat (2 : Int)) == (10 : Int) && true)) (Tree.branch (toE (4 : Int) (100 : Int) (20 : Int) (30 : Int) 2 (col 0 z0) (col 1 z0) (col 2 z0) (col 3 z0) 3 (Pt.col 0 z1) (Pt.col 1 z1) (760 : Int) (760 : Int) (1 : Int) (3 : Int) (0 : Int) (100 : Int) (2 : Int) (0 : Int) == (0 : Int)) (Tree.branch (toL (4 : Int) (100 : Int) (20 : Int) (30 : Int) 2 (col 0 z0) (col 1 z0) (col 2 z0) (col 3 z0) 3 (Pt.col 0 z1) (Pt.col 1 z1) (760 : Int) (760 : Int) (1 : Int) (3 : Int) (0 : Int) (100 : Int) (2 : Int) (0 : Int) == (41 : Int) && (toH (4 : Int) (100 : Int) (20 : Int) (30 : Int) 2 (col 0 z0) (col 1 z0) (col 2 z0) (col 3 z0) 3 (Pt.col 0 z1) (Pt.col 1 z1) (760 : Int) (760 : Int) (1 : Int) (3 : Int) (0 : Int) (100 : Int) (2 : Int) (0 : Int) == (51 : Int) && true)) (Tree.branch (dsE (4 : Int) (100 : Int) (20 : Int) (30 : Int) 2 (col 0 z0) (col 1 z0) (col 2 z0) (col 3 z0) 3 (Pt.col 0 z1) (Pt.col 1 z1) (760 : Int) (760 : Int) (1 : Int) (3 : Int) (0 : Int) (4 : Int) (100 : Int) == (0 : Int)) (Tree.branch (dsL (4 : Int) (100 : Int) (20 : Int) (30 : Int) 2 (col 0 z0) (col 1 z0) (col 2 z0) (col 3 z0) 3 (Pt.col 0 z1) (Pt.col 1 z1) (760 : Int) (760 : Int) (1 : Int) (3 : Int) (0 : Int) (4 : Int) (100 : Int) == (0 : Int) && (dsH (4 : Int) (100 : Int) (20 : Int) (30 : Int) 2 (col 0 z0) (col 1 z0) (col 2 z0) (col 3 z0) 3 (Pt.col 0 z1) (Pt.col 1 z1) (760 : Int) (760 : Int) (1 : Int) (3 : Int) (0 : Int) (4 : Int) (100 : Int) == (333 : Int) && true)) (Tree.branch (hgE (4 : Int) (100 : Int) (20 : Int) (30 : Int) 2 (col 0 z0) (col 1 z0) (col 2 z0) (col 3 z0) 3 (Pt.col 0 z1) (Pt.col 1 z1) (760 : Int) (760 : Int) (1 : Int) (3 : Int) (0 : Int) (4 : Int) (90 : Int) (0 : Int) == (0 : Int)) (Tree.need [isRec 1 2 fun j => [i (nthJ z4 j)], isRec 1 2 z6, 2 ≤ 100000] (Tree.leaf (RV.x (Value.bool (decide (2 = 2) && (true && nthJ z4 (nat_lit 0) == col 0 z6 (nat_lit 0) && nthJ z4 (nat_lit 1) == col 0 z6 (nat_lit 1))))))) z5) z5) z5) z5) z5) z5)) z5) z5) z5)) z5)) z5) z5)))))))) (by kernel_rfl) ?_
 simp only [Tree.sat, allP, true_and, and_true]
 refine ⟨⟨gl_R4, gl_R2⟩, ⟨gl_R4, gl_R2⟩, ⟨gl_R4, gl_R2⟩, ⟨gl_R4, gl_R2⟩, ⟨gl_R4, gl_R2⟩, ?_⟩
 refine ⟨fun _ => ⟨fun _ => ⟨gl_i1, fun _ => ⟨gl_i2, fun _ => ⟨fun _ => ⟨fun _ => ⟨gl_i2, fun _ => ⟨fun _ => ⟨fun _ => ⟨fun _ => ⟨fun _ => ⟨fun _ => ⟨⟨isRec1 _ _, gl_R1, by decide⟩, ?_⟩, nope gl_he⟩, nope gl_dl⟩, nope gl_ds⟩, nope gl_tl⟩, nope gl_to⟩, nope gl_c2⟩, nope gl_hn⟩, nope gl_hd⟩, nope gl_h2⟩, nope gl_h1⟩, nope gl_hn⟩, nope gl_hd⟩
 simp only [fitP, valEq]
 exact gl_fin
theorem wakes_ok : SoundSpec Tryz.prog 18 S_wakes := by
 refine ⟨⟨_, Tryz.func18, by kernel_rfl, by kernel_rfl⟩, ?_⟩
 intro avs ns res h hn
 unfold S_wakes at h
 split at h
 ·cases h
  exact wakes_at 
 ·cases h
end Go.Proofs.YtlinbkmpkcmniaaGreat
namespace Go.Proofs.YtlinbkmpkcmniaaGreat
open Go Go.Sx Go.RowKit Bo
def S_lto : Sx.Spec := fun l => match l with
 | [.agg [.x (.int .i64 a), .x (.int .i64 b)]] => some ([], .agg [i a, i b])
 | _ => none
theorem lto_at (a b : Int) : SoundAt Tryz.prog 42 [.agg [i a, i b]] (.agg [i a, i b]) := by
 refine soundAt_fin (G := []) (L := []) (SoundG.nil _) mixed Tryz.func42 (show Tryz.f42.body = some (bodyOf Tryz.f42) by kernel_rfl) noLoops (t := (Tree.leaf (RV.agg [RV.x (Value.int IntKind.i64 a), RV.x (Value.int IntKind.i64 b)]))) (by kernel_rfl) ?_
 simp only [Tree.sat, allP, fitP, fitL, valEq, inI64, true_and, and_true]
 all_goals first | omega | grind
theorem lto_ok : SoundSpec Tryz.prog 42 S_lto := by
 refine ⟨⟨_, Tryz.func42, by kernel_rfl, by kernel_rfl⟩, ?_⟩
 intro avs ns res h hn
 unfold S_lto at h
 split at h
 ·cases h
  exact lto_at _ _
 ·cases h
def S_Use : Sx.Spec := fun l => match l with
 | [.agg [.x (.int .i64 a), .x (.int .i64 b), .x (.int .i64 c)]] => some ([], .agg [i a, i b, i c])
 | _ => none
theorem Use_at (a b c : Int) : SoundAt Tryz.prog 36 [.agg [i a, i b, i c]] (.agg [i a, i b, i c]) := by
 refine soundAt_fin (G := []) (L := []) (SoundG.nil _) mixed Tryz.func36 (show Tryz.f36.body = some (bodyOf Tryz.f36) by kernel_rfl) noLoops (t := (Tree.leaf (RV.agg [RV.x (Value.int IntKind.i64 a), RV.x (Value.int IntKind.i64 b), RV.x (Value.int IntKind.i64 c)]))) (by kernel_rfl) ?_
 simp only [Tree.sat, allP, fitP, fitL, valEq, inI64, true_and, and_true]
 all_goals first | omega | grind
theorem Use_ok : SoundSpec Tryz.prog 36 S_Use := by
 refine ⟨⟨_, Tryz.func36, by kernel_rfl, by kernel_rfl⟩, ?_⟩
 intro avs ns res h hn
 unfold S_Use at h
 split at h
 ·cases h
  exact Use_at _ _ _
 ·cases h
theorem Thin_at (c T lo hi : Int) (n : Nat) (a b u v : Nat → Int) (m : Nat) (p q : Nat → Int) (pl ph dl dh : Int) : SoundAt Tryz.prog 17 [.agg [i c, i T, i lo, i hi, rds n a b u v, Pt.scs m p q, i pl, i ph, i dl, i dh]] (bl (decide (n ≤ 15) && decide (m ≤ 11))) := by
 refine soundAt_finX (G := []) (X := { R := [], H := [] }) (L := []) (SoundG.nil _) (SoundX.of (SoundRL.nil _) (SoundHL.nil _)) mixed Tryz.func17 (show Tryz.f17.body = some (bodyOf Tryz.f17) by kernel_rfl) noLoopsS (t := (Tree.branch (decide ((↑n : Int) ≤ (15 : Int))) (Tree.leaf (RV.x (Value.bool (decide ((↑m : Int) ≤ (11 : Int)))))) (Tree.leaf (RV.x (Value.bool false))))) (by kernel_rfl) ?_
 simp only [Tree.sat, allP, fitP, fitL, valEq, true_and, and_true, decide_eq_true_eq, decide_eq_false_iff_not, bne_iff_ne, ne_eq, bne_eq_false_iff_eq, beq_iff_eq, beq_eq_false_iff_ne, Bool.not_eq_true', Bool.not_eq_false', not_true_eq_false, false_imp_iff, true_imp_iff]
 refine ⟨fun h => ?_, fun h => ?_⟩
 ·rw [decide_eq_true (show n ≤ 15 by omega), Bool.true_and]
  exact decide_eq_decide.2 (by omega)
 ·rw [decide_eq_false (show ¬ n ≤ 15 by omega)]
  rfl
def S_Thin : Sx.Spec := fun l => match l with
 | [.agg [.x (.int .i64 c), .x (.int .i64 T), .x (.int .i64 lo), .x (.int .i64 hi), .lst 4 n fr, .lst 2 m ft, .x (.int .i64 pl), .x (.int .i64 ph), .x (.int .i64 dl), .x (.int .i64 dh)]] => some ([isRec 4 n fr, isRec 2 m ft], bl (decide (n ≤ 15) && decide (m ≤ 11)))
 | _ => none
theorem Thin_ok : SoundSpec Tryz.prog 17 S_Thin := by
 refine ⟨⟨_, Tryz.func17, by kernel_rfl, by kernel_rfl⟩, ?_⟩
 intro avs ns res h hn
 unfold S_Thin at h
 split at h
 ·cases h
  have hr : isRec 4 _ _ := hn _ List.mem_cons_self
  have ht : isRec 2 _ _ := hn _ (List.mem_cons_of_mem _ List.mem_cons_self)
  exact (Thin_at _ _ _ _ _ _ _ _ _ _ _ _ _ _ _ _  ).same (.cons (Sames.same (.cons (.refl _) (.cons (.refl _) (.cons (.refl _) (.cons (.refl _) (.cons (.lst 4 _ _ _ hr) (.cons (.lst 2 _ _ _ ht) (.cons (.refl _) (.cons (.refl _) (.cons (.refl _) (.cons (.refl _) .nil))))))))))) .nil)
 ·cases h
def ftE (c T lo hi : Int) (n : Nat) (a b u v : Nat → Int) (m : Nat) (p q : Nat → Int) (pl ph dl dh : Int) : Int := if n > 12 ∨ m > 8 then 3 else if flt c T lo hi n a b u v = 0 ∧ Pt.itB m p q = true ∧ Pt.insB (p 0) pl ph (p (m - 1)) = true ∧ Pt.bt 0 dl dh = true ∧ dh ≤ 100 then 0 else 1
theorem va_bl {m : Nat} {p q : Nat → Int} {pl ph : Int} : Pt.blE m p q pl ph = 0 ↔ m ≤ 8 ∧ Pt.itB m p q = true ∧ Pt.insB (p 0) pl ph (p (m - 1)) = true := by
 unfold Pt.blE Pt.tbE Pt.itB
 rw [Bool.and_eq_true, decide_eq_true_eq]
 by_cases h1 : 8 < m
 ·rw [if_pos h1, if_neg (by decide)]
  exact ⟨fun h => (by cases h), fun h => by omega⟩
 ·rw [if_neg h1]
  by_cases h2 : m < 2
  ·rw [if_pos h2, if_neg (by decide)]
   exact ⟨fun h => (by cases h), fun h => by omega⟩
  ·rw [if_neg h2]
   by_cases h3 : Pt.tabB m p q = true
   ·rw [if_pos h3, if_pos rfl]
    by_cases h4 : Pt.insB (p 0) pl ph (p (m - 1)) = true
    ·rw [if_pos h4]
     exact ⟨fun _ => ⟨by omega, ⟨h3, by omega⟩, h4⟩, fun _ => rfl⟩
    ·rw [if_neg h4]
     exact ⟨fun h => (by cases h), fun h => absurd h.2.2 h4⟩
   ·rw [if_neg h3, if_neg (by decide)]
    exact ⟨fun h => (by cases h), fun h => absurd h.2.1.1 h3⟩
theorem pbt_iff (lo n hi : Int) : Pt.bt lo n hi = true ↔ lo ≤ n ∧ n ≤ hi := by
 unfold Pt.bt
 rw [Bool.and_eq_true, decide_eq_true_eq, decide_eq_true_eq]
theorem ft_0 {c T lo hi : Int} {n : Nat} {a b u v : Nat → Int} {m : Nat} {p q : Nat → Int} {pl ph dl dh : Int} : ftE c T lo hi n a b u v m p q pl ph dl dh = 0 ↔ n ≤ 12 ∧ flt c T lo hi n a b u v = 0 ∧ vaB c T lo hi m p q pl ph dl dh = true := by
 unfold ftE
 by_cases h1 : n > 12 ∨ m > 8
 ·rw [if_pos h1]
  refine ⟨fun h => (by cases h), fun h => ?_⟩
  have := (va_bl.1 (va_iff.1 h.2.2).1).1
  omega
 ·rw [if_neg h1]
  by_cases h2 : flt c T lo hi n a b u v = 0 ∧ Pt.itB m p q = true ∧ Pt.insB (p 0) pl ph (p (m - 1)) = true ∧ Pt.bt 0 dl dh = true ∧ dh ≤ 100
  ·rw [if_pos h2]
   have h3 := (pbt_iff _ _ _).1 h2.2.2.2.1
   exact ⟨fun _ => ⟨by omega, h2.1, va_iff.2 ⟨va_bl.2 ⟨by omega, h2.2.1, h2.2.2.1⟩, (flt_iff.1 h2.1).1, h3.1, h3.2, h2.2.2.2.2⟩⟩, fun _ => rfl⟩
  ·rw [if_neg h2]
   refine ⟨fun h => (by cases h), fun h => absurd ?_ h2⟩
   have h3 := va_iff.1 h.2.2
   have h4 := va_bl.1 h3.1
   exact ⟨h.2.1, h4.2.1, h4.2.2, (pbt_iff _ _ _).2 ⟨h3.2.2.1, h3.2.2.2.1⟩, h3.2.2.2.2⟩
theorem rFault_at (c T lo hi : Int) (n : Nat) (a b u v : Nat → Int) (m : Nat) (p q : Nat → Int) (pl ph dl dh : Int) : SoundAt Tryz.prog 47 [.agg [i c, i T, i lo, i hi, rds n a b u v, Pt.scs m p q, i pl, i ph, i dl, i dh]] (i (ftE c T lo hi n a b u v m p q pl ph dl dh)) := by
 refine soundAt_finX (G := [(83, Bo.S_rFault), (84, Pt.S_rIsTable), (85, Pt.S_rSpan), (24, Pt.S_rIn)]) (X := { R := [], H := [] }) (L := []) (SoundG.cons Bo.rFault_ok (SoundG.cons Pt.rIsTable_ok (SoundG.cons Pt.rSpan_ok (SoundG.cons Pt.rIn_ok (SoundG.nil _))))) (SoundX.of (SoundRL.nil _) (SoundHL.nil _)) mixed Tryz.func47 (show Tryz.f47.body = some (bodyOf Tryz.f47) by kernel_rfl) noLoopsS (t := (let z0 := (Tree.leaf (RV.x (Value.int IntKind.i64 (1 : Int)))); let z1 := (Tree.leaf (RV.x (Value.int IntKind.i64 (3 : Int)))); (Tree.branch (decide ((↑n : Int) > (12 : Int))) z1 (Tree.branch (decide ((↑m : Int) > (8 : Int))) z1 (Tree.need [isRec 4 n fun k => [Bo.i (a k), Bo.i (b k), Bo.i (u k), Bo.i (v k)]] (Tree.branch (flt c T lo hi n a b u v != (0 : Int)) z0 (Tree.need [isRec 2 m fun k => [Pt.i (p k), Pt.i (q k)], m ≤ 100000] (Tree.branch (!Pt.itB m p q) z0 (Tree.need [(0 : Int) ≤ (0 : Int) ∧ (0 : Int) < (↑m : Int)] (Tree.need [inI64 ((↑m : Int) - (1 : Int))] (Tree.need [(0 : Int) ≤ (↑m : Int) - (1 : Int) ∧ (↑m : Int) - (1 : Int) < (↑m : Int)] (Tree.branch (!Pt.insB (p (Int.toNat (0 : Int))) pl ph (p (Int.toNat ((↑m : Int) - (1 : Int))))) z0 (Tree.branch (!Pt.bt (0 : Int) dl dh) z0 (Tree.branch (decide (dh > (100 : Int))) z0 (Tree.leaf (RV.x (Value.int IntKind.i64 (0 : Int)))))))))))))))))) (by kernel_rfl) ?_
 simp only [Tree.sat, allP, fitP, fitL, valEq, true_and, and_true, decide_eq_true_eq, decide_eq_false_iff_not, bne_iff_ne, ne_eq, bne_eq_false_iff_eq, beq_iff_eq, beq_eq_false_iff_ne, Bool.not_eq_true', Bool.not_eq_false', not_true_eq_false, false_imp_iff, true_imp_iff]
 have f3 : n > 12 ∨ m > 8 → 3 = ftE c T lo hi n a b u v m p q pl ph dl dh := fun h => (if_pos h).symm
 have f1 : ¬ (n > 12 ∨ m > 8) → ¬ (flt c T lo hi n a b u v = 0 ∧ Pt.itB m p q = true ∧ Pt.insB (p 0) pl ph (p (m - 1)) = true ∧ Pt.bt 0 dl dh = true ∧ dh ≤ 100) → 1 = ftE c T lo hi n a b u v m p q pl ph dl dh := fun h h' => by
  unfold ftE
  rw [if_neg h, if_neg h']
 refine ⟨fun h => f3 (by omega), fun h1 => ⟨fun h => f3 (by omega), fun h2 => ⟨Bo.isRec4 n a b u v, fun h => f1 (by omega) (fun h' => h h'.1), fun h3 => ⟨⟨Pt.isRec2 m p q, by omega⟩, fun h => f1 (by omega) (fun h' => by rw [h] at h'; exact Bool.noConfusion h'.2.1), fun h4 => ?_⟩⟩⟩⟩
 have hm : 2 ≤ m := by
  unfold Pt.itB at h4
  rw [Bool.and_eq_true, decide_eq_true_eq] at h4
  exact h4.2
 have e : ((m : Int) - 1).toNat = m - 1 := by omega
 rw [e, show Int.toNat 0 = 0 by rfl]
 simp only [inI64]
 refine ⟨⟨by omega, by omega⟩, ⟨by omega, by omega⟩, ⟨by omega, by omega⟩, fun h => f1 (by omega) (fun h' => by rw [h] at h'; exact Bool.noConfusion h'.2.2.1), fun h5 => ⟨fun h => f1 (by omega) (fun h' => by rw [h] at h'; exact Bool.noConfusion h'.2.2.2.1), fun h6 => ⟨fun h => f1 (by omega) (fun h' => by omega), fun h7 => ?_⟩⟩⟩
 unfold ftE
 rw [if_neg (by omega), if_pos ⟨h3, h4, h5, h6, by omega⟩]
def S_rFault : Sx.Spec := fun l => match l with
 | [.agg [.x (.int .i64 c), .x (.int .i64 T), .x (.int .i64 lo), .x (.int .i64 hi), .lst 4 n fr, .lst 2 m ft, .x (.int .i64 pl), .x (.int .i64 ph), .x (.int .i64 dl), .x (.int .i64 dh)]] => some ([isRec 4 n fr, isRec 2 m ft], i (ftE c T lo hi n (col 0 fr) (col 1 fr) (col 2 fr) (col 3 fr) m (Pt.col 0 ft) (Pt.col 1 ft) pl ph dl dh))
 | _ => none
theorem rFault_ok : SoundSpec Tryz.prog 47 S_rFault := by
 refine ⟨⟨_, Tryz.func47, by kernel_rfl, by kernel_rfl⟩, ?_⟩
 intro avs ns res h hn
 unfold S_rFault at h
 split at h
 ·cases h
  have hr : isRec 4 _ _ := hn _ List.mem_cons_self
  have ht : isRec 2 _ _ := hn _ (List.mem_cons_of_mem _ List.mem_cons_self)
  exact (rFault_at _ _ _ _ _ _ _ _ _ _ _ _ _ _ _ _  ).same (.cons (Sames.same (.cons (.refl _) (.cons (.refl _) (.cons (.refl _) (.cons (.refl _) (.cons (.lst 4 _ _ _ hr) (.cons (.lst 2 _ _ _ ht) (.cons (.refl _) (.cons (.refl _) (.cons (.refl _) (.cons (.refl _) .nil))))))))))) .nil)
 ·cases h
end Go.Proofs.YtlinbkmpkcmniaaGreat
namespace Go.Proofs.YtlinbkmpkcmniaaGreat
open Go Go.Sx Go.RowKit Bo
theorem pbt_eq (lo n hi : Int) : Pt.bt lo n hi = bt lo n hi := by
 rw [Bool.eq_iff_iff, pbt_iff, bt_iff]
theorem rIsUse_at (c T lo hi : Int) (n : Nat) (a b u v : Nat → Int) (m : Nat) (p q : Nat → Int) (pl ph dl dh : Int) (u0 u1 wi : Int) : SoundAt Tryz.prog 34 [.agg [i c, i T, i lo, i hi, rds n a b u v, Pt.scs m p q, i pl, i ph, i dl, i dh], .agg [i u0, i u1, i wi]] (bl (usB c u0 u1 wi)) := by
 refine soundAt_finX (G := [(24, Pt.S_rIn)]) (X := { R := [], H := [] }) (L := []) (SoundG.cons Pt.rIn_ok (SoundG.nil _)) (SoundX.of (SoundRL.nil _) (SoundHL.nil _)) mixed Tryz.func34 (show Tryz.f34.body = some (bodyOf Tryz.f34) by kernel_rfl) noLoopsS (t := (Tree.branch (Pt.bt (0 : Int) u0 u1) (Tree.branch (decide (u1 ≤ c)) (Tree.leaf (RV.x (Value.bool (Pt.bt (0 : Int) wi (1000 : Int))))) (Tree.leaf (RV.x (Value.bool false)))) (Tree.leaf (RV.x (Value.bool false))))) (by kernel_rfl) ?_
 simp only [Tree.sat, allP, fitP, fitL, valEq, true_and, and_true, decide_eq_true_eq, decide_eq_false_iff_not, bne_iff_ne, ne_eq, bne_eq_false_iff_eq, beq_iff_eq, beq_eq_false_iff_ne, Bool.not_eq_true', Bool.not_eq_false', not_true_eq_false, false_imp_iff, true_imp_iff, pbt_eq]
 unfold usB
 refine ⟨fun h => ⟨fun h2 => ?_, fun h2 => ?_⟩, fun h => ?_⟩
 ·rw [h, decide_eq_true h2]
  rfl
 ·rw [h, decide_eq_false h2]
  rfl
 ·rw [h]
  rfl
def S_rIsUse : Sx.Spec := fun l => match l with
 | [.agg [.x (.int .i64 c), .x (.int .i64 T), .x (.int .i64 lo), .x (.int .i64 hi), .lst 4 n fr, .lst 2 m ft, .x (.int .i64 pl), .x (.int .i64 ph), .x (.int .i64 dl), .x (.int .i64 dh)], .agg [.x (.int .i64 u0), .x (.int .i64 u1), .x (.int .i64 wi)]] => some ([isRec 4 n fr, isRec 2 m ft], bl (usB c u0 u1 wi))
 | _ => none
theorem rIsUse_ok : SoundSpec Tryz.prog 34 S_rIsUse := by
 refine ⟨⟨_, Tryz.func34, by kernel_rfl, by kernel_rfl⟩, ?_⟩
 intro avs ns res h hn
 unfold S_rIsUse at h
 split at h
 ·cases h
  have hr : isRec 4 _ _ := hn _ List.mem_cons_self
  have ht : isRec 2 _ _ := hn _ (List.mem_cons_of_mem _ List.mem_cons_self)
  exact (rIsUse_at _ _ _ _ _ _ _ _ _ _ _ _ _ _ _ _ _ _ _ ).same (.cons (Sames.same (.cons (.refl _) (.cons (.refl _) (.cons (.refl _) (.cons (.refl _) (.cons (.lst 4 _ _ _ hr) (.cons (.lst 2 _ _ _ ht) (.cons (.refl _) (.cons (.refl _) (.cons (.refl _) (.cons (.refl _) .nil))))))))))) (.cons (.refl _) .nil))
 ·cases h
end Go.Proofs.YtlinbkmpkcmniaaGreat
namespace Go.Proofs.YtlinbkmpkcmniaaGreat
open Go Go.Sx Go.RowKit Bo
theorem on_lo {c T lo hi : Int} {n : Nat} {a b u v : Nat → Int} {m : Nat} {p q : Nat → Int} {pl ph dl dh day : Int} {k : Nat} (hk : (k : Int) ≤ c) : onL (wkA c T lo hi n a b u v m p q pl ph dl dh) k day = bdL c T lo hi n a b u v m p q pl ph k - upI (dh * day) 100 := by
 unfold onL
 rw [show wkA c T lo hi n a b u v m p q pl ph dl dh (4 + 2 * k) = bdL c T lo hi n a b u v m p q pl ph k from wk_L (by omega)]
 rfl
theorem on_hi {c T lo hi : Int} {n : Nat} {a b u v : Nat → Int} {m : Nat} {p q : Nat → Int} {pl ph dl dh day : Int} {k : Nat} (hk : (k : Int) ≤ c) : onH (wkA c T lo hi n a b u v m p q pl ph dl dh) k day = bdH c T lo hi n a b u v m p q pl ph k - dnI (dl * day) 100 := by
 unfold onH
 rw [show wkA c T lo hi n a b u v m p q pl ph dl dh (5 + 2 * k) = bdH c T lo hi n a b u v m p q pl ph k from wk_H (by omega)]
 rfl
theorem up_mul {T q : Int} (hT : 1 ≤ T) (hq : 0 ≤ q) : upI (T * q) T = q := by
 have h := up_spec (n := T * q) (d := T) (Int.mul_nonneg (by omega) hq) hT
 have e : T * q = q * T := Int.mul_comm _ _
 rw [e] at h ⊢
 generalize upI (q * T) T = U at h ⊢
 have l1 : q ≤ U := Int.le_of_mul_le_mul_right h.2.1 (by omega)
 have l2 : (U - 1) * T < q * T := by rw [Int.sub_mul, Int.one_mul]; omega
 have l3 := Int.lt_of_mul_lt_mul_right l2 (by omega)
 omega
theorem day_bd {day : Int} (h : 0 ≤ day ∧ day ≤ 65535) : 0 ≤ day.tmod 10001 ∧ day.tmod 10001 ≤ 10000 := by
 have := tmod_bd h.1 (show (0 : Int) < 10001 by omega)
 omega
end Go.Proofs.YtlinbkmpkcmniaaGreat
namespace Go.Proofs.YtlinbkmpkcmniaaGreat
open Go Go.Sx Go.RowKit Bo
theorem dn_mono {x y d : Int} (hx : 0 ≤ x) (h : x ≤ y) (hd : 1 ≤ d) : dnI x d ≤ dnI y d := Int.tdiv_le_tdiv (by omega) h
theorem up_mono {x y d : Int} (hx : 0 ≤ x) (h : x ≤ y) (hd : 1 ≤ d) : upI x d ≤ upI y d := Int.tdiv_le_tdiv (by omega) (by omega)
theorem dn_up {x y d : Int} (hx : 0 ≤ x) (h : x ≤ y) (hd : 1 ≤ d) : dnI x d ≤ upI y d := Int.tdiv_le_tdiv (by omega) (by omega)
theorem rd_bd {c T lo hi : Int} {n : Nat} {a b u v : Nat → Int} {m : Nat} {p q : Nat → Int} {pl ph dl dh : Int} (h : rdE c T lo hi n a b u v m p q pl ph dl dh = 0) : tubeB c T lo hi = true ∧ eB c T lo hi n a b u v = 0 ∧ (0 ≤ dl ∧ dl ≤ dh ∧ dh ≤ 100) ∧ (1 ≤ Pt.boilI m p q pl ∧ Pt.boilI m p q ph ≤ 2000 ∧ Pt.boilI m p q pl ≤ Pt.boilI m p q ph) ∧ Pt.blE m p q pl ph = 0 := by
 obtain ⟨h1, h2, h3, h4⟩ := rdE_0 h
 have hv := va_iff.1 h3
 have hs := st_bd hv.1
 exact ⟨hv.2.1, h4, hv.2.2, ⟨hs.1.1, hs.2.1.2, hs.2.2.1⟩, hv.1⟩
theorem bd_le {c T lo hi : Int} {n : Nat} {a b u v : Nat → Int} {m : Nat} {p q : Nat → Int} {pl ph dl dh : Int} (h : rdE c T lo hi n a b u v m p q pl ph dl dh = 0) {k : Nat} (hk : (k : Int) ≤ c) : 0 ≤ bdL c T lo hi n a b u v m p q pl ph k ∧ bdL c T lo hi n a b u v m p q pl ph k ≤ bdH c T lo hi n a b u v m p q pl ph k ∧ bdH c T lo hi n a b u v m p q pl ph k ≤ 2000 := by
 obtain ⟨h1, h2, h3, h4, h5⟩ := rd_bd h
 have hb := tube_bd h1
 have ht := ht_bd h2 hk
 have m1 : 0 ≤ -(fwB c T lo hi n a b u v k 0) * Pt.boilI m p q pl := Int.mul_nonneg ht.1 (by omega)
 have m2 : -(fwB c T lo hi n a b u v k 0) * Pt.boilI m p q pl ≤ fwB c T lo hi n a b u v 0 k * Pt.boilI m p q ph := Int.mul_le_mul ht.2.1 h4.2.2 (by omega) (by omega)
 have m3 : fwB c T lo hi n a b u v 0 k * Pt.boilI m p q ph ≤ T * 2000 := Int.mul_le_mul ht.2.2 h4.2.1 (by omega) (by omega)
 have u1 := up_mono (d := T) (by omega) m3 (by omega)
 rw [up_mul (by omega) (by omega)] at u1
 unfold bdL bdH
 exact ⟨(dn_spec m1 (by omega)).2.2.1, dn_up m1 m2 (by omega), u1⟩
theorem ri_le {dl dh day : Int} (h : 0 ≤ dl ∧ dl ≤ dh ∧ dh ≤ 100) (hd : 0 ≤ day ∧ day ≤ 100000) : 0 ≤ dnI (dl * day) 100 ∧ dnI (dl * day) 100 ≤ upI (dh * day) 100 ∧ upI (dh * day) 100 ≤ 100000 := by
 have m1 : 0 ≤ dl * day := Int.mul_nonneg h.1 hd.1
 have m2 : dl * day ≤ dh * day := Int.mul_le_mul_of_nonneg_right h.2.1 hd.1
 have m3 : dh * day ≤ 100 * 100000 := Int.mul_le_mul h.2.2 hd.2 hd.1 (by omega)
 have u1 := up_mono (d := 100) (by omega) m3 (by omega)
 rw [up_mul (by omega) (by omega)] at u1
 exact ⟨(dn_spec m1 (by omega)).2.2.1, dn_up m1 m2 (by omega), u1⟩
theorem on_le {c T lo hi : Int} {n : Nat} {a b u v : Nat → Int} {m : Nat} {p q : Nat → Int} {pl ph dl dh : Int} {day : Int} (h : rdE c T lo hi n a b u v m p q pl ph dl dh = 0) (hd : 0 ≤ day ∧ day ≤ 100000) {k : Nat} (hk : (k : Int) ≤ c) : onL (wkA c T lo hi n a b u v m p q pl ph dl dh) k day ≤ onH (wkA c T lo hi n a b u v m p q pl ph dl dh) k day ∧ -100000 ≤ onL (wkA c T lo hi n a b u v m p q pl ph dl dh) k day ∧ onH (wkA c T lo hi n a b u v m p q pl ph dl dh) k day ≤ 2000 := by
 have h1 := bd_le h hk
 have h2 := ri_le (rd_bd h).2.2.1 hd
 rw [on_lo hk, on_hi hk]
 omega
theorem ke_iff {c T lo hi : Int} {n : Nat} {a b u v : Nat → Int} {m : Nat} {p q : Nat → Int} {pl ph dl dh : Int} {u0 u1 wi day : Int} (h : rdE c T lo hi n a b u v m p q pl ph dl dh = 0) (hd : 0 ≤ day ∧ day ≤ 100000) (hu : 0 ≤ u0 ∧ u1 ≤ c) : keB c (wkA c T lo hi n a b u v m p q pl ph dl dh) u0 u1 wi day = true ↔ ∀ k : Nat, u0 ≤ k → (k : Int) ≤ u1 → -wi ≤ onL (wkA c T lo hi n a b u v m p q pl ph dl dh) k day - teM c k ∧ onH (wkA c T lo hi n a b u v m p q pl ph dl dh) k day - teM c k ≤ wi := by
 unfold keB
 rw [allI_iff]
 constructor
 ·intro h1 k k1 k2
  have h2 := h1 (k - u0.toNat) (by omega)
  unfold keP at h2
  rw [insB_iff, show (u0 + ((k - u0.toNat : Nat) : Int)).toNat = k by omega] at h2
  exact ⟨h2.1, h2.2.2⟩
 ·intro h1 j hj
  have h2 := h1 (u0 + (j : Int)).toNat (by omega) (by omega)
  have h3 := on_le h hd (k := (u0 + (j : Int)).toNat) (by omega)
  unfold keP
  rw [insB_iff]
  omega
theorem ri_mono {dl dh d d' : Int} (h : 0 ≤ dl ∧ dl ≤ dh) (hd : 0 ≤ d ∧ d ≤ d') : dnI (dl * d) 100 ≤ dnI (dl * d') 100 ∧ upI (dh * d) 100 ≤ upI (dh * d') 100 :=
 ⟨dn_mono (Int.mul_nonneg h.1 hd.1) (Int.mul_le_mul_of_nonneg_left hd.2 h.1) (by omega), up_mono (Int.mul_nonneg (by omega) hd.1) (Int.mul_le_mul_of_nonneg_left hd.2 (by omega)) (by omega)⟩
theorem InstrumentC_at (c T lo hi : Int) (n : Nat) (a b u v : Nat → Int) (m : Nat) (p q : Nat → Int) (pl ph dl dh : Int) (pre0 : n ≤ 100000) (pre1 : m ≤ 100000) : SoundCAt Tryz.prog 20 [.agg [i c, i T, i lo, i hi, rds n a b u v, Pt.scs m p q, i pl, i ph, i dl, i dh]] (.leaf (.agg [i c, i T, i lo, i hi, rds n a b u v, Pt.scs m p q, i pl, i ph, i dl, i dh])) := by
 refine soundCAt_fin (G := [(49, Bo.S_lTube), (50, Bo.S_lReadings), (69, Pt.S_lTable), (42, S_lto)]) (X := { R := [], H := [] }) (L := []) (SoundG.cons Bo.lTube_ok (SoundG.cons Bo.lReadings_ok (SoundG.cons Pt.lTable_ok (SoundG.cons lto_ok (SoundG.nil _))))) (SoundX.of (SoundRL.nil _) (SoundHL.nil _)) mixed Tryz.func20 (show Tryz.f20.body = some (bodyOf Tryz.f20) by kernel_rfl) noLoopsS (t := (Tree.need [isRec 4 n fun k => [Bo.i (a k), Bo.i (b k), Bo.i (u k), Bo.i (v k)], n ≤ 100000] (Tree.need [isRec 2 m fun k => [Pt.i (p k), Pt.i (q k)], m ≤ 100000] (Tree.leaf (AV.agg [iI c, iI T, iI lo, iI hi, AV.lst 4 n fun k => [iI (a k), iI (b k), iI (u k), iI (v k)], AV.lst 2 m fun k => [iI (p k), iI (q k)], iI pl, iI ph, iI dl, iI dh]))))) (by kernel_rfl) ?_
 intro Q hQ
 simp only [Tree.sat, allP, fitP, fitL, valEq, true_and, and_true, decide_eq_true_eq, decide_eq_false_iff_not, bne_iff_ne, ne_eq, bne_eq_false_iff_eq, beq_iff_eq, beq_eq_false_iff_ne, Bool.not_eq_true', Bool.not_eq_false', not_true_eq_false, false_imp_iff, true_imp_iff] at hQ ⊢
 exact ⟨⟨Bo.isRec4 n a b u v, pre0⟩, ⟨Pt.isRec2 m p q, pre1⟩, .agg [i c, i T, i lo, i hi, rds n a b u v, Pt.scs m p q, i pl, i ph, i dl, i dh], ⟨⟨rfl, rfl⟩, ⟨rfl, rfl⟩, ⟨rfl, rfl⟩, ⟨rfl, rfl⟩, ⟨rfl, rfl, fun _ _ => rfl⟩, ⟨rfl, rfl, fun _ _ => rfl⟩, ⟨rfl, rfl⟩, ⟨rfl, rfl⟩, ⟨rfl, rfl⟩, ⟨rfl, rfl⟩, True.intro⟩, hQ⟩
noncomputable def C_Instrument : CSpec := fun l => match l with
 | [.agg [.x (.int .i64 c), .x (.int .i64 T), .x (.int .i64 lo), .x (.int .i64 hi), .lst 4 n fr, .lst 2 m ft, .x (.int .i64 pl), .x (.int .i64 ph), .x (.int .i64 dl), .x (.int .i64 dh)]] => some (.need [isRec 4 n fr, isRec 2 m ft, n ≤ 100000, m ≤ 100000] (.leaf (.agg [i c, i T, i lo, i hi, rds n (col 0 fr) (col 1 fr) (col 2 fr) (col 3 fr), Pt.scs m (Pt.col 0 ft) (Pt.col 1 ft), i pl, i ph, i dl, i dh])))
 | _ => none
theorem Instrument_okC : Sx.Enters Tryz.prog 20 ∧ ∀ avs t, C_Instrument avs = some t → SoundCAt Tryz.prog 20 avs t := by
 refine ⟨⟨_, Tryz.func20, by kernel_rfl, by kernel_rfl⟩, ?_⟩
 intro avs t h
 unfold C_Instrument at h
 split at h
 ·cases h
  intro Q hQ
  have hr : isRec 4 _ _ := allP_mem hQ.1 _ List.mem_cons_self
  have ht : isRec 2 _ _ := allP_mem hQ.1 _ (List.mem_cons_of_mem _ List.mem_cons_self)
  exact SoundCAt.same (InstrumentC_at _ _ _ _ _ _ _ _ _ _ _ _ _ _ _ _ (allP_mem hQ.1 _ (by simp)) (allP_mem hQ.1 _ (by simp))) (.cons (Sames.same (.cons (.refl _) (.cons (.refl _) (.cons (.refl _) (.cons (.refl _) (.cons (.lst 4 _ _ _ hr) (.cons (.lst 2 _ _ _ ht) (.cons (.refl _) (.cons (.refl _) (.cons (.refl _) (.cons (.refl _) .nil))))))))))) .nil) Q hQ.2
 ·cases h
theorem ds_or {c T lo hi : Int} {n : Nat} {a b u v : Nat → Int} {m : Nat} {p q : Nat → Int} {pl ph dl dh : Int} {u0 u1 wi : Int} (h : asE c T lo hi n a b u v m p q pl ph dl dh u0 u1 wi 0 = 0) : (dsE c T lo hi n a b u v m p q pl ph dl dh u0 u1 wi = 0 ∧ dyHi (keD c (wkA c T lo hi n a b u v m p q pl ph dl dh) u0 u1 wi) nD ≥ 0) ∨ (dsE c T lo hi n a b u v m p q pl ph dl dh u0 u1 wi = 11 ∧ ¬ dyHi (keD c (wkA c T lo hi n a b u v m p q pl ph dl dh) u0 u1 wi) nD ≥ 0) := by
 unfold dsE
 rw [if_pos h]
 by_cases h1 : dyHi (keD c (wkA c T lo hi n a b u v m p q pl ph dl dh) u0 u1 wi) nD ≥ 0
 ·exact .inl ⟨if_pos h1, h1⟩
 ·exact .inr ⟨if_neg h1, h1⟩
theorem ds_ends {c T lo hi : Int} {n : Nat} {a b u v : Nat → Int} {m : Nat} {p q : Nat → Int} {pl ph dl dh : Int} {u0 u1 wi : Int} (h : dsE c T lo hi n a b u v m p q pl ph dl dh u0 u1 wi = 0) : dsL c T lo hi n a b u v m p q pl ph dl dh u0 u1 wi = dyLo (keD c (wkA c T lo hi n a b u v m p q pl ph dl dh) u0 u1 wi) nD ∧ dsH c T lo hi n a b u v m p q pl ph dl dh u0 u1 wi = dyHi (keD c (wkA c T lo hi n a b u v m p q pl ph dl dh) u0 u1 wi) nD := ⟨if_pos h, if_pos h⟩
theorem kp_ke {c T lo hi : Int} {n : Nat} {a b u v : Nat → Int} {m : Nat} {p q : Nat → Int} {pl ph dl dh : Int} {u0 u1 wi day : Int} (h : asE c T lo hi n a b u v m p q pl ph dl dh u0 u1 wi day = 0) : kpB c T lo hi n a b u v m p q pl ph dl dh u0 u1 wi day = keB c (wkA c T lo hi n a b u v m p q pl ph dl dh) u0 u1 wi day := by
 unfold kpB
 rw [decide_eq_true h]
 rfl
end Go.Proofs.YtlinbkmpkcmniaaGreat
namespace Go.Proofs.YtlinbkmpkcmniaaGreat
open Go Go.Sx Go.RowKit Bo Bo
end Go.Proofs.YtlinbkmpkcmniaaGreat
namespace Go.Proofs.YtlinbkmpkcmniaaGreat
open Go Go.Sx Go.RowKit Bo
theorem ke_conv {c T lo hi : Int} {n : Nat} {a b u v : Nat → Int} {m : Nat} {p q : Nat → Int} {pl ph dl dh : Int} {u0 u1 wi d d' x : Int} (h : rdE c T lo hi n a b u v m p q pl ph dl dh = 0) (hu : usB c u0 u1 wi = true) (hd : 0 ≤ d ∧ d ≤ x ∧ x ≤ d' ∧ d' ≤ 100000) (h1 : keB c (wkA c T lo hi n a b u v m p q pl ph dl dh) u0 u1 wi d = true) (h2 : keB c (wkA c T lo hi n a b u v m p q pl ph dl dh) u0 u1 wi d' = true) : keB c (wkA c T lo hi n a b u v m p q pl ph dl dh) u0 u1 wi x = true := by
 have hu := usB_iff.1 hu
 have rb := rd_bd h
 rw [ke_iff h (day := d) ⟨by omega, by omega⟩ ⟨by omega, by omega⟩] at h1
 rw [ke_iff h (day := d') ⟨by omega, by omega⟩ ⟨by omega, by omega⟩] at h2
 rw [ke_iff h (day := x) ⟨by omega, by omega⟩ ⟨by omega, by omega⟩]
 have r1 := ri_mono (dl := dl) (dh := dh) (d := d) (d' := x) ⟨rb.2.2.1.1, rb.2.2.1.2.1⟩ ⟨by omega, by omega⟩
 have r2 := ri_mono (dl := dl) (dh := dh) (d := x) (d' := d') ⟨rb.2.2.1.1, rb.2.2.1.2.1⟩ ⟨by omega, by omega⟩
 intro k k1 k2
 have a1 := h1 k k1 k2
 have a2 := h2 k k1 k2
 rw [on_lo (by omega), on_hi (by omega)] at a1 a2 ⊢
 omega
theorem ds_spec {c T lo hi : Int} {n : Nat} {a b u v : Nat → Int} {m : Nat} {p q : Nat → Int} {pl ph dl dh : Int} {u0 u1 wi : Int} (h : rdE c T lo hi n a b u v m p q pl ph dl dh = 0) (hu : usB c u0 u1 wi = true) (h0 : dsE c T lo hi n a b u v m p q pl ph dl dh u0 u1 wi = 0) : ∃ l r : Nat, dsL c T lo hi n a b u v m p q pl ph dl dh u0 u1 wi = l ∧ dsH c T lo hi n a b u v m p q pl ph dl dh u0 u1 wi = r ∧ l ≤ r ∧ r ≤ 10000 ∧ ∀ x : Int, 0 ≤ x → x ≤ 10000 → (kpB c T lo hi n a b u v m p q pl ph dl dh u0 u1 wi x = true ↔ (l : Int) ≤ x ∧ x ≤ r) := by
 have hn : nD = 10001 := rfl
 have ha := asE_of h hu (day := 0) (by omega)
 have hg : dyHi (keD c (wkA c T lo hi n a b u v m p q pl ph dl dh) u0 u1 wi) nD ≥ 0 := by
  rcases ds_or ha with g | g
  ·exact g.2
  ·rw [h0] at g
   exact absurd g.1 (by decide)
 have he := ds_ends h0
 rcases dyHi_spec (keD c (wkA c T lo hi n a b u v m p q pl ph dl dh) u0 u1 wi) nD with ⟨a1, a2⟩ | ⟨r, a1, a2, a3, a4⟩
 ·omega
 ·rcases dyLo_spec (keD c (wkA c T lo hi n a b u v m p q pl ph dl dh) u0 u1 wi) nD (by omega) with ⟨c1, c2⟩ | ⟨l, c1, c2, c3, c4⟩
  ·rw [c2 r a1] at a2
   cases a2
  ·have hlr : l ≤ r := by
    rcases Nat.lt_or_ge r l with hh | hh
    ·rw [c4 r hh] at a2
     cases a2
    ·exact hh
   refine ⟨l, r, he.1.trans c3, he.2.trans a3, hlr, by omega, fun x x1 x2 => ?_⟩
   rw [kp_ke (asE_of h hu ⟨x1, x2⟩)]
   have ex : ((x.toNat : Nat) : Int) = x := by omega
   have ek : keD c (wkA c T lo hi n a b u v m p q pl ph dl dh) u0 u1 wi x.toNat = keB c (wkA c T lo hi n a b u v m p q pl ph dl dh) u0 u1 wi x := by
    unfold keD
    rw [ex]
   constructor
   ·intro hk
    rw [← ek] at hk
    constructor
    ·rcases Nat.lt_or_ge x.toNat l with hh | hh
     ·rw [c4 _ hh] at hk
      cases hk
     ·omega
    ·rcases Nat.lt_or_ge r x.toNat with hh | hh
     ·rw [a4 _ hh (by omega)] at hk
      cases hk
     ·omega
   ·intro hk
    exact ke_conv h hu ⟨by omega, hk.1, hk.2, by omega⟩ c2 a2
theorem ds_none {c T lo hi : Int} {n : Nat} {a b u v : Nat → Int} {m : Nat} {p q : Nat → Int} {pl ph dl dh : Int} {u0 u1 wi : Int} (h : rdE c T lo hi n a b u v m p q pl ph dl dh = 0) (hu : usB c u0 u1 wi = true) (h0 : dsE c T lo hi n a b u v m p q pl ph dl dh u0 u1 wi = 11) {x : Int} (hx : 0 ≤ x ∧ x ≤ 10000) : kpB c T lo hi n a b u v m p q pl ph dl dh u0 u1 wi x = false := by
 have hn : nD = 10001 := rfl
 have ha := asE_of h hu (day := 0) (by omega)
 have hg : ¬ dyHi (keD c (wkA c T lo hi n a b u v m p q pl ph dl dh) u0 u1 wi) nD ≥ 0 := by
  rcases ds_or ha with g | g
  ·rw [h0] at g
   exact absurd g.1 (by decide)
  ·exact g.2
 rcases dyHi_spec (keD c (wkA c T lo hi n a b u v m p q pl ph dl dh) u0 u1 wi) nD with ⟨a1, a2⟩ | ⟨r, a1, a2, a3, a4⟩
 ·rw [kp_ke (asE_of h hu hx)]
  have := a2 x.toNat (by omega)
  unfold keD at this
  rw [show ((x.toNat : Nat) : Int) = x by omega] at this
  exact this
 ·omega
end Go.Proofs.YtlinbkmpkcmniaaGreat
namespace Go.Proofs.YtlinbkmpkcmniaaGreat
open Go Go.Sx Go.RowKit Bo
end Go.Proofs.YtlinbkmpkcmniaaGreat
namespace Go.Proofs.YtlinbkmpkcmniaaGreat
open Go Go.Sx Go.RowKit Bo
theorem rd_ft {c T lo hi : Int} {n : Nat} {a b u v : Nat → Int} {m : Nat} {p q : Nat → Int} {pl ph dl dh : Int} : rdE c T lo hi n a b u v m p q pl ph dl dh = if ftE c T lo hi n a b u v m p q pl ph dl dh = 0 then eB c T lo hi n a b u v else ftE c T lo hi n a b u v m p q pl ph dl dh := by
 by_cases h : ftE c T lo hi n a b u v m p q pl ph dl dh = 0
 ·rw [if_pos h]
  obtain ⟨h1, h2, h3⟩ := ft_0.1 h
  have h4 := va_bl.1 (va_iff.1 h3).1
  have h5 := eB_or h2
  unfold rdE
  rw [if_neg (by omega), if_pos ⟨h3, by rw [h5]; split <;> simp⟩]
 ·rw [if_neg h]
  unfold rdE
  by_cases h1 : n > 12 ∨ m > 8
  ·rw [if_pos h1]
   unfold ftE
   rw [if_pos h1]
  ·rw [if_neg h1]
   have h2 : ftE c T lo hi n a b u v m p q pl ph dl dh = 1 := by
    unfold ftE at h ⊢
    rw [if_neg h1] at h ⊢
    split
    ·rename_i h'
     rw [if_pos h'] at h
     exact absurd rfl h
    ·rfl
   rw [h2, if_neg]
   rintro ⟨h3, h4⟩
   refine h (ft_0.2 ⟨by omega, ?_, h3⟩)
   have hf : ¬ flt c T lo hi n a b u v = 0 → eB c T lo hi n a b u v = flt c T lo hi n a b u v := fun h => if_neg h
   by_cases h5 : flt c T lo hi n a b u v = 0
   ·exact h5
   ·have h6 := hf h5
    unfold flt at h5 h6
    rw [h6] at h4
    revert h4
    repeat' split
    all_goals first | (intro h; omega) | (exfalso; rename_i h; simp_all; done)
noncomputable def E_lh (c T lo hi : Int) (n : Nat) (a b u v : Nat → Int) (m : Nat) (p q : Nat → Int) (pl ph dl dh : Int) : St := (some { σ := [AV.agg [iI c, iI T, iI lo, iI hi, AV.lst 4 n fun k => [iI (a k), iI (b k), iI (u k), iI (v k)], AV.lst 2 m fun k => [iI (p k), iI (q k)], iI pl, iI ph, iI dl, iI dh], AV.ptr 0 0, AV.x (Value.slice none 0 0), iI (0 : Int), iI (ftE c T lo hi n a b u v m p q pl ph dl dh), AV.lst 2 (lenB c T lo hi n a b u v) fun k => [iI (-fwB c T lo hi n a b u v k 0), iI (fwB c T lo hi n a b u v 0 k)], iI (eB c T lo hi n a b u v)] ++ tpL 50 [], m := [(900, Res.row 29 2 0 fun x => []), (0, Res.cells 31 [iI c, iI T, iI lo, iI hi, AV.lst 4 n fun k => [iI (a k), iI (b k), iI (u k), iI (v k)], AV.lst 2 m fun k => [iI (p k), iI (q k)], iI pl, iI ph, iI dl, iI dh])], nx := 901 } : Option St).getD { σ := [], m := [], nx := 0 }
noncomputable def B_lh : Code := loopBody (loopAt (bodyOf Tryz.f22) 0)
noncomputable def inv_lh (c T lo hi : Int) (n : Nat) (a b u v : Nat → Int) (m : Nat) (p q : Nat → Int) (pl ph dl dh : Int) (k : Nat) : St := { σ := ovrS [(7, .row 900), (8, i k)] (E_lh c T lo hi n a b u v m p q pl ph dl dh).σ, m := [(900, .row 29 2 (k) (fun k => [i (-(fwB c T lo hi n a b u v k 0)), i (fwB c T lo hi n a b u v 0 k)])), (0, .cells 31 [i c, i T, i lo, i hi, rds n a b u v, Pt.scs m p q, i pl, i ph, i dl, i dh])], nx := (E_lh c T lo hi n a b u v m p q pl ph dl dh).nx }
noncomputable def out_lh (c T lo hi : Int) (n : Nat) (a b u v : Nat → Int) (m : Nat) (p q : Nat → Int) (pl ph dl dh : Int) (k : Nat) : AEx → Option St := fun ex => match ex with
 | .exit 0 => some { σ := ovrS [(7, .row 900)] (E_lh c T lo hi n a b u v m p q pl ph dl dh).σ, m := [(900, .row 29 2 (lenB c T lo hi n a b u v) (fun k => [i (-(fwB c T lo hi n a b u v k 0)), i (fwB c T lo hi n a b u v 0 k)])), (0, .cells 31 [i c, i T, i lo, i hi, rds n a b u v, Pt.scs m p q, i pl, i ph, i dl, i dh])], nx := (E_lh c T lo hi n a b u v m p q pl ph dl dh).nx }
 | _ => none
noncomputable def T_lh (c T lo hi : Int) (n : Nat) (a b u v : Nat → Int) (m : Nat) (p q : Nat → Int) (pl ph dl dh : Int) : CT := .leaf (.exit 0, ( out_lh c T lo hi n a b u v m p q pl ph dl dh 0 (.exit 0)).getD (E_lh c T lo hi n a b u v m p q pl ph dl dh))
noncomputable def LS_lh (c T lo hi : Int) (n : Nat) (a b u v : Nat → Int) (m : Nat) (p q : Nat → Int) (pl ph dl dh : Int) : LSpec := normSp [(.slot 7, 900, 29, 2)] (sumL (inv_lh c T lo hi n a b u v m p q pl ph dl dh (0)) (T_lh c T lo hi n a b u v m p q pl ph dl dh))
theorem lh_ls (c T lo hi : Int) (n : Nat) (a b u v : Nat → Int) (m : Nat) (p q : Nat → Int) (pl ph dl dh : Int) (pre0 : ftE c T lo hi n a b u v m p q pl ph dl dh = 0) : LSound Tryz.prog (.loop B_lh) (LS_lh c T lo hi n a b u v m p q pl ph dl dh) := by
 refine loop_roundsX [(.slot 7, 900, 29, 2)] (E := { R := [], H := [] }) (G := [(47, S_rFault), (49, Bo.S_lTube), (50, Bo.S_lReadings), (70, Bo.S_Heights)]) (L := []) (SoundG.cons rFault_ok (SoundG.cons Bo.lTube_ok (SoundG.cons Bo.lReadings_ok (SoundG.cons Bo.Heights_ok (SoundG.nil _))))) (SoundX.of (SoundRL.nil _) (SoundHL.nil _)) mixed noLoops (X := Nat) (inv_lh c T lo hi n a b u v m p q pl ph dl dh) (fun k => k ≤ lenB c T lo hi n a b u v) (fun k => lenB c T lo hi n a b u v - k) (out_lh c T lo hi n a b u v m p q pl ph dl dh) (x0 := 0) (by simp) ?_ ?_ ?_
 ·rintro k
  kernel_rfl
 ·rintro k y E h
  unfold out_lh at h
  split at h
  ·cases h; kernel_rfl
  ·cases h
 ·rintro Q hQ k hx
  refine ⟨(k + 1), ?_⟩
  have e : roundX Tryz.prog [(47, S_rFault), (49, Bo.S_lTube), (50, Bo.S_lReadings), (70, Bo.S_Heights)] { R := [], H := [] } [] [(.slot 7, 900, 29, 2)] B_lh (inv_lh c T lo hi n a b u v m p q pl ph dl dh k) (inv_lh c T lo hi n a b u v m p q pl ph dl dh ((k + 1))) (out_lh c T lo hi n a b u v m p q pl ph dl dh k) = (let z0 := fwB c T lo hi n a b u v; let z1 := lenB c T lo hi n a b u v; let z2 := (AV.agg [iI c, iI T, iI lo, iI hi, AV.lst 4 n fun k => [iI (a k), iI (b k), iI (u k), iI (v k)], AV.lst 2 m fun k => [iI (p k), iI (q k)], iI pl, iI ph, iI dl, iI dh]); let z3 := (AV.lst 2 (z1) fun k => [iI (-z0 k 0), iI (z0 0 k)]); (Tree.branch (decide ((↑k : Int) < (↑(z1) : Int))) (Tree.need [(0 : Int) ≤ (↑k : Int) ∧ (↑k : Int) < (↑(z1) : Int)] (Tree.need [(0 : Int) ≤ (↑k : Int) ∧ (↑k : Int) < (↑(z1) : Int)] (Tree.need [(k + 1) * 16 ≤ 140737488355328, ∀ (i : Nat), i < 1 → ∀ (a_2 : AV), a_2 ∈ chunk 2 [iI (-z0 k 0), iI (z0 0 k)] i → AV.one a_2 = true] (Tree.need [inI64 ((↑k : Int) + (1 : Int))] (Tree.need [Eq1 z2, Eq1 (AV.ptr 0 0), Eq1 (AV.x (Value.slice none 0 0)), Eq1 (0 : Int), Eq1 (ftE c T lo hi n a b u v m p q pl ph dl dh), z3 = AV.lst 2 (z1) fun k => [iI (-z0 k 0), iI (z0 0 k)], Eq1 (eB c T lo hi n a b u v), Eq1 (AV.row 900), (↑k : Int) + (1 : Int) = (↑(k + 1) : Int), k + 1 = k + 1, ∀ (i : Nat), i < k + 1 → catF k (fun k => [iI (-z0 k 0), iI (z0 0 k)]) (chunk 2 [iI (-z0 k 0), iI (z0 0 k)]) i = [iI (-z0 i 0), iI (z0 0 i)], c = c, T = T, lo = lo, hi = hi, (AV.lst 4 n fun k => [iI (a k), iI (b k), iI (u k), iI (v k)]) = AV.lst 4 n fun k => [iI (a k), iI (b k), iI (u k), iI (v k)], (AV.lst 2 m fun k => [iI (p k), iI (q k)]) = AV.lst 2 m fun k => [iI (p k), iI (q k)], pl = pl, ph = ph, dl = dl, dh = dh] (Tree.leaf AEx.normal)))))) (Tree.need [Eq1 z2, Eq1 (AV.ptr 0 0), Eq1 (AV.x (Value.slice none 0 0)), Eq1 (0 : Int), Eq1 (ftE c T lo hi n a b u v m p q pl ph dl dh), z3 = AV.lst 2 (z1) fun k => [iI (-z0 k 0), iI (z0 0 k)], Eq1 (eB c T lo hi n a b u v), Eq1 (AV.row 900), k = z1, ∀ (i : Nat), i < z1 → [iI (-z0 i 0), iI (z0 0 i)] = [iI (-z0 i 0), iI (z0 0 i)], c = c, T = T, lo = lo, hi = hi, (AV.lst 4 n fun k => [iI (a k), iI (b k), iI (u k), iI (v k)]) = AV.lst 4 n fun k => [iI (a k), iI (b k), iI (u k), iI (v k)], (AV.lst 2 m fun k => [iI (p k), iI (q k)]) = AV.lst 2 m fun k => [iI (p k), iI (q k)], pl = pl, ph = ph, dl = dl, dh = dh] (Tree.leaf (AEx.exit 0))))) := by kernel_rfl
  rw [e]
  simp only [T_lh, out_lh, Tree.sat, Option.getD_some] at hQ
  simp only [Tree.sat, allP, fitP, fitL, valEq, true_and, and_true, decide_eq_true_eq, decide_eq_false_iff_not, bne_iff_ne, ne_eq, bne_eq_false_iff_eq, beq_iff_eq, beq_eq_false_iff_ne, Bool.not_eq_true', Bool.not_eq_false', not_true_eq_false, false_imp_iff, true_imp_iff]
  clear e
  have hl : lenB c T lo hi n a b u v = 0 ∨ (lenB c T lo hi n a b u v = c.toNat + 1 ∧ c ≤ 10) := by
   unfold lenB
   split
   ·rename_i h
    exact .inr ⟨rfl, (tube_bd (flt_iff.1 (ft_0.1 pre0).2.1).1).1.2⟩
   ·exact .inl rfl
  simp only [inI64]
  refine ⟨fun h => ?_, fun h => ?_⟩
  ·(repeat' first | with_reducible apply And.intro | with_reducible intro _)
   all_goals first | exact True.intro | omega | with_reducible rfl | exact one_of (by assumption) (by simp [AV.one, Value.oneCell']) | exact cat2 (by assumption) rfl rfl | (exact cat2 rfl rfl (by assumption)) | trace_state
  ·obtain rfl : k = lenB c T lo hi n a b u v := by omega
   exact ⟨⟨rfl, fun _ _ => trivial⟩, fun E hE => by cases hE; exact hQ⟩
def lhN (c T lo hi : Int) (n : Nat) (a b u v : Nat → Int) (m : Nat) (p q : Nat → Int) (pl ph dl dh : Int) : Nat := if rdE c T lo hi n a b u v m p q pl ph dl dh = 0 then c.toNat + 1 else 0
theorem lHeights_at (c T lo hi : Int) (n : Nat) (a b u v : Nat → Int) (m : Nat) (p q : Nat → Int) (pl ph dl dh : Int) : SoundAt Tryz.prog 22 [.agg [i c, i T, i lo, i hi, rds n a b u v, Pt.scs m p q, i pl, i ph, i dl, i dh]] (.tup [.lst 2 (lhN c T lo hi n a b u v m p q pl ph dl dh) (fun k => [i (-(fwB c T lo hi n a b u v k 0)), i (fwB c T lo hi n a b u v 0 k)]), i (rdE c T lo hi n a b u v m p q pl ph dl dh)]) := by
 refine soundAt_finX (G := [(47, S_rFault), (49, Bo.S_lTube), (50, Bo.S_lReadings), (70, Bo.S_Heights)]) (X := { R := [], H := [] }) (L := [needSp [ftE c T lo hi n a b u v m p q pl ph dl dh = 0] (LS_lh c T lo hi n a b u v m p q pl ph dl dh)]) (SoundG.cons rFault_ok (SoundG.cons Bo.lTube_ok (SoundG.cons Bo.lReadings_ok (SoundG.cons Bo.Heights_ok (SoundG.nil _))))) (SoundX.of (SoundRL.nil _) (SoundHL.nil _)) mixed Tryz.func22 (show Tryz.f22.body = some (bodyOf Tryz.f22) by kernel_rfl) (one_loop (fun cj hcj => by
  have e : loopAt (bodyOf Tryz.f22) 0 = some (.loop B_lh) := by kernel_rfl
  rw [e] at hcj; cases hcj
  exact (needSp_sound (ps := [ftE c T lo hi n a b u v m p q pl ph dl dh = 0]) (fun h => lh_ls c T lo hi n a b u v m p q pl ph dl dh h)).N)) (t := (let z2 := ftE c T lo hi n a b u v m p q pl ph dl dh; let z3 := (lenB c T lo hi n a b u v); let z1 := fwB c T lo hi n a b u v; let z0 := (Tree.need [z2 = (0 : Int)] (Tree.need [Eq1 (AV.agg [iI c, iI T, iI lo, iI hi, AV.lst 4 n fun k => [iI (a k), iI (b k), iI (u k), iI (v k)], AV.lst 2 m fun k => [iI (p k), iI (q k)], iI pl, iI ph, iI dl, iI dh]), Eq1 (AV.ptr 0 0), Eq1 (AV.x (Value.slice none 0 0)), Eq1 (0 : Int), Eq1 (z2), (AV.lst 2 z3 fun k => [iI (-z1 k 0), iI (z1 0 k)]) = AV.lst 2 z3 fun k => [iI (-z1 k 0), iI (z1 0 k)], Eq1 (eB c T lo hi n a b u v), Eq1 (AV.row 900), (0 : Int) = (↑(0 : Nat) : Int), 0 = 0, ∀ (i : Nat), i < 0 → [] = [iI (-z1 i 0), iI (z1 0 i)], c = c, T = T, lo = lo, hi = hi, (AV.lst 4 n fun k => [iI (a k), iI (b k), iI (u k), iI (v k)]) = AV.lst 4 n fun k => [iI (a k), iI (b k), iI (u k), iI (v k)], (AV.lst 2 m fun k => [iI (p k), iI (q k)]) = AV.lst 2 m fun k => [iI (p k), iI (q k)], pl = pl, ph = ph, dl = dl, dh = dh] (Tree.leaf (RV.tup [RV.lst 2 z3 fun k => [iI (-z1 k 0), iI (z1 0 k)], RV.x (Value.int IntKind.i64 (eB c T lo hi n a b u v))])))); (Tree.need [isRec 4 n fun k => [Bo.i (a k), Bo.i (b k), Bo.i (u k), Bo.i (v k)], isRec 2 m fun k => [Pt.i (p k), Pt.i (q k)]] (Tree.branch (z2 != (0 : Int)) (Tree.leaf (RV.tup [RV.x (Value.slice none 0 0), RV.x (Value.int IntKind.i64 (z2))])) (Tree.need [isRec 4 n fun k => [Bo.i (a k), Bo.i (b k), Bo.i (u k), Bo.i (v k)], n ≤ 100000] (Tree.need [isRec 4 n fun k => [Bo.i (a k), Bo.i (b k), Bo.i (u k), Bo.i (v k)]] (Tree.branch (eB c T lo hi n a b u v == (0 : Int)) (Tree.need [inI64 (c + (1 : Int))] (Tree.branch ((↑z3 : Int) != c + (1 : Int)) (Tree.leaf (RV.tup [RV.x (Value.slice none 0 0), RV.x (Value.int IntKind.i64 (-1 : Int))])) z0)) z0))))))) (by kernel_rfl) ?_
 simp only [Tree.sat, allP, fitP, fitL, valEq, true_and, and_true, decide_eq_true_eq, decide_eq_false_iff_not, bne_iff_ne, ne_eq, bne_eq_false_iff_eq, beq_iff_eq, beq_eq_false_iff_ne, Bool.not_eq_true', Bool.not_eq_false', not_true_eq_false, false_imp_iff, true_imp_iff]
 have e := rd_ft (c := c) (T := T) (lo := lo) (hi := hi) (n := n) (a := a) (b := b) (u := u) (v := v) (m := m) (p := p) (q := q) (pl := pl) (ph := ph) (dl := dl) (dh := dh)
 refine ⟨⟨Bo.isRec4 n a b u v, Pt.isRec2 m p q⟩, fun h => ?_, fun h => ?_⟩
 ·rw [if_neg h] at e
  exact ⟨⟨trivial, if_neg (by rw [e]; exact h)⟩, e.symm⟩
 rw [if_pos h] at e
 have f := ft_0.1 h
 have tb := tube_bd (va_iff.1 f.2.2).2.1
 refine ⟨⟨Bo.isRec4 n a b u v, by omega⟩, Bo.isRec4 n a b u v, fun h1 => ?_, fun h1 => ?_⟩
 ·have hl : lenB c T lo hi n a b u v = c.toNat + 1 := if_pos h1
  have hn : lhN c T lo hi n a b u v m p q pl ph dl dh = c.toNat + 1 := if_pos (e.trans h1)
  rw [hl, hn]
  simp only [inI64]
  refine ⟨by omega, fun h2 => absurd (by omega) h2, fun _ => ⟨h, ⟨rfl, fun j hj => absurd hj (Nat.not_lt_zero j)⟩, ⟨trivial, fun j _ x hx => ?_⟩, e.symm⟩⟩
  simp only [List.mem_cons, List.not_mem_nil, or_false] at hx
  rcases hx with rfl | rfl <;> exact True.intro
 ·have hl : lenB c T lo hi n a b u v = 0 := if_neg h1
  have hn : lhN c T lo hi n a b u v m p q pl ph dl dh = 0 := if_neg (by rw [e]; exact h1)
  rw [hl, hn]
  refine ⟨h, ⟨rfl, fun j hj => absurd hj (Nat.not_lt_zero j)⟩, ⟨rfl, fun j hj => absurd hj (Nat.not_lt_zero j)⟩, e.symm⟩
def S_lHeights : Sx.Spec := fun l => match l with
 | [.agg [.x (.int .i64 c), .x (.int .i64 T), .x (.int .i64 lo), .x (.int .i64 hi), .lst 4 n fr, .lst 2 m ft, .x (.int .i64 pl), .x (.int .i64 ph), .x (.int .i64 dl), .x (.int .i64 dh)]] => some ([isRec 4 n fr, isRec 2 m ft], .tup [.lst 2 (lhN c T lo hi n (col 0 fr) (col 1 fr) (col 2 fr) (col 3 fr) m (Pt.col 0 ft) (Pt.col 1 ft) pl ph dl dh) (fun k => [i (-(fwB c T lo hi n (col 0 fr) (col 1 fr) (col 2 fr) (col 3 fr) k 0)), i (fwB c T lo hi n (col 0 fr) (col 1 fr) (col 2 fr) (col 3 fr) 0 k)]), i (rdE c T lo hi n (col 0 fr) (col 1 fr) (col 2 fr) (col 3 fr) m (Pt.col 0 ft) (Pt.col 1 ft) pl ph dl dh)])
 | _ => none
theorem lHeights_ok : SoundSpec Tryz.prog 22 S_lHeights := by
 refine ⟨⟨_, Tryz.func22, by kernel_rfl, by kernel_rfl⟩, ?_⟩
 intro avs ns res h hn
 unfold S_lHeights at h
 split at h
 ·cases h
  have hr : isRec 4 _ _ := hn _ List.mem_cons_self
  have ht : isRec 2 _ _ := hn _ (List.mem_cons_of_mem _ List.mem_cons_self)
  exact (lHeights_at _ _ _ _ _ _ _ _ _ _ _ _ _ _ _ _  ).same (.cons (Sames.same (.cons (.refl _) (.cons (.refl _) (.cons (.refl _) (.cons (.refl _) (.cons (.lst 4 _ _ _ hr) (.cons (.lst 2 _ _ _ ht) (.cons (.refl _) (.cons (.refl _) (.cons (.refl _) (.cons (.refl _) .nil))))))))))) .nil)
 ·cases h
end Go.Proofs.YtlinbkmpkcmniaaGreat
namespace Go.Proofs.YtlinbkmpkcmniaaGreat
open Go Go.Sx Go.RowKit Bo
end Go.Proofs.YtlinbkmpkcmniaaGreat
namespace Go.Proofs.YtlinbkmpkcmniaaGreat
open Go Go.Sx Go.RowKit Bo
end Go.Proofs.YtlinbkmpkcmniaaGreat
namespace Go.Proofs.YtlinbkmpkcmniaaGreat
open Go Go.Sx Go.RowKit Bo
end Go.Proofs.YtlinbkmpkcmniaaGreat
namespace Go.Proofs.YtlinbkmpkcmniaaGreat
open Go Go.Sx Go.RowKit Bo
end Go.Proofs.YtlinbkmpkcmniaaGreat
namespace Go.Proofs.YtlinbkmpkcmniaaGreat
open Go Go.Sx Go.RowKit Bo
def fstE (e : Nat → Int) : Nat → Int
 | 0 => 0
 | k + 1 => if fstE e k = 0 then e k else fstE e k
def bsP (L H : Nat → Int) (day : Int) (x : Int) (k : Nat) : Bool := decide (H k ≥ 0) && bt (L k) day (H k) && decide (H k > x)
def bsX (L H : Nat → Int) (day : Int) : Nat → Int
 | 0 => -1
 | k + 1 => if bsP L H day (bsX L H day k) k then H k else bsX L H day k
def bsW (L H : Nat → Int) (day : Int) : Nat → Int
 | 0 => 0
 | k + 1 => if bsP L H day (bsX L H day k) k then k else bsW L H day k
def aE (N : Nat) (C T lo hi : Nat → Int) (n : Nat → Nat) (fr : Nat → Nat → List AV) (m : Nat → Nat) (ft : Nat → Nat → List AV) (pl ph dl dh : Nat → Int) (u0 u1 wi : Int) (k : Nat) : Int := asE (C k) (T k) (lo k) (hi k) (n k) (col 0 (fr k)) (col 1 (fr k)) (col 2 (fr k)) (col 3 (fr k)) (m k) (Pt.col 0 (ft k)) (Pt.col 1 (ft k)) (pl k) (ph k) (dl k) (dh k) u0 u1 wi 0
def aL (N : Nat) (C T lo hi : Nat → Int) (n : Nat → Nat) (fr : Nat → Nat → List AV) (m : Nat → Nat) (ft : Nat → Nat → List AV) (pl ph dl dh : Nat → Int) (u0 u1 wi : Int) (k : Nat) : Int := dyLo (keD (C k) (wkA (C k) (T k) (lo k) (hi k) (n k) (col 0 (fr k)) (col 1 (fr k)) (col 2 (fr k)) (col 3 (fr k)) (m k) (Pt.col 0 (ft k)) (Pt.col 1 (ft k)) (pl k) (ph k) (dl k) (dh k)) u0 u1 wi) nD
def aH (N : Nat) (C T lo hi : Nat → Int) (n : Nat → Nat) (fr : Nat → Nat → List AV) (m : Nat → Nat) (ft : Nat → Nat → List AV) (pl ph dl dh : Nat → Int) (u0 u1 wi : Int) (k : Nat) : Int := dyHi (keD (C k) (wkA (C k) (T k) (lo k) (hi k) (n k) (col 0 (fr k)) (col 1 (fr k)) (col 2 (fr k)) (col 3 (fr k)) (m k) (Pt.col 0 (ft k)) (Pt.col 1 (ft k)) (pl k) (ph k) (dl k) (dh k)) u0 u1 wi) nD
def btE (N : Nat) (C T lo hi : Nat → Int) (n : Nat → Nat) (fr : Nat → Nat → List AV) (m : Nat → Nat) (ft : Nat → Nat → List AV) (pl ph dl dh : Nat → Int) (u0 u1 wi : Int) (day : Int) : Int := if N > 8 then 3 else if fstE (aE N C T lo hi n fr m ft pl ph dl dh u0 u1 wi) N = 0 then (if bt 0 day 10000 then (if bsX (aL N C T lo hi n fr m ft pl ph dl dh u0 u1 wi) (aH N C T lo hi n fr m ft pl ph dl dh u0 u1 wi) day N < 0 then 11 else 0) else 2) else fstE (aE N C T lo hi n fr m ft pl ph dl dh u0 u1 wi) N
def btW (N : Nat) (C T lo hi : Nat → Int) (n : Nat → Nat) (fr : Nat → Nat → List AV) (m : Nat → Nat) (ft : Nat → Nat → List AV) (pl ph dl dh : Nat → Int) (u0 u1 wi : Int) (day : Int) : Int := if btE N C T lo hi n fr m ft pl ph dl dh u0 u1 wi day = 0 then bsW (aL N C T lo hi n fr m ft pl ph dl dh u0 u1 wi) (aH N C T lo hi n fr m ft pl ph dl dh u0 u1 wi) day N else 0
def btX (N : Nat) (C T lo hi : Nat → Int) (n : Nat → Nat) (fr : Nat → Nat → List AV) (m : Nat → Nat) (ft : Nat → Nat → List AV) (pl ph dl dh : Nat → Int) (u0 u1 wi : Int) (day : Int) : Int := if btE N C T lo hi n fr m ft pl ph dl dh u0 u1 wi day = 0 then bsX (aL N C T lo hi n fr m ft pl ph dl dh u0 u1 wi) (aH N C T lo hi n fr m ft pl ph dl dh u0 u1 wi) day N else 0
theorem catW1 {F : Nat → List AV} {k j : Nat} {x : AV} (hx : F k = [x]) (hs : ∀ k, ∃ y, F k = [y] ∧ (∀ v, y ≠ .x v)) (hj : j < k + 1) : catF k F (chunk 1 [x]) j = F j := by
 show mergeL (decide (j < k)) (F j) (chunk 1 [x] (j - k)) = _
 rw [show j - k = 0 by omega]
 obtain ⟨y, hy, hn⟩ := hs j
 have e0 : mergeL (decide (j < k)) [y] [x] = [mergeAV (decide (j < k)) y x] := by cases decide (j < k) <;> rfl
 rw [hy, show chunk 1 [x] 0 = [x] from rfl, e0]
 by_cases h : j < k
 ·rw [decide_eq_true h]
  unfold mergeAV
  split
  ·exact absurd rfl (hn _)
  ·exact absurd rfl (hn _)
  ·rfl
 ·obtain rfl : j = k := by omega
  rw [decide_eq_false h]
  rw [hy] at hx
  cases hx
  unfold mergeAV
  split
  ·exact absurd rfl (hn _)
  ·exact absurd rfl (hn _)
  ·rfl
theorem fstE_0 {e : Nat → Int} : ∀ {N : Nat}, fstE e N = 0 ↔ ∀ k, k < N → e k = 0
 | 0 => ⟨fun _ k h => absurd h (Nat.not_lt_zero _), fun _ => rfl⟩
 | N + 1 => by
  have ih := fstE_0 (e := e) (N := N)
  unfold fstE
  constructor
  ·intro h k hk
   split at h
   ·rename_i h0
    rcases (show k < N ∨ k = N by omega) with h1 | rfl
    ·exact ih.1 h0 k h1
    ·exact h
   ·rename_i h0
    exact absurd h h0
  ·intro h
   rw [if_pos (ih.2 fun k hk => h k (by omega))]
   exact h N (by omega)
theorem fstE_at {e : Nat → Int} {k : Nat} (h : ∀ j, j < k → e j = 0) (hk : e k ≠ 0) : ∀ {N : Nat}, k < N → fstE e N = e k
 | 0, h1 => absurd h1 (Nat.not_lt_zero _)
 | N + 1, h1 => by
  unfold fstE
  rcases (show k < N ∨ k = N by omega) with h2 | rfl
  ·have := fstE_at h hk h2
   rw [this, if_neg hk]
  ·rw [if_pos (fstE_0.2 h)]
theorem bsW_bd {L H : Nat → Int} {day : Int} : ∀ N, 0 ≤ bsW L H day N ∧ bsW L H day N ≤ N
 | 0 => by simp [bsW]
 | N + 1 => by
  have := bsW_bd (L := L) (H := H) (day := day) N
  unfold bsW
  split <;> omega
noncomputable def E_b1 (N : Nat) (C T lo hi : Nat → Int) (n : Nat → Nat) (fr : Nat → Nat → List AV) (m : Nat → Nat) (ft : Nat → Nat → List AV) (pl ph dl dh : Nat → Int) (u0 u1 wi : Int) (day : Int) : St := (some { σ := [AV.lst 10 N fun k => [iI (C k), iI (T k), iI (lo k), iI (hi k), AV.lst 4 (n k) fun a => fr k a, AV.lst 2 (m k) fun a => ft k a, iI (pl k), iI (ph k), iI (dl k), iI (dh k)], AV.agg [iI u0, iI u1, iI wi], iI day, AV.top, AV.ptr 0 0] ++ tpL 16 [AV.lst 10 N fun k => [iI (C k), iI (T k), iI (lo k), iI (hi k), AV.lst 4 (n k) fun a => fr k a, AV.lst 2 (m k) fun a => ft k a, iI (pl k), iI (ph k), iI (dl k), iI (dh k)], iI (↑N : Int)] ++ tpL 57 [], m := [(900, Res.row 123 1 0 fun x => []), (0, Res.cells 76 [iI u0, iI u1, iI wi])], nx := 901 } : Option St).getD { σ := [], m := [], nx := 0 }
noncomputable def B_b1 : Code := loopBody (loopAt (bodyOf Tryz.f52) 0)
noncomputable def inv_b1 (N : Nat) (C T lo hi : Nat → Int) (n : Nat → Nat) (fr : Nat → Nat → List AV) (m : Nat → Nat) (ft : Nat → Nat → List AV) (pl ph dl dh : Nat → Int) (u0 u1 wi : Int) (day : Int) (k : Nat) : St := { σ := ovrS [(6, i 0), (7, i (-1)), (8, i 0), (9, .row 900), (23, i k)] (E_b1 N C T lo hi n fr m ft pl ph dl dh u0 u1 wi day).σ, m := [(900, .row 123 1 k (fun j => [.roI [i (C j), i (T j), i (lo j), i (hi j), rds (n j) (col 0 (fr j)) (col 1 (fr j)) (col 2 (fr j)) (col 3 (fr j)), Pt.scs (m j) (Pt.col 0 (ft j)) (Pt.col 1 (ft j))] 26 (wkA (C j) (T j) (lo j) (hi j) (n j) (col 0 (fr j)) (col 1 (fr j)) (col 2 (fr j)) (col 3 (fr j)) (m j) (Pt.col 0 (ft j)) (Pt.col 1 (ft j)) (pl j) (ph j) (dl j) (dh j)) 0])), (0, .cells 76 [i u0, i u1, i wi])], nx := 901 }
noncomputable def out_b1 (N : Nat) (C T lo hi : Nat → Int) (n : Nat → Nat) (fr : Nat → Nat → List AV) (m : Nat → Nat) (ft : Nat → Nat → List AV) (pl ph dl dh : Nat → Int) (u0 u1 wi : Int) (day : Int) (k : Nat) : AEx → Option St := fun ex => match ex with
 | .exit 0 => some { σ := ovrS [(6, i 0), (7, i (-1)), (8, i 0), (9, .row 900)] (E_b1 N C T lo hi n fr m ft pl ph dl dh u0 u1 wi day).σ, m := [(900, .row 123 1 N (fun j => [.roI [i (C j), i (T j), i (lo j), i (hi j), rds (n j) (col 0 (fr j)) (col 1 (fr j)) (col 2 (fr j)) (col 3 (fr j)), Pt.scs (m j) (Pt.col 0 (ft j)) (Pt.col 1 (ft j))] 26 (wkA (C j) (T j) (lo j) (hi j) (n j) (col 0 (fr j)) (col 1 (fr j)) (col 2 (fr j)) (col 3 (fr j)) (m j) (Pt.col 0 (ft j)) (Pt.col 1 (ft j)) (pl j) (ph j) (dl j) (dh j)) 0])), (0, .cells 76 [i u0, i u1, i wi])], nx := 901 }
 | .ret => some { σ := ovrS [(6, i 0), (7, i 0), (8, i (fstE (aE N C T lo hi n fr m ft pl ph dl dh u0 u1 wi) N))] (E_b1 N C T lo hi n fr m ft pl ph dl dh u0 u1 wi day).σ, m := [(0, .cells 76 [i u0, i u1, i wi])], nx := 901 }
 | _ => none
noncomputable def T_b1 (N : Nat) (C T lo hi : Nat → Int) (n : Nat → Nat) (fr : Nat → Nat → List AV) (m : Nat → Nat) (ft : Nat → Nat → List AV) (pl ph dl dh : Nat → Int) (u0 u1 wi : Int) (day : Int) : CT := .branch (decide ((fstE (aE N C T lo hi n fr m ft pl ph dl dh u0 u1 wi) N) = 0)) (.leaf (.exit 0, ( out_b1 N C T lo hi n fr m ft pl ph dl dh u0 u1 wi day 0 (.exit 0)).getD (E_b1 N C T lo hi n fr m ft pl ph dl dh u0 u1 wi day))) (.leaf (.ret, ( out_b1 N C T lo hi n fr m ft pl ph dl dh u0 u1 wi day 0 .ret).getD (E_b1 N C T lo hi n fr m ft pl ph dl dh u0 u1 wi day)))
noncomputable def LS_b1 (N : Nat) (C T lo hi : Nat → Int) (n : Nat → Nat) (fr : Nat → Nat → List AV) (m : Nat → Nat) (ft : Nat → Nat → List AV) (pl ph dl dh : Nat → Int) (u0 u1 wi : Int) (day : Int) : LSpec := normSp [(.slot 9, 900, 123, 1)] (sumL (inv_b1 N C T lo hi n fr m ft pl ph dl dh u0 u1 wi day (0)) (T_b1 N C T lo hi n fr m ft pl ph dl dh u0 u1 wi day))
theorem b1_ls (N : Nat) (C T lo hi : Nat → Int) (n : Nat → Nat) (fr : Nat → Nat → List AV) (m : Nat → Nat) (ft : Nat → Nat → List AV) (pl ph dl dh : Nat → Int) (u0 u1 wi : Int) (day : Int) (pre0 : N ≤ 100000) (pre1 : ∀ k, k < N → isRec 4 (n k) (fr k) ∧ isRec 2 (m k) (ft k)) : LSound Tryz.prog (.loop B_b1) (LS_b1 N C T lo hi n fr m ft pl ph dl dh u0 u1 wi day) := by
 refine loop_roundsX [(.slot 9, 900, 123, 1)] (E := { R := [], H := [], C := [(79, C_asked)] }) (G := []) (L := []) (SoundG.nil _) (SoundX.ofC (SoundRL.nil _) (SoundHL.nil _) (SoundCL.cons asked_okC (SoundCL.nil _))) mixed noLoops (X := Nat) (inv_b1 N C T lo hi n fr m ft pl ph dl dh u0 u1 wi day) (fun k => k ≤ N ∧ ∀ j, j < k → aE N C T lo hi n fr m ft pl ph dl dh u0 u1 wi j = 0) (fun k => N - k) (out_b1 N C T lo hi n fr m ft pl ph dl dh u0 u1 wi day) (x0 := 0) ⟨Nat.zero_le _, fun j hj => absurd hj (Nat.not_lt_zero _)⟩ ?_ ?_ ?_
 ·rintro k
  kernel_rfl
 ·rintro k y E h
  unfold out_b1 at h
  split at h
  ·cases h; kernel_rfl
  ·cases h; kernel_rfl
  ·cases h
 ·rintro Q hQ k hx
  refine ⟨(k + 1), ?_⟩
  have e : roundX Tryz.prog [] { R := [], H := [], C := [(79, C_asked)] } [] [(.slot 9, 900, 123, 1)] B_b1 (inv_b1 N C T lo hi n fr m ft pl ph dl dh u0 u1 wi day k) (inv_b1 N C T lo hi n fr m ft pl ph dl dh u0 u1 wi day ((k + 1))) (out_b1 N C T lo hi n fr m ft pl ph dl dh u0 u1 wi day k) = (let z0 := (AV.lst 10 N fun k => [iI (C k), iI (T k), iI (lo k), iI (hi k), AV.lst 4 (n k) fun a => fr k a, AV.lst 2 (m k) fun a => ft k a, iI (pl k), iI (ph k), iI (dl k), iI (dh k)]); let z1 := (AV.agg [iI u0, iI u1, iI wi]); (Tree.branch (decide ((↑k : Int) < (↑N : Int))) (Tree.need [(0 : Int) ≤ (↑k : Int) ∧ (↑k : Int) < (↑N : Int)] (Tree.need [isRec 4 (n k) fun a => fr k a, isRec 2 (m k) fun a => ft k a] (Tree.branch (decide (asE (C k) (T k) (lo k) (hi k) (n k) (col 0 fun a => fr k a) (col 1 fun a => fr k a) (col 2 fun a => fr k a) (col 3 fun a => fr k a) (m k) (Pt.col 0 fun a => ft k a) (Pt.col 1 fun a => ft k a) (pl k) (ph k) (dl k) (dh k) u0 u1 wi (0 : Int) = (0 : Int))) (Tree.branch ((0 : Int) != (0 : Int)) (Tree.need [z0 = AV.lst 10 N fun k => [iI (C k), iI (T k), iI (lo k), iI (hi k), AV.lst 4 (n k) fun a => fr k a, AV.lst 2 (m k) fun a => ft k a, iI (pl k), iI (ph k), iI (dl k), iI (dh k)], Eq1 z1, day = day, Eq1 (AV.ptr 0 0), Eq1 (0 : Int), Eq1 (0 : Int), (0 : Int) = fstE (aE N C T lo hi n fr m ft pl ph dl dh u0 u1 wi) N, z0 = AV.lst 10 N fun k => [iI (C k), iI (T k), iI (lo k), iI (hi k), AV.lst 4 (n k) fun a => fr k a, AV.lst 2 (m k) fun a => ft k a, iI (pl k), iI (ph k), iI (dl k), iI (dh k)], Eq1 (↑N : Int), u0 = u0, u1 = u1, wi = wi] (Tree.leaf AEx.ret)) (Tree.need [(k + 1) * 8 ≤ 140737488355328, ∀ (i : Nat), i < 1 → ∀ (a : AV), a ∈ chunk 1 [AV.roI [iI (C k), iI (T k), iI (lo k), iI (hi k), AV.lst 4 (n k) fun k_1 => [iI (col 0 (fun a => fr k a) k_1), iI (col 1 (fun a => fr k a) k_1), iI (col 2 (fun a => fr k a) k_1), iI (col 3 (fun a => fr k a) k_1)], AV.lst 2 (m k) fun k_1 => [iI (Pt.col 0 (fun a => ft k a) k_1), iI (Pt.col 1 (fun a => ft k a) k_1)]] 26 (fun a => wkA (C k) (T k) (lo k) (hi k) (n k) (col 0 fun a => fr k a) (col 1 fun a => fr k a) (col 2 fun a => fr k a) (col 3 fun a => fr k a) (m k) (Pt.col 0 fun a => ft k a) (Pt.col 1 fun a => ft k a) (pl k) (ph k) (dl k) (dh k) a) 0] i → AV.one a = true] (Tree.need [inI64 ((↑k : Int) + (1 : Int))] (Tree.need [z0 = AV.lst 10 N fun k => [iI (C k), iI (T k), iI (lo k), iI (hi k), AV.lst 4 (n k) fun a => fr k a, AV.lst 2 (m k) fun a => ft k a, iI (pl k), iI (ph k), iI (dl k), iI (dh k)], Eq1 z1, day = day, Eq1 (AV.ptr 0 0), Eq1 (0 : Int), Eq1 (-1 : Int), Eq1 (0 : Int), Eq1 (AV.row 900), z0 = AV.lst 10 N fun k => [iI (C k), iI (T k), iI (lo k), iI (hi k), AV.lst 4 (n k) fun a => fr k a, AV.lst 2 (m k) fun a => ft k a, iI (pl k), iI (ph k), iI (dl k), iI (dh k)], Eq1 (↑N : Int), (↑k : Int) + (1 : Int) = (↑(k + 1) : Int), k + 1 = k + 1, ∀ (i : Nat), i < k + 1 → catF k (fun j => [AV.roI [iI (C j), iI (T j), iI (lo j), iI (hi j), rds (n j) (col 0 (fr j)) (col 1 (fr j)) (col 2 (fr j)) (col 3 (fr j)), Pt.scs (m j) (Pt.col 0 (ft j)) (Pt.col 1 (ft j))] 26 (wkA (C j) (T j) (lo j) (hi j) (n j) (col 0 (fr j)) (col 1 (fr j)) (col 2 (fr j)) (col 3 (fr j)) (m j) (Pt.col 0 (ft j)) (Pt.col 1 (ft j)) (pl j) (ph j) (dl j) (dh j)) 0]) (chunk 1 [AV.roI [iI (C k), iI (T k), iI (lo k), iI (hi k), AV.lst 4 (n k) fun k_1 => [iI (col 0 (fun a => fr k a) k_1), iI (col 1 (fun a => fr k a) k_1), iI (col 2 (fun a => fr k a) k_1), iI (col 3 (fun a => fr k a) k_1)], AV.lst 2 (m k) fun k_1 => [iI (Pt.col 0 (fun a => ft k a) k_1), iI (Pt.col 1 (fun a => ft k a) k_1)]] 26 (fun a => wkA (C k) (T k) (lo k) (hi k) (n k) (col 0 fun a => fr k a) (col 1 fun a => fr k a) (col 2 fun a => fr k a) (col 3 fun a => fr k a) (m k) (Pt.col 0 fun a => ft k a) (Pt.col 1 fun a => ft k a) (pl k) (ph k) (dl k) (dh k) a) 0]) i = [AV.roI [iI (C i), iI (T i), iI (lo i), iI (hi i), rds (n i) (col 0 (fr i)) (col 1 (fr i)) (col 2 (fr i)) (col 3 (fr i)), Pt.scs (m i) (Pt.col 0 (ft i)) (Pt.col 1 (ft i))] 26 (wkA (C i) (T i) (lo i) (hi i) (n i) (col 0 (fr i)) (col 1 (fr i)) (col 2 (fr i)) (col 3 (fr i)) (m i) (Pt.col 0 (ft i)) (Pt.col 1 (ft i)) (pl i) (ph i) (dl i) (dh i)) 0], u0 = u0, u1 = u1, wi = wi] (Tree.leaf AEx.normal))))) (Tree.branch (asE (C k) (T k) (lo k) (hi k) (n k) (col 0 fun a => fr k a) (col 1 fun a => fr k a) (col 2 fun a => fr k a) (col 3 fun a => fr k a) (m k) (Pt.col 0 fun a => ft k a) (Pt.col 1 fun a => ft k a) (pl k) (ph k) (dl k) (dh k) u0 u1 wi (0 : Int) != (0 : Int)) (Tree.need [z0 = AV.lst 10 N fun k => [iI (C k), iI (T k), iI (lo k), iI (hi k), AV.lst 4 (n k) fun a => fr k a, AV.lst 2 (m k) fun a => ft k a, iI (pl k), iI (ph k), iI (dl k), iI (dh k)], Eq1 z1, day = day, Eq1 (AV.ptr 0 0), Eq1 (0 : Int), Eq1 (0 : Int), asE (C k) (T k) (lo k) (hi k) (n k) (col 0 fun a => fr k a) (col 1 fun a => fr k a) (col 2 fun a => fr k a) (col 3 fun a => fr k a) (m k) (Pt.col 0 fun a => ft k a) (Pt.col 1 fun a => ft k a) (pl k) (ph k) (dl k) (dh k) u0 u1 wi (0 : Int) = fstE (aE N C T lo hi n fr m ft pl ph dl dh u0 u1 wi) N, z0 = AV.lst 10 N fun k => [iI (C k), iI (T k), iI (lo k), iI (hi k), AV.lst 4 (n k) fun a => fr k a, AV.lst 2 (m k) fun a => ft k a, iI (pl k), iI (ph k), iI (dl k), iI (dh k)], Eq1 (↑N : Int), u0 = u0, u1 = u1, wi = wi] (Tree.leaf AEx.ret)) Tree.fail)))) (Tree.need [z0 = AV.lst 10 N fun k => [iI (C k), iI (T k), iI (lo k), iI (hi k), AV.lst 4 (n k) fun a => fr k a, AV.lst 2 (m k) fun a => ft k a, iI (pl k), iI (ph k), iI (dl k), iI (dh k)], Eq1 z1, day = day, Eq1 (AV.ptr 0 0), Eq1 (0 : Int), Eq1 (-1 : Int), Eq1 (0 : Int), Eq1 (AV.row 900), z0 = AV.lst 10 N fun k => [iI (C k), iI (T k), iI (lo k), iI (hi k), AV.lst 4 (n k) fun a => fr k a, AV.lst 2 (m k) fun a => ft k a, iI (pl k), iI (ph k), iI (dl k), iI (dh k)], Eq1 (↑N : Int), k = N, ∀ (i : Nat), i < N → [AV.roI [iI (C i), iI (T i), iI (lo i), iI (hi i), rds (n i) (col 0 (fr i)) (col 1 (fr i)) (col 2 (fr i)) (col 3 (fr i)), Pt.scs (m i) (Pt.col 0 (ft i)) (Pt.col 1 (ft i))] 26 (wkA (C i) (T i) (lo i) (hi i) (n i) (col 0 (fr i)) (col 1 (fr i)) (col 2 (fr i)) (col 3 (fr i)) (m i) (Pt.col 0 (ft i)) (Pt.col 1 (ft i)) (pl i) (ph i) (dl i) (dh i)) 0] = [AV.roI [iI (C i), iI (T i), iI (lo i), iI (hi i), rds (n i) (col 0 (fr i)) (col 1 (fr i)) (col 2 (fr i)) (col 3 (fr i)), Pt.scs (m i) (Pt.col 0 (ft i)) (Pt.col 1 (ft i))] 26 (wkA (C i) (T i) (lo i) (hi i) (n i) (col 0 (fr i)) (col 1 (fr i)) (col 2 (fr i)) (col 3 (fr i)) (m i) (Pt.col 0 (ft i)) (Pt.col 1 (ft i)) (pl i) (ph i) (dl i) (dh i)) 0], u0 = u0, u1 = u1, wi = wi] (Tree.leaf (AEx.exit 0))))) := by kernel_rfl
  rw [e]
  simp only [T_b1, out_b1, Tree.sat, Option.getD_some] at hQ
  obtain ⟨x1, x2⟩ := hx
  simp only [Tree.sat, allP, fitP, fitL, valEq, true_and, and_true, decide_eq_true_eq, decide_eq_false_iff_not, bne_iff_ne, ne_eq, bne_eq_false_iff_eq, beq_iff_eq, beq_eq_false_iff_ne, Bool.not_eq_true', Bool.not_eq_false', not_true_eq_false, false_imp_iff, true_imp_iff, inI64]
  clear e
  have hb : k < N → aE N C T lo hi n fr m ft pl ph dl dh u0 u1 wi k ≠ 0 → ¬ fstE (aE N C T lo hi n fr m ft pl ph dl dh u0 u1 wi) N = 0 := fun h1 h2 => by
   rw [fstE_at x2 h2 h1]
   exact h2
  have hr : ∀ E, out_b1 N C T lo hi n fr m ft pl ph dl dh u0 u1 wi day k .ret = some E → (¬ fstE (aE N C T lo hi n fr m ft pl ph dl dh u0 u1 wi) N = 0) → Q (.ret, E) := by
   intro E hE hf
   cases hE
   exact hQ.2 (decide_eq_false hf)
  refine ⟨fun h => ⟨⟨by omega, by omega⟩, pre1 k (by omega), fun h1 => ?_, fun h1 => ?_⟩, fun h => ?_⟩
  ·have h1 : aE N C T lo hi n fr m ft pl ph dl dh u0 u1 wi k = 0 := h1
   refine ⟨⟨by omega, fun j hj y hy => one_of hy (by simp [AV.one, Value.oneCell'])⟩, ⟨by omega, by omega⟩, ⟨by omega, fun j hj => catW1 (F := fun j => [.roI [i (C j), i (T j), i (lo j), i (hi j), rds (n j) (col 0 (fr j)) (col 1 (fr j)) (col 2 (fr j)) (col 3 (fr j)), Pt.scs (m j) (Pt.col 0 (ft j)) (Pt.col 1 (ft j))] 26 (wkA (C j) (T j) (lo j) (hi j) (n j) (col 0 (fr j)) (col 1 (fr j)) (col 2 (fr j)) (col 3 (fr j)) (m j) (Pt.col 0 (ft j)) (Pt.col 1 (ft j)) (pl j) (ph j) (dl j) (dh j)) 0]) rfl (fun _ => ⟨_, rfl, fun _ h => by cases h⟩) hj⟩, ⟨by omega, fun j hj => ?_⟩, by omega⟩
   rcases (show j < k ∨ j = k by omega) with h2 | rfl
   ·exact x2 j h2
   ·exact h1
  ·have h2 : aE N C T lo hi n fr m ft pl ph dl dh u0 u1 wi k ≠ 0 := h1
   refine ⟨fun _ => ⟨(fstE_at x2 h2 (by omega)).symm, fun E hE => hr E hE (hb (by omega) h2)⟩, fun h3 => absurd h3 h1⟩
  ·obtain rfl : k = N := by omega
   refine ⟨⟨rfl, fun _ _ => trivial⟩, fun E hE => ?_⟩
   cases hE
   exact hQ.1 (decide_eq_true (fstE_0.2 x2))
noncomputable def E_b2 (N : Nat) (C T lo hi : Nat → Int) (n : Nat → Nat) (fr : Nat → Nat → List AV) (m : Nat → Nat) (ft : Nat → Nat → List AV) (pl ph dl dh : Nat → Int) (u0 u1 wi : Int) (day : Int) : St := (some { σ := [AV.lst 10 N fun k => [iI (C k), iI (T k), iI (lo k), iI (hi k), AV.lst 4 (n k) fun a => fr k a, AV.lst 2 (m k) fun a => ft k a, iI (pl k), iI (ph k), iI (dl k), iI (dh k)], AV.agg [iI u0, iI u1, iI wi], iI day, AV.top, AV.ptr 0 0, AV.top, AV.top, AV.top, iI (0 : Int), AV.row 900] ++ tpL 11 [AV.lst 10 N fun k => [iI (C k), iI (T k), iI (lo k), iI (hi k), AV.lst 4 (n k) fun a => fr k a, AV.lst 2 (m k) fun a => ft k a, iI (pl k), iI (ph k), iI (dl k), iI (dh k)], iI (↑N : Int)] ++ tpL 21 [AV.row 900, iI (↑N : Int)] ++ tpL 34 [], m := [(900, Res.row 123 1 N fun j => [AV.roI [iI (C j), iI (T j), iI (lo j), iI (hi j), AV.lst 4 (n j) fun k => [iI (col 0 (fr j) k), iI (col 1 (fr j) k), iI (col 2 (fr j) k), iI (col 3 (fr j) k)], AV.lst 2 (m j) fun k => [iI (Pt.col 0 (ft j) k), iI (Pt.col 1 (ft j) k)]] 26 (fun a => wkA (C j) (T j) (lo j) (hi j) (n j) (col 0 (fr j)) (col 1 (fr j)) (col 2 (fr j)) (col 3 (fr j)) (m j) (Pt.col 0 (ft j)) (Pt.col 1 (ft j)) (pl j) (ph j) (dl j) (dh j) a) 0]), (0, Res.cells 76 [iI u0, iI u1, iI wi])], nx := 907 } : Option St).getD { σ := [], m := [], nx := 0 }
noncomputable def B_b2 : Code := loopBody (loopAt (bodyOf Tryz.f52) 1)
noncomputable def inv_b2 (N : Nat) (C T lo hi : Nat → Int) (n : Nat → Nat) (fr : Nat → Nat → List AV) (m : Nat → Nat) (ft : Nat → Nat → List AV) (pl ph dl dh : Nat → Int) (u0 u1 wi : Int) (day : Int) (k : Nat) : St := { σ := ovrS [(6, i (bsW (aL N C T lo hi n fr m ft pl ph dl dh u0 u1 wi) (aH N C T lo hi n fr m ft pl ph dl dh u0 u1 wi) day k)), (7, i (bsX (aL N C T lo hi n fr m ft pl ph dl dh u0 u1 wi) (aH N C T lo hi n fr m ft pl ph dl dh u0 u1 wi) day k)), (46, i k)] (E_b2 N C T lo hi n fr m ft pl ph dl dh u0 u1 wi day).σ, m := (E_b2 N C T lo hi n fr m ft pl ph dl dh u0 u1 wi day).m, nx := (E_b2 N C T lo hi n fr m ft pl ph dl dh u0 u1 wi day).nx }
noncomputable def out_b2 (N : Nat) (C T lo hi : Nat → Int) (n : Nat → Nat) (fr : Nat → Nat → List AV) (m : Nat → Nat) (ft : Nat → Nat → List AV) (pl ph dl dh : Nat → Int) (u0 u1 wi : Int) (day : Int) (k : Nat) : AEx → Option St := fun ex => match ex with
 | .exit 2 => some { σ := ovrS [(6, i (bsW (aL N C T lo hi n fr m ft pl ph dl dh u0 u1 wi) (aH N C T lo hi n fr m ft pl ph dl dh u0 u1 wi) day N)), (7, i (bsX (aL N C T lo hi n fr m ft pl ph dl dh u0 u1 wi) (aH N C T lo hi n fr m ft pl ph dl dh u0 u1 wi) day N))] (E_b2 N C T lo hi n fr m ft pl ph dl dh u0 u1 wi day).σ, m := (E_b2 N C T lo hi n fr m ft pl ph dl dh u0 u1 wi day).m, nx := (E_b2 N C T lo hi n fr m ft pl ph dl dh u0 u1 wi day).nx }
 | _ => none
noncomputable def T_b2 (N : Nat) (C T lo hi : Nat → Int) (n : Nat → Nat) (fr : Nat → Nat → List AV) (m : Nat → Nat) (ft : Nat → Nat → List AV) (pl ph dl dh : Nat → Int) (u0 u1 wi : Int) (day : Int) : CT := .leaf (.exit 2, ( out_b2 N C T lo hi n fr m ft pl ph dl dh u0 u1 wi day 0 (.exit 2)).getD (E_b2 N C T lo hi n fr m ft pl ph dl dh u0 u1 wi day))
noncomputable def LS_b2 (N : Nat) (C T lo hi : Nat → Int) (n : Nat → Nat) (fr : Nat → Nat → List AV) (m : Nat → Nat) (ft : Nat → Nat → List AV) (pl ph dl dh : Nat → Int) (u0 u1 wi : Int) (day : Int) : LSpec := normSp [] (sumL (inv_b2 N C T lo hi n fr m ft pl ph dl dh u0 u1 wi day (0)) (T_b2 N C T lo hi n fr m ft pl ph dl dh u0 u1 wi day))
theorem b2_ls (N : Nat) (C T lo hi : Nat → Int) (n : Nat → Nat) (fr : Nat → Nat → List AV) (m : Nat → Nat) (ft : Nat → Nat → List AV) (pl ph dl dh : Nat → Int) (u0 u1 wi : Int) (day : Int) (pre0 : N ≤ 100000) (pre1 : ∀ k, k < N → isRec 4 (n k) (fr k) ∧ isRec 2 (m k) (ft k)) (pre2 : fstE (aE N C T lo hi n fr m ft pl ph dl dh u0 u1 wi) N = 0) (pre3 : 0 ≤ day ∧ day ≤ 10000) : LSound Tryz.prog (.loop B_b2) (LS_b2 N C T lo hi n fr m ft pl ph dl dh u0 u1 wi day) := by
 refine loop_roundsX [] (E := { R := [], H := [], C := [(79, C_asked)] }) (G := [(80, S_days), (66, S_within)]) (L := []) (SoundG.cons days_ok (SoundG.cons within_ok (SoundG.nil _))) (SoundX.ofC (SoundRL.nil _) (SoundHL.nil _) (SoundCL.cons asked_okC (SoundCL.nil _))) mixed noLoops (X := Nat) (inv_b2 N C T lo hi n fr m ft pl ph dl dh u0 u1 wi day) (fun k => k ≤ N) (fun k => N - k) (out_b2 N C T lo hi n fr m ft pl ph dl dh u0 u1 wi day) (x0 := 0) (by simp) ?_ ?_ ?_
 ·rintro k
  kernel_rfl
 ·rintro k y E h
  unfold out_b2 at h
  split at h
  ·cases h; kernel_rfl
  ·cases h
 ·rintro Q hQ k hx
  refine ⟨(k + 1), ?_⟩
  have e : roundX Tryz.prog [(80, S_days), (66, S_within)] { R := [], H := [], C := [(79, C_asked)] } [] [] B_b2 (inv_b2 N C T lo hi n fr m ft pl ph dl dh u0 u1 wi day k) (inv_b2 N C T lo hi n fr m ft pl ph dl dh u0 u1 wi day ((k + 1))) (out_b2 N C T lo hi n fr m ft pl ph dl dh u0 u1 wi day k) = (let z4 := (AV.lst 10 N fun k => [iI (C k), iI (T k), iI (lo k), iI (hi k), AV.lst 4 (n k) fun a => fr k a, AV.lst 2 (m k) fun a => ft k a, iI (pl k), iI (ph k), iI (dl k), iI (dh k)]); let z5 := (AV.agg [iI u0, iI u1, iI wi]); let z2 := (aL N C T lo hi n fr m ft pl ph dl dh u0 u1 wi); let z3 := (aH N C T lo hi n fr m ft pl ph dl dh u0 u1 wi); let z0 := (Tree.need [inI64 ((↑k : Int) + (1 : Int))] (Tree.need [z4 = AV.lst 10 N fun k => [iI (C k), iI (T k), iI (lo k), iI (hi k), AV.lst 4 (n k) fun a => fr k a, AV.lst 2 (m k) fun a => ft k a, iI (pl k), iI (ph k), iI (dl k), iI (dh k)], Eq1 z5, day = day, Eq1 (AV.ptr 0 0), bsW z2 z3 day k = bsW z2 z3 day (k + 1), bsX z2 z3 day k = bsX z2 z3 day (k + 1), Eq1 (0 : Int), Eq1 (AV.row 900), z4 = AV.lst 10 N fun k => [iI (C k), iI (T k), iI (lo k), iI (hi k), AV.lst 4 (n k) fun a => fr k a, AV.lst 2 (m k) fun a => ft k a, iI (pl k), iI (ph k), iI (dl k), iI (dh k)], Eq1 (↑N : Int), Eq1 (AV.row 900), Eq1 (↑N : Int), (↑k : Int) + (1 : Int) = (↑(k + 1) : Int), N = N, ∀ (i : Nat), i < N → [AV.roI [iI (C i), iI (T i), iI (lo i), iI (hi i), AV.lst 4 (n i) fun k => [iI (col 0 (fr i) k), iI (col 1 (fr i) k), iI (col 2 (fr i) k), iI (col 3 (fr i) k)], AV.lst 2 (m i) fun k => [iI (Pt.col 0 (ft i) k), iI (Pt.col 1 (ft i) k)]] 26 (fun a => wkA (C i) (T i) (lo i) (hi i) (n i) (col 0 (fr i)) (col 1 (fr i)) (col 2 (fr i)) (col 3 (fr i)) (m i) (Pt.col 0 (ft i)) (Pt.col 1 (ft i)) (pl i) (ph i) (dl i) (dh i) a) 0] = [AV.roI [iI (C i), iI (T i), iI (lo i), iI (hi i), AV.lst 4 (n i) fun k => [iI (col 0 (fr i) k), iI (col 1 (fr i) k), iI (col 2 (fr i) k), iI (col 3 (fr i) k)], AV.lst 2 (m i) fun k => [iI (Pt.col 0 (ft i) k), iI (Pt.col 1 (ft i) k)]] 26 (fun a => wkA (C i) (T i) (lo i) (hi i) (n i) (col 0 (fr i)) (col 1 (fr i)) (col 2 (fr i)) (col 3 (fr i)) (m i) (Pt.col 0 (ft i)) (Pt.col 1 (ft i)) (pl i) (ph i) (dl i) (dh i) a) 0], u0 = u0, u1 = u1, wi = wi] (Tree.leaf AEx.normal))); let z1 := (keD (C k) (fun a => wkA (C k) (T k) (lo k) (hi k) (n k) (col 0 (fr k)) (col 1 (fr k)) (col 2 (fr k)) (col 3 (fr k)) (m k) (Pt.col 0 (ft k)) (Pt.col 1 (ft k)) (pl k) (ph k) (dl k) (dh k) a) u0 u1 wi); (Tree.branch (decide ((↑k : Int) < (↑N : Int))) (Tree.need [(0 : Int) ≤ (↑k : Int) ∧ (↑k : Int) < (↑N : Int)] (Tree.need [k < N] (Tree.need [drB fun a => wkA (C k) (T k) (lo k) (hi k) (n k) (col 0 (fr k)) (col 1 (fr k)) (col 2 (fr k)) (col 3 (fr k)) (m k) (Pt.col 0 (ft k)) (Pt.col 1 (ft k)) (pl k) (ph k) (dl k) (dh k) a, bdB fun a => wkA (C k) (T k) (lo k) (hi k) (n k) (col 0 (fr k)) (col 1 (fr k)) (col 2 (fr k)) (col 3 (fr k)) (m k) (Pt.col 0 (ft k)) (Pt.col 1 (ft k)) (pl k) (ph k) (dl k) (dh k) a, (1 : Int) ≤ C k ∧ C k ≤ (10 : Int), (0 : Int) ≤ u0 ∧ u0 ≤ u1 ∧ u1 ≤ (10 : Int), (0 : Int) ≤ wi ∧ wi ≤ (1000000 : Int)] (Tree.branch (decide (dyHi z1 nD ≥ (0 : Int))) (Tree.branch (bt (dyLo z1 nD) day (dyHi z1 nD)) (Tree.branch (decide (dyHi z1 nD > bsX z2 z3 day k)) (Tree.need [inI64 ((↑k : Int) + (1 : Int))] (Tree.need [z4 = AV.lst 10 N fun k => [iI (C k), iI (T k), iI (lo k), iI (hi k), AV.lst 4 (n k) fun a => fr k a, AV.lst 2 (m k) fun a => ft k a, iI (pl k), iI (ph k), iI (dl k), iI (dh k)], Eq1 z5, day = day, Eq1 (AV.ptr 0 0), (↑k : Int) = bsW z2 z3 day (k + 1), dyHi z1 nD = bsX z2 z3 day (k + 1), Eq1 (0 : Int), Eq1 (AV.row 900), z4 = AV.lst 10 N fun k => [iI (C k), iI (T k), iI (lo k), iI (hi k), AV.lst 4 (n k) fun a => fr k a, AV.lst 2 (m k) fun a => ft k a, iI (pl k), iI (ph k), iI (dl k), iI (dh k)], Eq1 (↑N : Int), Eq1 (AV.row 900), Eq1 (↑N : Int), (↑k : Int) + (1 : Int) = (↑(k + 1) : Int), N = N, ∀ (i : Nat), i < N → [AV.roI [iI (C i), iI (T i), iI (lo i), iI (hi i), AV.lst 4 (n i) fun k => [iI (col 0 (fr i) k), iI (col 1 (fr i) k), iI (col 2 (fr i) k), iI (col 3 (fr i) k)], AV.lst 2 (m i) fun k => [iI (Pt.col 0 (ft i) k), iI (Pt.col 1 (ft i) k)]] 26 (fun a => wkA (C i) (T i) (lo i) (hi i) (n i) (col 0 (fr i)) (col 1 (fr i)) (col 2 (fr i)) (col 3 (fr i)) (m i) (Pt.col 0 (ft i)) (Pt.col 1 (ft i)) (pl i) (ph i) (dl i) (dh i) a) 0] = [AV.roI [iI (C i), iI (T i), iI (lo i), iI (hi i), AV.lst 4 (n i) fun k => [iI (col 0 (fr i) k), iI (col 1 (fr i) k), iI (col 2 (fr i) k), iI (col 3 (fr i) k)], AV.lst 2 (m i) fun k => [iI (Pt.col 0 (ft i) k), iI (Pt.col 1 (ft i) k)]] 26 (fun a => wkA (C i) (T i) (lo i) (hi i) (n i) (col 0 (fr i)) (col 1 (fr i)) (col 2 (fr i)) (col 3 (fr i)) (m i) (Pt.col 0 (ft i)) (Pt.col 1 (ft i)) (pl i) (ph i) (dl i) (dh i) a) 0], u0 = u0, u1 = u1, wi = wi] (Tree.leaf AEx.normal))) z0) z0) z0)))) (Tree.need [z4 = AV.lst 10 N fun k => [iI (C k), iI (T k), iI (lo k), iI (hi k), AV.lst 4 (n k) fun a => fr k a, AV.lst 2 (m k) fun a => ft k a, iI (pl k), iI (ph k), iI (dl k), iI (dh k)], Eq1 z5, day = day, Eq1 (AV.ptr 0 0), bsW z2 z3 day k = bsW z2 z3 day N, bsX z2 z3 day k = bsX z2 z3 day N, Eq1 (0 : Int), Eq1 (AV.row 900), z4 = AV.lst 10 N fun k => [iI (C k), iI (T k), iI (lo k), iI (hi k), AV.lst 4 (n k) fun a => fr k a, AV.lst 2 (m k) fun a => ft k a, iI (pl k), iI (ph k), iI (dl k), iI (dh k)], Eq1 (↑N : Int), Eq1 (AV.row 900), Eq1 (↑N : Int), N = N, ∀ (i : Nat), i < N → [AV.roI [iI (C i), iI (T i), iI (lo i), iI (hi i), AV.lst 4 (n i) fun k => [iI (col 0 (fr i) k), iI (col 1 (fr i) k), iI (col 2 (fr i) k), iI (col 3 (fr i) k)], AV.lst 2 (m i) fun k => [iI (Pt.col 0 (ft i) k), iI (Pt.col 1 (ft i) k)]] 26 (fun a => wkA (C i) (T i) (lo i) (hi i) (n i) (col 0 (fr i)) (col 1 (fr i)) (col 2 (fr i)) (col 3 (fr i)) (m i) (Pt.col 0 (ft i)) (Pt.col 1 (ft i)) (pl i) (ph i) (dl i) (dh i) a) 0] = [AV.roI [iI (C i), iI (T i), iI (lo i), iI (hi i), AV.lst 4 (n i) fun k => [iI (col 0 (fr i) k), iI (col 1 (fr i) k), iI (col 2 (fr i) k), iI (col 3 (fr i) k)], AV.lst 2 (m i) fun k => [iI (Pt.col 0 (ft i) k), iI (Pt.col 1 (ft i) k)]] 26 (fun a => wkA (C i) (T i) (lo i) (hi i) (n i) (col 0 (fr i)) (col 1 (fr i)) (col 2 (fr i)) (col 3 (fr i)) (m i) (Pt.col 0 (ft i)) (Pt.col 1 (ft i)) (pl i) (ph i) (dl i) (dh i) a) 0], u0 = u0, u1 = u1, wi = wi] (Tree.leaf (AEx.exit 2))))) := by kernel_rfl
  rw [e]
  simp only [T_b2, out_b2, Tree.sat, Option.getD_some] at hQ
  simp only [Tree.sat, allP, fitP, fitL, valEq, true_and, and_true, decide_eq_true_eq, decide_eq_false_iff_not, bne_iff_ne, ne_eq, bne_eq_false_iff_eq, beq_iff_eq, beq_eq_false_iff_ne, Bool.not_eq_true', Bool.not_eq_false', not_true_eq_false, false_imp_iff, true_imp_iff, inI64]
  clear e
  have key : k < N → (drB (wkA (C k) (T k) (lo k) (hi k) (n k) (col 0 (fr k)) (col 1 (fr k)) (col 2 (fr k)) (col 3 (fr k)) (m k) (Pt.col 0 (ft k)) (Pt.col 1 (ft k)) (pl k) (ph k) (dl k) (dh k)) ∧ bdB (wkA (C k) (T k) (lo k) (hi k) (n k) (col 0 (fr k)) (col 1 (fr k)) (col 2 (fr k)) (col 3 (fr k)) (m k) (Pt.col 0 (ft k)) (Pt.col 1 (ft k)) (pl k) (ph k) (dl k) (dh k)) ∧ (1 ≤ C k ∧ C k ≤ 10)) ∧ (0 ≤ u0 ∧ u0 ≤ u1 ∧ u1 ≤ 10) ∧ 0 ≤ wi ∧ wi ≤ 1000000 := fun h => by
   have h0 : asE (C k) (T k) (lo k) (hi k) (n k) (col 0 (fr k)) (col 1 (fr k)) (col 2 (fr k)) (col 3 (fr k)) (m k) (Pt.col 0 (ft k)) (Pt.col 1 (ft k)) (pl k) (ph k) (dl k) (dh k) u0 u1 wi 0 = 0 := fstE_0.1 pre2 k h
   obtain ⟨h1, h2, _⟩ := asE_0 h0
   have hw := wk_ok h1
   have hu := usB_iff.1 h2
   exact ⟨⟨hw.1, hw.2.1, hw.2.2.1⟩, by omega, by omega⟩
  have hs1 : bsX (aL N C T lo hi n fr m ft pl ph dl dh u0 u1 wi) (aH N C T lo hi n fr m ft pl ph dl dh u0 u1 wi) day (k + 1) = if bsP (aL N C T lo hi n fr m ft pl ph dl dh u0 u1 wi) (aH N C T lo hi n fr m ft pl ph dl dh u0 u1 wi) day (bsX (aL N C T lo hi n fr m ft pl ph dl dh u0 u1 wi) (aH N C T lo hi n fr m ft pl ph dl dh u0 u1 wi) day k) k then aH N C T lo hi n fr m ft pl ph dl dh u0 u1 wi k else bsX (aL N C T lo hi n fr m ft pl ph dl dh u0 u1 wi) (aH N C T lo hi n fr m ft pl ph dl dh u0 u1 wi) day k := rfl
  have hs2 : bsW (aL N C T lo hi n fr m ft pl ph dl dh u0 u1 wi) (aH N C T lo hi n fr m ft pl ph dl dh u0 u1 wi) day (k + 1) = if bsP (aL N C T lo hi n fr m ft pl ph dl dh u0 u1 wi) (aH N C T lo hi n fr m ft pl ph dl dh u0 u1 wi) day (bsX (aL N C T lo hi n fr m ft pl ph dl dh u0 u1 wi) (aH N C T lo hi n fr m ft pl ph dl dh u0 u1 wi) day k) k then (k : Int) else bsW (aL N C T lo hi n fr m ft pl ph dl dh u0 u1 wi) (aH N C T lo hi n fr m ft pl ph dl dh u0 u1 wi) day k := rfl
  have hP : bsP (aL N C T lo hi n fr m ft pl ph dl dh u0 u1 wi) (aH N C T lo hi n fr m ft pl ph dl dh u0 u1 wi) day (bsX (aL N C T lo hi n fr m ft pl ph dl dh u0 u1 wi) (aH N C T lo hi n fr m ft pl ph dl dh u0 u1 wi) day k) k = (decide (aH N C T lo hi n fr m ft pl ph dl dh u0 u1 wi k ≥ 0) && bt (aL N C T lo hi n fr m ft pl ph dl dh u0 u1 wi k) day (aH N C T lo hi n fr m ft pl ph dl dh u0 u1 wi k) && decide (aH N C T lo hi n fr m ft pl ph dl dh u0 u1 wi k > bsX (aL N C T lo hi n fr m ft pl ph dl dh u0 u1 wi) (aH N C T lo hi n fr m ft pl ph dl dh u0 u1 wi) day k)) := rfl
  have eL : dyLo (keD (C k) (wkA (C k) (T k) (lo k) (hi k) (n k) (col 0 (fr k)) (col 1 (fr k)) (col 2 (fr k)) (col 3 (fr k)) (m k) (Pt.col 0 (ft k)) (Pt.col 1 (ft k)) (pl k) (ph k) (dl k) (dh k)) u0 u1 wi) nD = aL N C T lo hi n fr m ft pl ph dl dh u0 u1 wi k := rfl
  have eH : dyHi (keD (C k) (wkA (C k) (T k) (lo k) (hi k) (n k) (col 0 (fr k)) (col 1 (fr k)) (col 2 (fr k)) (col 3 (fr k)) (m k) (Pt.col 0 (ft k)) (Pt.col 1 (ft k)) (pl k) (ph k) (dl k) (dh k)) u0 u1 wi) nD = aH N C T lo hi n fr m ft pl ph dl dh u0 u1 wi k := rfl
  have no : bsP (aL N C T lo hi n fr m ft pl ph dl dh u0 u1 wi) (aH N C T lo hi n fr m ft pl ph dl dh u0 u1 wi) day (bsX (aL N C T lo hi n fr m ft pl ph dl dh u0 u1 wi) (aH N C T lo hi n fr m ft pl ph dl dh u0 u1 wi) day k) k = false → k < N → ((-9223372036854775808 ≤ (k : Int) + 1 ∧ (k : Int) + 1 ≤ 9223372036854775807) ∧ (bsW (aL N C T lo hi n fr m ft pl ph dl dh u0 u1 wi) (aH N C T lo hi n fr m ft pl ph dl dh u0 u1 wi) day k = bsW (aL N C T lo hi n fr m ft pl ph dl dh u0 u1 wi) (aH N C T lo hi n fr m ft pl ph dl dh u0 u1 wi) day (k + 1) ∧ bsX (aL N C T lo hi n fr m ft pl ph dl dh u0 u1 wi) (aH N C T lo hi n fr m ft pl ph dl dh u0 u1 wi) day k = bsX (aL N C T lo hi n fr m ft pl ph dl dh u0 u1 wi) (aH N C T lo hi n fr m ft pl ph dl dh u0 u1 wi) day (k + 1) ∧ (k : Int) + 1 = ((k + 1 : Nat) : Int) ∧ ∀ (i : Nat), i < N → True) ∧ k + 1 ≤ N ∧ N - (k + 1) < N - k) := fun h1 h2 => by
   rw [hs1, hs2, if_neg (by rw [h1]; simp), if_neg (by rw [h1]; simp)]
   exact ⟨by omega, ⟨rfl, rfl, by omega, fun _ _ => trivial⟩, by omega, by omega⟩
  refine ⟨fun h => ⟨⟨by omega, by omega⟩, by omega, ⟨(key (by omega)).1.1, (key (by omega)).1.2.1, (key (by omega)).1.2.2, (key (by omega)).2.1, (key (by omega)).2.2⟩, fun h2 => ⟨fun h3 => ⟨fun h4 => ?_, fun h4 => no ?_ (by omega)⟩, fun h3 => no ?_ (by omega)⟩, fun h2 => no ?_ (by omega)⟩, fun h => ?_⟩
  ·have hp : bsP (aL N C T lo hi n fr m ft pl ph dl dh u0 u1 wi) (aH N C T lo hi n fr m ft pl ph dl dh u0 u1 wi) day (bsX (aL N C T lo hi n fr m ft pl ph dl dh u0 u1 wi) (aH N C T lo hi n fr m ft pl ph dl dh u0 u1 wi) day k) k = true := by
    rw [hP, Bool.and_eq_true, Bool.and_eq_true]
    exact ⟨⟨decide_eq_true h2, h3⟩, decide_eq_true h4⟩
   rw [hs1, hs2, if_pos hp, if_pos hp]
   exact ⟨by omega, ⟨rfl, rfl, by omega, fun _ _ => trivial⟩, by omega, by omega⟩
  ·rw [hP, Bool.and_eq_false_iff]
   exact .inr (decide_eq_false h4)
  ·rw [hP, Bool.and_eq_false_iff, Bool.and_eq_false_iff]
   exact .inl (.inr h3)
  ·rw [hP, Bool.and_eq_false_iff, Bool.and_eq_false_iff]
   exact .inl (.inl (decide_eq_false h2))
  ·obtain rfl : k = N := by omega
   exact ⟨⟨rfl, rfl, fun _ _ => trivial⟩, fun E hE => by cases hE; exact hQ⟩
theorem Best_at (N : Nat) (C T lo hi : Nat → Int) (n : Nat → Nat) (fr : Nat → Nat → List AV) (m : Nat → Nat) (ft : Nat → Nat → List AV) (pl ph dl dh : Nat → Int) (u0 u1 wi : Int) (day : Int) (pre0 : N ≤ 100000) (pre1 : ∀ k, k < N → isRec 4 (n k) (fr k) ∧ isRec 2 (m k) (ft k)) : SoundAt Tryz.prog 52 [.lst 10 N (fun k => [i (C k), i (T k), i (lo k), i (hi k), .lst 4 (n k) (fr k), .lst 2 (m k) (ft k), i (pl k), i (ph k), i (dl k), i (dh k)]), .agg [i u0, i u1, i wi], i day] (.tup [i (btW N C T lo hi n fr m ft pl ph dl dh u0 u1 wi day), i (btX N C T lo hi n fr m ft pl ph dl dh u0 u1 wi day), i (btE N C T lo hi n fr m ft pl ph dl dh u0 u1 wi day)]) := by
 refine soundAt_finX (G := [(80, S_days), (66, S_within)]) (X := { R := [], H := [], C := [(79, C_asked)] }) (L := [needSp [N ≤ 100000, ∀ k, k < N → isRec 4 (n k) (fr k) ∧ isRec 2 (m k) (ft k)] (LS_b1 N C T lo hi n fr m ft pl ph dl dh u0 u1 wi day), needSp [N ≤ 100000, ∀ k, k < N → isRec 4 (n k) (fr k) ∧ isRec 2 (m k) (ft k), fstE (aE N C T lo hi n fr m ft pl ph dl dh u0 u1 wi) N = 0, 0 ≤ day ∧ day ≤ 10000] (LS_b2 N C T lo hi n fr m ft pl ph dl dh u0 u1 wi day)]) (SoundG.cons days_ok (SoundG.cons within_ok (SoundG.nil _))) (SoundX.ofC (SoundRL.nil _) (SoundHL.nil _) (SoundCL.cons asked_okC (SoundCL.nil _))) mixed Tryz.func52 (show Tryz.f52.body = some (bodyOf Tryz.f52) by kernel_rfl) (two_loops (fun cj hcj => by
  have e : loopAt (bodyOf Tryz.f52) 0 = some (.loop B_b1) := by kernel_rfl
  rw [e] at hcj; cases hcj
  exact (needSp_sound (ps := [N ≤ 100000, ∀ k, k < N → isRec 4 (n k) (fr k) ∧ isRec 2 (m k) (ft k)]) (fun h => b1_ls N C T lo hi n fr m ft pl ph dl dh u0 u1 wi day h.1 h.2)).N) (fun cj hcj => by
  have e : loopAt (bodyOf Tryz.f52) 1 = some (.loop B_b2) := by kernel_rfl
  rw [e] at hcj; cases hcj
  exact (needSp_sound (ps := [N ≤ 100000, ∀ k, k < N → isRec 4 (n k) (fr k) ∧ isRec 2 (m k) (ft k), fstE (aE N C T lo hi n fr m ft pl ph dl dh u0 u1 wi) N = 0, 0 ≤ day ∧ day ≤ 10000]) (fun h => b2_ls N C T lo hi n fr m ft pl ph dl dh u0 u1 wi day h.1 h.2.1 h.2.2.1 h.2.2.2)).N)) (t := (let z0 := (Value.int IntKind.i64 (0 : Int)); let z1 := (aL N C T lo hi n fr m ft pl ph dl dh u0 u1 wi); let z2 := (aH N C T lo hi n fr m ft pl ph dl dh u0 u1 wi); let z3 := (AV.lst 10 N fun k => [iI (C k), iI (T k), iI (lo k), iI (hi k), AV.lst 4 (n k) fun a => fr k a, AV.lst 2 (m k) fun a => ft k a, iI (pl k), iI (ph k), iI (dl k), iI (dh k)]); let z4 := (aE N C T lo hi n fr m ft pl ph dl dh u0 u1 wi); (Tree.branch (decide ((↑N : Int) > (8 : Int))) (Tree.leaf (RV.tup [RV.x z0, RV.x z0, RV.x (Value.int IntKind.i64 (3 : Int))])) (Tree.need [N ≤ 100000, ∀ (k : Nat), k < N → isRec 4 (n k) (fr k) ∧ isRec 2 (m k) (ft k)] (Tree.need [z3 = AV.lst 10 N fun k => [iI (C k), iI (T k), iI (lo k), iI (hi k), AV.lst 4 (n k) fun a => fr k a, AV.lst 2 (m k) fun a => ft k a, iI (pl k), iI (ph k), iI (dl k), iI (dh k)], Eq1 (AV.agg [iI u0, iI u1, iI wi]), day = day, Eq1 (AV.ptr 0 0), Eq1 (0 : Int), Eq1 (-1 : Int), Eq1 (0 : Int), Eq1 (AV.row 900), z3 = AV.lst 10 N fun k => [iI (C k), iI (T k), iI (lo k), iI (hi k), AV.lst 4 (n k) fun a => fr k a, AV.lst 2 (m k) fun a => ft k a, iI (pl k), iI (ph k), iI (dl k), iI (dh k)], Eq1 (↑N : Int), (0 : Int) = (↑(0 : Nat) : Int), 0 = 0, ∀ (i : Nat), i < 0 → [] = [AV.roI [iI (C i), iI (T i), iI (lo i), iI (hi i), rds (n i) (col 0 (fr i)) (col 1 (fr i)) (col 2 (fr i)) (col 3 (fr i)), Pt.scs (m i) (Pt.col 0 (ft i)) (Pt.col 1 (ft i))] 26 (wkA (C i) (T i) (lo i) (hi i) (n i) (col 0 (fr i)) (col 1 (fr i)) (col 2 (fr i)) (col 3 (fr i)) (m i) (Pt.col 0 (ft i)) (Pt.col 1 (ft i)) (pl i) (ph i) (dl i) (dh i)) 0], u0 = u0, u1 = u1, wi = wi] (Tree.branch (decide (fstE z4 N = (0 : Int))) (Tree.branch (!bt (0 : Int) day (10000 : Int)) (Tree.leaf (RV.tup [RV.x z0, RV.x z0, RV.x (Value.int IntKind.i64 (2 : Int))])) (Tree.need [N ≤ 100000, ∀ (k : Nat), k < N → isRec 4 (n k) (fr k) ∧ isRec 2 (m k) (ft k), fstE z4 N = (0 : Int), (0 : Int) ≤ day ∧ day ≤ (10000 : Int)] (Tree.need [z3 = AV.lst 10 N fun k => [iI (C k), iI (T k), iI (lo k), iI (hi k), AV.lst 4 (n k) fun a => fr k a, AV.lst 2 (m k) fun a => ft k a, iI (pl k), iI (ph k), iI (dl k), iI (dh k)], Eq1 (AV.agg [iI u0, iI u1, iI wi]), day = day, Eq1 (AV.ptr 0 0), (0 : Int) = bsW z1 z2 day 0, (-1 : Int) = bsX z1 z2 day 0, Eq1 (0 : Int), Eq1 (AV.row 900), z3 = AV.lst 10 N fun k => [iI (C k), iI (T k), iI (lo k), iI (hi k), AV.lst 4 (n k) fun a => fr k a, AV.lst 2 (m k) fun a => ft k a, iI (pl k), iI (ph k), iI (dl k), iI (dh k)], Eq1 (↑N : Int), Eq1 (AV.row 900), Eq1 (↑N : Int), (0 : Int) = (↑(0 : Nat) : Int), N = N, ∀ (i : Nat), i < N → [AV.roI [iI (C i), iI (T i), iI (lo i), iI (hi i), rds (n i) (col 0 (fr i)) (col 1 (fr i)) (col 2 (fr i)) (col 3 (fr i)), Pt.scs (m i) (Pt.col 0 (ft i)) (Pt.col 1 (ft i))] 26 (wkA (C i) (T i) (lo i) (hi i) (n i) (col 0 (fr i)) (col 1 (fr i)) (col 2 (fr i)) (col 3 (fr i)) (m i) (Pt.col 0 (ft i)) (Pt.col 1 (ft i)) (pl i) (ph i) (dl i) (dh i)) 0] = [AV.roI [iI (C i), iI (T i), iI (lo i), iI (hi i), AV.lst 4 (n i) fun k => [iI (col 0 (fr i) k), iI (col 1 (fr i) k), iI (col 2 (fr i) k), iI (col 3 (fr i) k)], AV.lst 2 (m i) fun k => [iI (Pt.col 0 (ft i) k), iI (Pt.col 1 (ft i) k)]] 26 (fun a => wkA (C i) (T i) (lo i) (hi i) (n i) (col 0 (fr i)) (col 1 (fr i)) (col 2 (fr i)) (col 3 (fr i)) (m i) (Pt.col 0 (ft i)) (Pt.col 1 (ft i)) (pl i) (ph i) (dl i) (dh i) a) 0], u0 = u0, u1 = u1, wi = wi] (Tree.branch (decide (bsX z1 z2 day N < (0 : Int))) (Tree.leaf (RV.tup [RV.x z0, RV.x z0, RV.x (Value.int IntKind.i64 (11 : Int))])) (Tree.leaf (RV.tup [RV.x (Value.int IntKind.i64 (bsW z1 z2 day N)), RV.x (Value.int IntKind.i64 (bsX z1 z2 day N)), RV.x z0])))))) (Tree.leaf (RV.tup [RV.x z0, RV.x z0, RV.x (Value.int IntKind.i64 (fstE z4 N))])))))))) (by kernel_rfl) ?_
 simp only [Tree.sat, allP, fitP, fitL, valEq, true_and, and_true, decide_eq_true_eq, decide_eq_false_iff_not, bne_iff_ne, ne_eq, bne_eq_false_iff_eq, beq_iff_eq, beq_eq_false_iff_ne, Bool.not_eq_true', Bool.not_eq_false', not_true_eq_false, false_imp_iff, true_imp_iff]
 have b8 : btE N C T lo hi n fr m ft pl ph dl dh u0 u1 wi day = 3 ∨ ¬ (N > 8) := by
  by_cases h : N > 8
  ·exact .inl (if_pos h)
  ·exact .inr h
 have bz : ∀ k : Int, btE N C T lo hi n fr m ft pl ph dl dh u0 u1 wi day = k → k ≠ 0 → 0 = btW N C T lo hi n fr m ft pl ph dl dh u0 u1 wi day ∧ 0 = btX N C T lo hi n fr m ft pl ph dl dh u0 u1 wi day ∧ k = btE N C T lo hi n fr m ft pl ph dl dh u0 u1 wi day := fun k h h0 => by
  have h' : ¬ btE N C T lo hi n fr m ft pl ph dl dh u0 u1 wi day = 0 := by rw [h]; exact h0
  exact ⟨(if_neg h').symm, (if_neg h').symm, h.symm⟩
 have bo : btE N C T lo hi n fr m ft pl ph dl dh u0 u1 wi day = 0 → bsW (aL N C T lo hi n fr m ft pl ph dl dh u0 u1 wi) (aH N C T lo hi n fr m ft pl ph dl dh u0 u1 wi) day N = btW N C T lo hi n fr m ft pl ph dl dh u0 u1 wi day ∧ bsX (aL N C T lo hi n fr m ft pl ph dl dh u0 u1 wi) (aH N C T lo hi n fr m ft pl ph dl dh u0 u1 wi) day N = btX N C T lo hi n fr m ft pl ph dl dh u0 u1 wi day ∧ 0 = btE N C T lo hi n fr m ft pl ph dl dh u0 u1 wi day := fun h => ⟨(if_pos h).symm, (if_pos h).symm, h.symm⟩
 refine ⟨fun h => bz 3 (if_pos (by omega)) (by decide), fun h => ?_⟩
 have h8 : ¬ N > 8 := by omega
 have e1 : ¬ fstE (aE N C T lo hi n fr m ft pl ph dl dh u0 u1 wi) N = 0 → btE N C T lo hi n fr m ft pl ph dl dh u0 u1 wi day = fstE (aE N C T lo hi n fr m ft pl ph dl dh u0 u1 wi) N := fun h => by
  unfold btE
  rw [if_neg h8, if_neg h]
 have e2 : fstE (aE N C T lo hi n fr m ft pl ph dl dh u0 u1 wi) N = 0 → bt 0 day 10000 = false → btE N C T lo hi n fr m ft pl ph dl dh u0 u1 wi day = 2 := fun h h' => by
  unfold btE
  rw [if_neg h8, if_pos h, h']
  rfl
 have e3 : fstE (aE N C T lo hi n fr m ft pl ph dl dh u0 u1 wi) N = 0 → bt 0 day 10000 = true → bsX (aL N C T lo hi n fr m ft pl ph dl dh u0 u1 wi) (aH N C T lo hi n fr m ft pl ph dl dh u0 u1 wi) day N < 0 → btE N C T lo hi n fr m ft pl ph dl dh u0 u1 wi day = 11 := fun h h' h2 => by
  unfold btE
  rw [if_neg h8, if_pos h, h', if_pos rfl, if_pos h2]
 have e4 : fstE (aE N C T lo hi n fr m ft pl ph dl dh u0 u1 wi) N = 0 → bt 0 day 10000 = true → ¬ bsX (aL N C T lo hi n fr m ft pl ph dl dh u0 u1 wi) (aH N C T lo hi n fr m ft pl ph dl dh u0 u1 wi) day N < 0 → btE N C T lo hi n fr m ft pl ph dl dh u0 u1 wi day = 0 := fun h h' h2 => by
  unfold btE
  rw [if_neg h8, if_pos h, h', if_pos rfl, if_neg h2]
 have w1 : (1 : Int) = 1 := rfl
 (repeat' first | with_reducible apply And.intro | with_reducible intro _)
 all_goals first | exact True.intro | assumption | omega | exact (pre1 _ (by assumption)).1 | exact (pre1 _ (by assumption)).2 | exact ((bt_iff _ _ _).1 (by assumption)).1 | exact ((bt_iff _ _ _).1 (by assumption)).2 | exact (bz _ (e2 (by assumption) (by assumption)) (by decide)).1 | exact (bz _ (e2 (by assumption) (by assumption)) (by decide)).2.1 | exact (bz _ (e2 (by assumption) (by assumption)) (by decide)).2.2 | exact (bz _ (e3 (by assumption) (by assumption) (by assumption)) (by decide)).1 | exact (bz _ (e3 (by assumption) (by assumption) (by assumption)) (by decide)).2.1 | exact (bz _ (e3 (by assumption) (by assumption) (by assumption)) (by decide)).2.2 | exact (bo (e4 (by assumption) (by assumption) (by assumption))).1 | exact (bo (e4 (by assumption) (by assumption) (by assumption))).2.1 | exact (bo (e4 (by assumption) (by assumption) (by assumption))).2.2 | exact (bz _ (e1 (by assumption)) (by assumption)).1 | exact (bz _ (e1 (by assumption)) (by assumption)).2.1 | exact (bz _ (e1 (by assumption)) (by assumption)).2.2 | (exfalso; rename_i hj; exact absurd hj (Nat.not_lt_zero _)) | rfl | trace_state
def lnA : AV → Nat
 | .lst _ n _ => n
 | _ => 0
def lfA : AV → Nat → List AV
 | .lst _ _ g => g
 | _ => fun _ => []
def nA (j : Nat) (f : Nat → List AV) (k : Nat) : Nat := lnA ((f k).getD j .top)
def fA (j : Nat) (f : Nat → List AV) (k : Nat) : Nat → List AV := lfA ((f k).getD j .top)
def isInsL (N : Nat) (f : Nat → List AV) : Prop := ∀ k, k < N → f k = [i (col 0 f k), i (col 1 f k), i (col 2 f k), i (col 3 f k), .lst 4 (nA 4 f k) (fA 4 f k), .lst 2 (nA 5 f k) (fA 5 f k), i (col 6 f k), i (col 7 f k), i (col 8 f k), i (col 9 f k)] ∧ isRec 4 (nA 4 f k) (fA 4 f k) ∧ isRec 2 (nA 5 f k) (fA 5 f k)
def S_Best : Sx.Spec := fun l => match l with
 | [.lst 10 N f, .agg [.x (.int .i64 u0), .x (.int .i64 u1), .x (.int .i64 wi)], .x (.int .i64 day)] => some ([isInsL N f, N ≤ 100000], .tup [i (btW N (col 0 f) (col 1 f) (col 2 f) (col 3 f) (nA 4 f) (fA 4 f) (nA 5 f) (fA 5 f) (col 6 f) (col 7 f) (col 8 f) (col 9 f) u0 u1 wi day), i (btX N (col 0 f) (col 1 f) (col 2 f) (col 3 f) (nA 4 f) (fA 4 f) (nA 5 f) (fA 5 f) (col 6 f) (col 7 f) (col 8 f) (col 9 f) u0 u1 wi day), i (btE N (col 0 f) (col 1 f) (col 2 f) (col 3 f) (nA 4 f) (fA 4 f) (nA 5 f) (fA 5 f) (col 6 f) (col 7 f) (col 8 f) (col 9 f) u0 u1 wi day)])
 | _ => none
theorem Best_ok : SoundSpec Tryz.prog 52 S_Best := by
 refine ⟨⟨_, Tryz.func52, by kernel_rfl, by kernel_rfl⟩, ?_⟩
 intro avs ns res h hn
 unfold S_Best at h
 split at h
 ·rename_i N f u0 u1 wi day
  cases h
  have hi : isInsL N f := hn _ List.mem_cons_self
  exact (Best_at N (col 0 f) (col 1 f) (col 2 f) (col 3 f) (nA 4 f) (fA 4 f) (nA 5 f) (fA 5 f) (col 6 f) (col 7 f) (col 8 f) (col 9 f) u0 u1 wi day (hn _ (by simp)) (fun k hk => (hi k hk).2) ).same (.cons (.lst 10 N _ _ fun k hk => (hi k hk).1) (.cons (.refl _) (.cons (.refl _) .nil)))
 ·cases h
end Go.Proofs.YtlinbkmpkcmniaaGreat
namespace Go.Proofs.YtlinbkmpkcmniaaGreat
open Go Go.Sx Go.RowKit Bo
theorem catIns {C T lo hi : Nat → Int} {n : Nat → Nat} {fr : Nat → Nat → List AV} {m : Nat → Nat} {ft : Nat → Nat → List AV} {pl ph dl dh : Nat → Int} {k j : Nat} (h : j < k + 1) : catF k (fun j => [i (C j), i (T j), i (lo j), i (hi j), rds (n j) (col 0 (fr j)) (col 1 (fr j)) (col 2 (fr j)) (col 3 (fr j)), Pt.scs (m j) (Pt.col 0 (ft j)) (Pt.col 1 (ft j)), i (pl j), i (ph j), i (dl j), i (dh j)]) (chunk 10 [i (C k), i (T k), i (lo k), i (hi k), rds (n k) (col 0 (fr k)) (col 1 (fr k)) (col 2 (fr k)) (col 3 (fr k)), Pt.scs (m k) (Pt.col 0 (ft k)) (Pt.col 1 (ft k)), i (pl k), i (ph k), i (dl k), i (dh k)]) j = [i (C j), i (T j), i (lo j), i (hi j), rds (n j) (col 0 (fr j)) (col 1 (fr j)) (col 2 (fr j)) (col 3 (fr j)), Pt.scs (m j) (Pt.col 0 (ft j)) (Pt.col 1 (ft j)), i (pl j), i (ph j), i (dl j), i (dh j)] := by
 show mergeL (decide (j < k)) [i (C j), i (T j), i (lo j), i (hi j), rds (n j) (col 0 (fr j)) (col 1 (fr j)) (col 2 (fr j)) (col 3 (fr j)), Pt.scs (m j) (Pt.col 0 (ft j)) (Pt.col 1 (ft j)), i (pl j), i (ph j), i (dl j), i (dh j)] (chunk 10 [i (C k), i (T k), i (lo k), i (hi k), rds (n k) (col 0 (fr k)) (col 1 (fr k)) (col 2 (fr k)) (col 3 (fr k)), Pt.scs (m k) (Pt.col 0 (ft k)) (Pt.col 1 (ft k)), i (pl k), i (ph k), i (dl k), i (dh k)] (j - k)) = _
 rw [show j - k = 0 by omega]
 by_cases hj : j < k
 ·rw [decide_eq_true hj]
  rfl
 ·obtain rfl : j = k := by omega
  rw [decide_eq_false hj]
  rfl
noncomputable def E_ins (N : Nat) (C T lo hi : Nat → Int) (n : Nat → Nat) (fr : Nat → Nat → List AV) (m : Nat → Nat) (ft : Nat → Nat → List AV) (pl ph dl dh : Nat → Int) : St := (some { σ := [AV.lst 10 N fun k => [iI (C k), iI (T k), iI (lo k), iI (hi k), AV.lst 4 (n k) fun a => fr k a, AV.lst 2 (m k) fun a => ft k a, iI (pl k), iI (ph k), iI (dl k), iI (dh k)], AV.top, AV.x (Value.slice none 0 0)] ++ tpL 17 [], m := [(900, Res.row 47 10 0 fun x => [])], nx := 901 } : Option St).getD { σ := [], m := [], nx := 0 }
noncomputable def B_ins : Code := loopBody (loopAt (bodyOf Tryz.f53) 0)
noncomputable def inv_ins (N : Nat) (C T lo hi : Nat → Int) (n : Nat → Nat) (fr : Nat → Nat → List AV) (m : Nat → Nat) (ft : Nat → Nat → List AV) (pl ph dl dh : Nat → Int) (k : Nat) : St := { σ := ovrS [(3, .row 900), (4, i k)] (E_ins N C T lo hi n fr m ft pl ph dl dh).σ, m := [(900, .row 47 10 k (fun j => [i (C j), i (T j), i (lo j), i (hi j), rds (n j) (col 0 (fr j)) (col 1 (fr j)) (col 2 (fr j)) (col 3 (fr j)), Pt.scs (m j) (Pt.col 0 (ft j)) (Pt.col 1 (ft j)), i (pl j), i (ph j), i (dl j), i (dh j)]))], nx := 901 }
noncomputable def out_ins (N : Nat) (C T lo hi : Nat → Int) (n : Nat → Nat) (fr : Nat → Nat → List AV) (m : Nat → Nat) (ft : Nat → Nat → List AV) (pl ph dl dh : Nat → Int) (k : Nat) : AEx → Option St := fun ex => match ex with
 | .exit 0 => some { σ := ovrS [(3, .row 900)] (E_ins N C T lo hi n fr m ft pl ph dl dh).σ, m := [(900, .row 47 10 N (fun j => [i (C j), i (T j), i (lo j), i (hi j), rds (n j) (col 0 (fr j)) (col 1 (fr j)) (col 2 (fr j)) (col 3 (fr j)), Pt.scs (m j) (Pt.col 0 (ft j)) (Pt.col 1 (ft j)), i (pl j), i (ph j), i (dl j), i (dh j)]))], nx := 901 }
 | _ => none
noncomputable def T_ins (N : Nat) (C T lo hi : Nat → Int) (n : Nat → Nat) (fr : Nat → Nat → List AV) (m : Nat → Nat) (ft : Nat → Nat → List AV) (pl ph dl dh : Nat → Int) : CT := .leaf (.exit 0, ( out_ins N C T lo hi n fr m ft pl ph dl dh 0 (.exit 0)).getD (E_ins N C T lo hi n fr m ft pl ph dl dh))
noncomputable def LS_ins (N : Nat) (C T lo hi : Nat → Int) (n : Nat → Nat) (fr : Nat → Nat → List AV) (m : Nat → Nat) (ft : Nat → Nat → List AV) (pl ph dl dh : Nat → Int) : LSpec := normSp [(.slot 3, 900, 47, 10)] (sumL (inv_ins N C T lo hi n fr m ft pl ph dl dh (0)) (T_ins N C T lo hi n fr m ft pl ph dl dh))
theorem ins_ls (N : Nat) (C T lo hi : Nat → Int) (n : Nat → Nat) (fr : Nat → Nat → List AV) (m : Nat → Nat) (ft : Nat → Nat → List AV) (pl ph dl dh : Nat → Int) (pre0 : N ≤ 100000) (pre1 : ∀ k, k < N → isRec 4 (n k) (fr k) ∧ isRec 2 (m k) (ft k)) (pre2 : ∀ k, k < N → n k ≤ 100000 ∧ m k ≤ 100000) : LSound Tryz.prog (.loop B_ins) (LS_ins N C T lo hi n fr m ft pl ph dl dh) := by
 refine loop_roundsX [(.slot 3, 900, 47, 10)] (E := { R := [], H := [], C := [(20, C_Instrument)] }) (G := []) (L := []) (SoundG.nil _) (SoundX.ofC (SoundRL.nil _) (SoundHL.nil _) (SoundCL.cons Instrument_okC (SoundCL.nil _))) mixed noLoops (X := Nat) (inv_ins N C T lo hi n fr m ft pl ph dl dh) (fun k => k ≤ N) (fun k => N - k) (out_ins N C T lo hi n fr m ft pl ph dl dh) (x0 := 0) (by simp) ?_ ?_ ?_
 ·rintro k
  kernel_rfl
 ·rintro k y E h
  unfold out_ins at h
  split at h
  ·cases h; kernel_rfl
  ·cases h
 ·rintro Q hQ k hx
  refine ⟨(k + 1), ?_⟩
  have e : roundX Tryz.prog [] { R := [], H := [], C := [(20, C_Instrument)] } [] [(.slot 3, 900, 47, 10)] B_ins (inv_ins N C T lo hi n fr m ft pl ph dl dh k) (inv_ins N C T lo hi n fr m ft pl ph dl dh ((k + 1))) (out_ins N C T lo hi n fr m ft pl ph dl dh k) = (let z0 := (AV.lst 10 N fun k => [iI (C k), iI (T k), iI (lo k), iI (hi k), AV.lst 4 (n k) fun a => fr k a, AV.lst 2 (m k) fun a => ft k a, iI (pl k), iI (ph k), iI (dl k), iI (dh k)]); (Tree.branch (decide ((↑k : Int) < (↑N : Int))) (Tree.need [(0 : Int) ≤ (↑k : Int) ∧ (↑k : Int) < (↑N : Int)] (Tree.need [isRec 4 (n k) fun a => fr k a, isRec 2 (m k) fun a => ft k a, n k ≤ 100000, m k ≤ 100000] (Tree.need [(k + 1) * 112 ≤ 140737488355328, ∀ (i : Nat), i < 1 → ∀ (a : AV), a ∈ chunk 10 [iI (C k), iI (T k), iI (lo k), iI (hi k), AV.lst 4 (n k) fun k_1 => [iI (col 0 (fun a => fr k a) k_1), iI (col 1 (fun a => fr k a) k_1), iI (col 2 (fun a => fr k a) k_1), iI (col 3 (fun a => fr k a) k_1)], AV.lst 2 (m k) fun k_1 => [iI (Pt.col 0 (fun a => ft k a) k_1), iI (Pt.col 1 (fun a => ft k a) k_1)], iI (pl k), iI (ph k), iI (dl k), iI (dh k)] i → AV.one a = true] (Tree.need [inI64 ((↑k : Int) + (1 : Int))] (Tree.need [z0 = AV.lst 10 N fun k => [iI (C k), iI (T k), iI (lo k), iI (hi k), AV.lst 4 (n k) fun a => fr k a, AV.lst 2 (m k) fun a => ft k a, iI (pl k), iI (ph k), iI (dl k), iI (dh k)], Eq1 (AV.x (Value.slice none 0 0)), Eq1 (AV.row 900), (↑k : Int) + (1 : Int) = (↑(k + 1) : Int), k + 1 = k + 1, ∀ (i : Nat), i < k + 1 → catF k (fun j => [iI (C j), iI (T j), iI (lo j), iI (hi j), rds (n j) (col 0 (fr j)) (col 1 (fr j)) (col 2 (fr j)) (col 3 (fr j)), Pt.scs (m j) (Pt.col 0 (ft j)) (Pt.col 1 (ft j)), iI (pl j), iI (ph j), iI (dl j), iI (dh j)]) (chunk 10 [iI (C k), iI (T k), iI (lo k), iI (hi k), AV.lst 4 (n k) fun k_1 => [iI (col 0 (fun a => fr k a) k_1), iI (col 1 (fun a => fr k a) k_1), iI (col 2 (fun a => fr k a) k_1), iI (col 3 (fun a => fr k a) k_1)], AV.lst 2 (m k) fun k_1 => [iI (Pt.col 0 (fun a => ft k a) k_1), iI (Pt.col 1 (fun a => ft k a) k_1)], iI (pl k), iI (ph k), iI (dl k), iI (dh k)]) i = [iI (C i), iI (T i), iI (lo i), iI (hi i), rds (n i) (col 0 (fr i)) (col 1 (fr i)) (col 2 (fr i)) (col 3 (fr i)), Pt.scs (m i) (Pt.col 0 (ft i)) (Pt.col 1 (ft i)), iI (pl i), iI (ph i), iI (dl i), iI (dh i)]] (Tree.leaf AEx.normal)))))) (Tree.need [z0 = AV.lst 10 N fun k => [iI (C k), iI (T k), iI (lo k), iI (hi k), AV.lst 4 (n k) fun a => fr k a, AV.lst 2 (m k) fun a => ft k a, iI (pl k), iI (ph k), iI (dl k), iI (dh k)], Eq1 (AV.x (Value.slice none 0 0)), Eq1 (AV.row 900), k = N, ∀ (i : Nat), i < N → [iI (C i), iI (T i), iI (lo i), iI (hi i), rds (n i) (col 0 (fr i)) (col 1 (fr i)) (col 2 (fr i)) (col 3 (fr i)), Pt.scs (m i) (Pt.col 0 (ft i)) (Pt.col 1 (ft i)), iI (pl i), iI (ph i), iI (dl i), iI (dh i)] = [iI (C i), iI (T i), iI (lo i), iI (hi i), rds (n i) (col 0 (fr i)) (col 1 (fr i)) (col 2 (fr i)) (col 3 (fr i)), Pt.scs (m i) (Pt.col 0 (ft i)) (Pt.col 1 (ft i)), iI (pl i), iI (ph i), iI (dl i), iI (dh i)]] (Tree.leaf (AEx.exit 0))))) := by kernel_rfl
  rw [e]
  simp only [T_ins, out_ins, Tree.sat, Option.getD_some] at hQ
  simp only [Tree.sat, allP, fitP, fitL, valEq, true_and, and_true, decide_eq_true_eq, decide_eq_false_iff_not, bne_iff_ne, ne_eq, bne_eq_false_iff_eq, beq_iff_eq, beq_eq_false_iff_ne, Bool.not_eq_true', Bool.not_eq_false', not_true_eq_false, false_imp_iff, true_imp_iff, inI64]
  clear e
  refine ⟨fun h => ⟨by omega, ⟨(pre1 k (by omega)).1, (pre1 k (by omega)).2, pre2 k (by omega)⟩, ⟨by omega, fun j hj y hy => one_of hy (by simp [AV.one, Value.oneCell'])⟩, by omega, ⟨by omega, fun j hj => catIns hj⟩, by omega, by omega⟩, fun h => ?_⟩
  obtain rfl : k = N := by omega
  exact ⟨⟨rfl, fun _ _ => trivial⟩, fun E hE => by cases hE; exact hQ⟩
theorem InstrumentsC_at (N : Nat) (C T lo hi : Nat → Int) (n : Nat → Nat) (fr : Nat → Nat → List AV) (m : Nat → Nat) (ft : Nat → Nat → List AV) (pl ph dl dh : Nat → Int) (pre0 : N ≤ 100000) (pre1 : ∀ k, k < N → isRec 4 (n k) (fr k) ∧ isRec 2 (m k) (ft k)) (pre2 : ∀ k, k < N → n k ≤ 100000 ∧ m k ≤ 100000) : SoundCAt Tryz.prog 53 [.lst 10 N (fun k => [i (C k), i (T k), i (lo k), i (hi k), .lst 4 (n k) (fr k), .lst 2 (m k) (ft k), i (pl k), i (ph k), i (dl k), i (dh k)])] (.leaf (.lst 10 N (fun k => [i (C k), i (T k), i (lo k), i (hi k), rds (n k) (col 0 (fr k)) (col 1 (fr k)) (col 2 (fr k)) (col 3 (fr k)), Pt.scs (m k) (Pt.col 0 (ft k)) (Pt.col 1 (ft k)), i (pl k), i (ph k), i (dl k), i (dh k)]))) := by
 refine soundCAt_fin (G := []) (X := { R := [], H := [], C := [(20, C_Instrument)] }) (L := [needSp [N ≤ 100000, ∀ k, k < N → isRec 4 (n k) (fr k) ∧ isRec 2 (m k) (ft k), ∀ k, k < N → n k ≤ 100000 ∧ m k ≤ 100000] (LS_ins N C T lo hi n fr m ft pl ph dl dh)]) (SoundG.nil _) (SoundX.ofC (SoundRL.nil _) (SoundHL.nil _) (SoundCL.cons Instrument_okC (SoundCL.nil _))) mixed Tryz.func53 (show Tryz.f53.body = some (bodyOf Tryz.f53) by kernel_rfl) (one_loop (fun cj hcj => by
  have e : loopAt (bodyOf Tryz.f53) 0 = some (.loop B_ins) := by kernel_rfl
  rw [e] at hcj; cases hcj
  exact (needSp_sound (ps := [N ≤ 100000, ∀ k, k < N → isRec 4 (n k) (fr k) ∧ isRec 2 (m k) (ft k), ∀ k, k < N → n k ≤ 100000 ∧ m k ≤ 100000]) (fun h => ins_ls N C T lo hi n fr m ft pl ph dl dh h.1 h.2.1 h.2.2)).N)) (t := (Tree.need [N ≤ 100000, ∀ (k : Nat), k < N → isRec 4 (n k) (fr k) ∧ isRec 2 (m k) (ft k), ∀ (k : Nat), k < N → n k ≤ 100000 ∧ m k ≤ 100000] (Tree.need [(AV.lst 10 N fun k => [iI (C k), iI (T k), iI (lo k), iI (hi k), AV.lst 4 (n k) fun a => fr k a, AV.lst 2 (m k) fun a => ft k a, iI (pl k), iI (ph k), iI (dl k), iI (dh k)]) = AV.lst 10 N fun k => [iI (C k), iI (T k), iI (lo k), iI (hi k), AV.lst 4 (n k) fun a => fr k a, AV.lst 2 (m k) fun a => ft k a, iI (pl k), iI (ph k), iI (dl k), iI (dh k)], Eq1 (AV.x (Value.slice none 0 0)), Eq1 (AV.row 900), (0 : Int) = (↑(0 : Nat) : Int), 0 = 0, ∀ (i : Nat), i < 0 → [] = [iI (C i), iI (T i), iI (lo i), iI (hi i), rds (n i) (col 0 (fr i)) (col 1 (fr i)) (col 2 (fr i)) (col 3 (fr i)), Pt.scs (m i) (Pt.col 0 (ft i)) (Pt.col 1 (ft i)), iI (pl i), iI (ph i), iI (dl i), iI (dh i)]] (Tree.leaf (AV.lst 10 N fun j => [iI (C j), iI (T j), iI (lo j), iI (hi j), AV.lst 4 (n j) fun k => [iI (col 0 (fr j) k), iI (col 1 (fr j) k), iI (col 2 (fr j) k), iI (col 3 (fr j) k)], AV.lst 2 (m j) fun k => [iI (Pt.col 0 (ft j) k), iI (Pt.col 1 (ft j) k)], iI (pl j), iI (ph j), iI (dl j), iI (dh j)]))))) (by kernel_rfl) ?_
 intro Q hQ
 simp only [Tree.sat, allP, fitP, fitL, valEq, true_and, and_true, decide_eq_true_eq, decide_eq_false_iff_not, bne_iff_ne, ne_eq, bne_eq_false_iff_eq, beq_iff_eq, beq_eq_false_iff_ne, Bool.not_eq_true', Bool.not_eq_false', not_true_eq_false, false_imp_iff, true_imp_iff] at hQ ⊢
 exact ⟨⟨pre0, pre1, pre2⟩, ⟨rfl, fun j hj => absurd hj (Nat.not_lt_zero j)⟩, .lst 10 N (fun k => [i (C k), i (T k), i (lo k), i (hi k), rds (n k) (col 0 (fr k)) (col 1 (fr k)) (col 2 (fr k)) (col 3 (fr k)), Pt.scs (m k) (Pt.col 0 (ft k)) (Pt.col 1 (ft k)), i (pl k), i (ph k), i (dl k), i (dh k)]), ⟨rfl, rfl, fun _ _ => rfl⟩, hQ⟩
noncomputable def C_Instruments : CSpec := fun l => match l with
 | [.lst 10 N f] => some (.need [isInsL N f, N ≤ 100000, ∀ k, k < N → nA 4 f k ≤ 100000 ∧ nA 5 f k ≤ 100000] (.leaf (.lst 10 N (fun k => [i (col 0 f k), i (col 1 f k), i (col 2 f k), i (col 3 f k), rds (nA 4 f k) (col 0 (fA 4 f k)) (col 1 (fA 4 f k)) (col 2 (fA 4 f k)) (col 3 (fA 4 f k)), Pt.scs (nA 5 f k) (Pt.col 0 (fA 5 f k)) (Pt.col 1 (fA 5 f k)), i (col 6 f k), i (col 7 f k), i (col 8 f k), i (col 9 f k)]))))
 | _ => none
theorem Instruments_okC : Sx.Enters Tryz.prog 53 ∧ ∀ avs t, C_Instruments avs = some t → SoundCAt Tryz.prog 53 avs t := by
 refine ⟨⟨_, Tryz.func53, by kernel_rfl, by kernel_rfl⟩, ?_⟩
 intro avs t h
 unfold C_Instruments at h
 split at h
 ·rename_i N f
  cases h
  intro Q hQ
  have hi : isInsL N f := allP_mem hQ.1 _ List.mem_cons_self
  exact SoundCAt.same (InstrumentsC_at N (col 0 f) (col 1 f) (col 2 f) (col 3 f) (nA 4 f) (fA 4 f) (nA 5 f) (fA 5 f) (col 6 f) (col 7 f) (col 8 f) (col 9 f) (allP_mem hQ.1 _ (by simp)) (fun k hk => (hi k hk).2) (allP_mem hQ.1 _ (by simp))) (.cons (.lst 10 N _ _ fun k hk => (hi k hk).1) .nil) Q hQ.2
 ·cases h
theorem laskedC_at (c T lo hi : Int) (n : Nat) (a b u v : Nat → Int) (m : Nat) (p q : Nat → Int) (pl ph dl dh : Int) (u0 u1 wi day : Int) : SoundCAt Tryz.prog 44 [.agg [i c, i T, i lo, i hi, rds n a b u v, Pt.scs m p q, i pl, i ph, i dl, i dh], .agg [i u0, i u1, i wi], i day] (.leaf (.tup [.lst 2 (lhN c T lo hi n a b u v m p q pl ph dl dh) (fun k => [i (-(fwB c T lo hi n a b u v k 0)), i (fwB c T lo hi n a b u v 0 k)]), i (asE c T lo hi n a b u v m p q pl ph dl dh u0 u1 wi day)])) := by
 refine soundCAt_fin (G := [(22, S_lHeights), (34, S_rIsUse), (24, Pt.S_rIn)]) (X := { R := [], H := [] }) (L := []) (SoundG.cons lHeights_ok (SoundG.cons rIsUse_ok (SoundG.cons Pt.rIn_ok (SoundG.nil _)))) (SoundX.of (SoundRL.nil _) (SoundHL.nil _)) mixed Tryz.func44 (show Tryz.f44.body = some (bodyOf Tryz.f44) by kernel_rfl) noLoopsS (t := (let z2 := fwB c T lo hi n a b u v; let z0 := (Tree.leaf (AV.tup [AV.lst 2 (lhN c T lo hi n a b u v m p q pl ph dl dh) fun k => [iI (-z2 k 0), iI (z2 0 k)], iI (rdE c T lo hi n a b u v m p q pl ph dl dh)])); let z1 := (Tree.leaf (AV.tup [AV.lst 2 (lhN c T lo hi n a b u v m p q pl ph dl dh) fun k => [iI (-z2 k 0), iI (z2 0 k)], iI (2 : Int)])); (Tree.need [isRec 4 n fun k => [Bo.i (a k), Bo.i (b k), Bo.i (u k), Bo.i (v k)], isRec 2 m fun k => [Pt.i (p k), Pt.i (q k)]] (Tree.branch (rdE c T lo hi n a b u v m p q pl ph dl dh == (0 : Int)) (Tree.need [isRec 4 n fun k => [Bo.i (a k), Bo.i (b k), Bo.i (u k), Bo.i (v k)], isRec 2 m fun k => [Pt.i (p k), Pt.i (q k)]] (Tree.branch (!usB c u0 u1 wi) z1 (Tree.branch (!Pt.bt (0 : Int) day (10000 : Int)) z1 z0))) z0)))) (by kernel_rfl) ?_
 intro Q hQ
 simp only [Tree.sat, allP, fitP, fitL, valEq, true_and, and_true, decide_eq_true_eq, decide_eq_false_iff_not, bne_iff_ne, ne_eq, bne_eq_false_iff_eq, beq_iff_eq, beq_eq_false_iff_ne, Bool.not_eq_true', Bool.not_eq_false', not_true_eq_false, false_imp_iff, true_imp_iff, pbt_eq] at hQ ⊢
 have f1 : ¬ rdE c T lo hi n a b u v m p q pl ph dl dh = 0 → asE c T lo hi n a b u v m p q pl ph dl dh u0 u1 wi day = rdE c T lo hi n a b u v m p q pl ph dl dh := fun h => if_neg h
 have f2 : rdE c T lo hi n a b u v m p q pl ph dl dh = 0 → usB c u0 u1 wi = false → asE c T lo hi n a b u v m p q pl ph dl dh u0 u1 wi day = 2 := fun h h' => by
  unfold asE
  rw [if_pos h, h']
  rfl
 have f3 : rdE c T lo hi n a b u v m p q pl ph dl dh = 0 → bt 0 day 10000 = false → asE c T lo hi n a b u v m p q pl ph dl dh u0 u1 wi day = 2 := fun h h' => by
  unfold asE
  rw [if_pos h, h', Bool.and_false]
  rfl
 have f4 : rdE c T lo hi n a b u v m p q pl ph dl dh = 0 → usB c u0 u1 wi = true → bt 0 day 10000 = true → asE c T lo hi n a b u v m p q pl ph dl dh u0 u1 wi day = 0 := fun h h' h'' => by
  unfold asE
  rw [if_pos h, h', h'']
  rfl
 have rp : ∀ e : Int, asE c T lo hi n a b u v m p q pl ph dl dh u0 u1 wi day = e → ∃ r', repP (.tup [.lst 2 (lhN c T lo hi n a b u v m p q pl ph dl dh) (fun k => [i (-(fwB c T lo hi n a b u v k 0)), i (fwB c T lo hi n a b u v 0 k)]), i e]) r' ∧ Q r' := fun e he => by
  rw [he] at hQ
  exact ⟨.tup [.lst 2 (lhN c T lo hi n a b u v m p q pl ph dl dh) (fun k => [i (-(fwB c T lo hi n a b u v k 0)), i (fwB c T lo hi n a b u v 0 k)]), i e], ⟨⟨rfl, rfl, fun _ _ => rfl⟩, ⟨rfl, rfl⟩, True.intro⟩, hQ⟩
 exact ⟨⟨Bo.isRec4 n a b u v, Pt.isRec2 m p q⟩, fun h => ⟨⟨Bo.isRec4 n a b u v, Pt.isRec2 m p q⟩, fun h1 => rp _ (f2 h h1), fun h1 => ⟨fun h2 => rp _ (f3 h h2), fun h2 => rp _ ((f4 h h1 h2).trans h.symm)⟩⟩, fun h => rp _ (f1 h)⟩
noncomputable def C_lasked : CSpec := fun l => match l with
 | [.agg [.x (.int .i64 c), .x (.int .i64 T), .x (.int .i64 lo), .x (.int .i64 hi), .lst 4 n fr, .lst 2 m ft, .x (.int .i64 pl), .x (.int .i64 ph), .x (.int .i64 dl), .x (.int .i64 dh)], .agg [.x (.int .i64 u0), .x (.int .i64 u1), .x (.int .i64 wi)], .x (.int .i64 day)] => some (.need [isRec 4 n fr, isRec 2 m ft] (.leaf (.tup [.lst 2 (lhN c T lo hi n (col 0 fr) (col 1 fr) (col 2 fr) (col 3 fr) m (Pt.col 0 ft) (Pt.col 1 ft) pl ph dl dh) (fun k => [i (-(fwB c T lo hi n (col 0 fr) (col 1 fr) (col 2 fr) (col 3 fr) k 0)), i (fwB c T lo hi n (col 0 fr) (col 1 fr) (col 2 fr) (col 3 fr) 0 k)]), i (asE c T lo hi n (col 0 fr) (col 1 fr) (col 2 fr) (col 3 fr) m (Pt.col 0 ft) (Pt.col 1 ft) pl ph dl dh u0 u1 wi day)])))
 | _ => none
theorem lasked_okC : Sx.Enters Tryz.prog 44 ∧ ∀ avs t, C_lasked avs = some t → SoundCAt Tryz.prog 44 avs t := by
 refine ⟨⟨_, Tryz.func44, by kernel_rfl, by kernel_rfl⟩, ?_⟩
 intro avs t h
 unfold C_lasked at h
 split at h
 ·cases h
  intro Q hQ
  have hr : isRec 4 _ _ := allP_mem hQ.1 _ List.mem_cons_self
  have ht : isRec 2 _ _ := allP_mem hQ.1 _ (List.mem_cons_of_mem _ List.mem_cons_self)
  exact SoundCAt.same (laskedC_at _ _ _ _ _ _ _ _ _ _ _ _ _ _ _ _ _ _ _ _) (.cons (Sames.same (.cons (.refl _) (.cons (.refl _) (.cons (.refl _) (.cons (.refl _) (.cons (.lst 4 _ _ _ hr) (.cons (.lst 2 _ _ _ ht) (.cons (.refl _) (.cons (.refl _) (.cons (.refl _) (.cons (.refl _) .nil))))))))))) (.cons (.refl _) (.cons (.refl _) .nil))) Q hQ.2
 ·cases h
end Go.Proofs.YtlinbkmpkcmniaaGreat
namespace Go.Proofs.YtlinbkmpkcmniaaGreat
open Go Go.Sx Go.RowKit Bo
def thB (n m : Nat → Nat) (k : Nat) : Bool := decide (n k ≤ 15) && decide (m k ≤ 11)
end Go.Proofs.YtlinbkmpkcmniaaGreat
