/- Texts of this claim, put together: CfO, CeP -/
import Derived.Test.YtlinbkmpkcmniaaGreatMo
set_option linter.unusedSimpArgs false
set_option linter.unusedVariables false
set_option maxRecDepth 100000
namespace Go.Proofs.YtlinbkmpkcmniaaGreat
open Go Go.Sx Go.RowKit Bo
noncomputable def E_hl (c T lo hi : Int) (n : Nat) (a b u v : Nat → Int) (m : Nat) (p q : Nat → Int) (pl ph dl dh : Int) (u0 u1 wi day : Int) : St := (some { σ := [AV.agg [iI c, iI T, iI lo, iI hi, AV.lst 4 n fun k => [iI (a k), iI (b k), iI (u k), iI (v k)], AV.lst 2 m fun k => [iI (p k), iI (q k)], iI pl, iI ph, iI dl, iI dh], AV.agg [iI u0, iI u1, iI wi], iI day, AV.ptr 0 0, AV.ptr 1 0, AV.top, AV.lit false, AV.lst 1 (List.length (hgR c T lo hi n a b u v m p q pl ph dl dh u0 u1 wi day)) fun j => [iI (nthJ (hgR c T lo hi n a b u v m p q pl ph dl dh u0 u1 wi day) j)], iI (hgE c T lo hi n a b u v m p q pl ph dl dh u0 u1 wi day), AV.lst 1 (List.length (egL c T lo hi n a b u v m p q pl ph dl dh u0 u1 wi day)) fun j => [iI (nthJ (egL c T lo hi n a b u v m p q pl ph dl dh u0 u1 wi day) j)], iI (hgE c T lo hi n a b u v m p q pl ph dl dh u0 u1 wi day), AV.lst 2 (lhN c T lo hi n a b u v m p q pl ph dl dh) fun k => [iI (-fwB c T lo hi n a b u v k 0), iI (fwB c T lo hi n a b u v 0 k)], iI (asE c T lo hi n a b u v m p q pl ph dl dh u0 u1 wi day), iI ((1 : Int) * (2 : Int) ^ Int.toNat (IntKind.wrap IntKind.u64 (↑n : Int)) - (1 : Int)), AV.lst 1 (List.length (ofL ((1 : Int) * (2 : Int) ^ Int.toNat (IntKind.wrap IntKind.u64 (↑n : Int)) - (1 : Int)) n)) fun j => [iI (nthJ (ofL ((1 : Int) * (2 : Int) ^ Int.toNat (IntKind.wrap IntKind.u64 (↑n : Int)) - (1 : Int)) n) j)]] ++ tpL 148 [], m := [(900, Res.row 3 1 0 fun x => []), (1, Res.cells 62 [iI u0, iI u1, iI wi]), (0, Res.cells 31 [iI c, iI T, iI lo, iI hi, AV.lst 4 n fun k => [iI (a k), iI (b k), iI (u k), iI (v k)], AV.lst 2 m fun k => [iI (p k), iI (q k)], iI pl, iI ph, iI dl, iI dh])], nx := 901 } : Option St).getD { σ := [], m := [], nx := 0 }
noncomputable def B_hl : Code := loopBody (loopAt (bodyOf Tryz.f15) 0)
noncomputable def inv_hl (c T lo hi : Int) (n : Nat) (a b u v : Nat → Int) (m : Nat) (p q : Nat → Int) (pl ph dl dh : Int) (u0 u1 wi day : Int) (k : Nat) : St := { σ := ovrS [(15, .row 900), (16, i k)] (E_hl c T lo hi n a b u v m p q pl ph dl dh u0 u1 wi day).σ, m := [(900, .row 3 1 (hgL c T lo hi n a b u v m p q pl ph dl dh u0 u1 wi day k).length (fun j => [i (nthJ (hgL c T lo hi n a b u v m p q pl ph dl dh u0 u1 wi day k) j)])), (1, .cells 62 [i u0, i u1, i wi]), (0, .cells 31 [i c, i T, i lo, i hi, rds n a b u v, Pt.scs m p q, i pl, i ph, i dl, i dh])], nx := 901 }
noncomputable def out_hl (c T lo hi : Int) (n : Nat) (a b u v : Nat → Int) (m : Nat) (p q : Nat → Int) (pl ph dl dh : Int) (u0 u1 wi day : Int) (k : Nat) : AEx → Option St := fun ex => match ex with
 | .exit 0 => some { σ := ovrS [(15, .row 900)] (E_hl c T lo hi n a b u v m p q pl ph dl dh u0 u1 wi day).σ, m := [(900, .row 3 1 (hgL c T lo hi n a b u v m p q pl ph dl dh u0 u1 wi day n).length (fun j => [i (nthJ (hgL c T lo hi n a b u v m p q pl ph dl dh u0 u1 wi day n) j)])), (1, .cells 62 [i u0, i u1, i wi]), (0, .cells 31 [i c, i T, i lo, i hi, rds n a b u v, Pt.scs m p q, i pl, i ph, i dl, i dh])], nx := 901 }
 | _ => none
noncomputable def T_hl (c T lo hi : Int) (n : Nat) (a b u v : Nat → Int) (m : Nat) (p q : Nat → Int) (pl ph dl dh : Int) (u0 u1 wi day : Int) : CT := .leaf (.exit 0, ( out_hl c T lo hi n a b u v m p q pl ph dl dh u0 u1 wi day 0 (.exit 0)).getD (E_hl c T lo hi n a b u v m p q pl ph dl dh u0 u1 wi day))
noncomputable def LS_hl (c T lo hi : Int) (n : Nat) (a b u v : Nat → Int) (m : Nat) (p q : Nat → Int) (pl ph dl dh : Int) (u0 u1 wi day : Int) : LSpec := normSp [(.slot 15, 900, 3, 1)] (sumL (inv_hl c T lo hi n a b u v m p q pl ph dl dh u0 u1 wi day (0)) (T_hl c T lo hi n a b u v m p q pl ph dl dh u0 u1 wi day))
theorem hl_ls (c T lo hi : Int) (n : Nat) (a b u v : Nat → Int) (m : Nat) (p q : Nat → Int) (pl ph dl dh : Int) (u0 u1 wi day : Int) (pre0 : rdE c T lo hi n a b u v m p q pl ph dl dh = 0) (pre1 : usB c u0 u1 wi = true) (pre2 : 0 ≤ day ∧ day ≤ 10000) (pre3 : keB c (wkA c T lo hi n a b u v m p q pl ph dl dh) u0 u1 wi day = true) : LSound Tryz.prog (.loop B_hl) (LS_hl c T lo hi n a b u v m p q pl ph dl dh u0 u1 wi day) := by
 refine loop_roundsX [(.slot 15, 900, 3, 1)] (E := { R := [(44, S_lasked)], H := [], C := [(20, C_Instrument)] }) (G := [(17, S_Thin), (47, S_rFault), (18, S_wakes), (36, S_Use), (54, S_Hangs), (55, S_Enough), (45, S_rKept), (56, S_rOf), (58, S_rLess), (57, S_lkept), (59, S_lints)]) (L := []) (SoundG.cons Thin_ok (SoundG.cons rFault_ok (SoundG.cons wakes_ok (SoundG.cons Use_ok (SoundG.cons Hangs_ok (SoundG.cons Enough_ok (SoundG.cons rKept_ok (SoundG.cons rOf_ok (SoundG.cons rLess_ok (SoundG.cons lkept_ok (SoundG.cons lints_ok (SoundG.nil _)))))))))))) (SoundX.ofC (SoundRL.cons lasked_okR (SoundRL.nil _)) (SoundHL.nil _) (SoundCL.cons Instrument_okC (SoundCL.nil _))) mixed noLoops (X := Nat) (inv_hl c T lo hi n a b u v m p q pl ph dl dh u0 u1 wi day) (fun k => k ≤ n) (fun k => n - k) (out_hl c T lo hi n a b u v m p q pl ph dl dh u0 u1 wi day) (x0 := 0) (by simp) ?_ ?_ ?_
 ·rintro k
  kernel_rfl
 ·rintro k y E h
  unfold out_hl at h
  split at h
  ·cases h; kernel_rfl
  ·cases h
 ·rintro Q hQ k hx
  refine ⟨(k + 1), ?_⟩
  have e : roundX Tryz.prog [(17, S_Thin), (47, S_rFault), (18, S_wakes), (36, S_Use), (54, S_Hangs), (55, S_Enough), (45, S_rKept), (56, S_rOf), (58, S_rLess), (57, S_lkept), (59, S_lints)] { R := [(44, S_lasked)], H := [], C := [(20, C_Instrument)] } [] [(.slot 15, 900, 3, 1)] B_hl (inv_hl c T lo hi n a b u v m p q pl ph dl dh u0 u1 wi day k) (inv_hl c T lo hi n a b u v m p q pl ph dl dh u0 u1 wi day ((k + 1))) (out_hl c T lo hi n a b u v m p q pl ph dl dh u0 u1 wi day k) = (let z8 := (IntKind.wrap IntKind.u64 (↑n : Int)); let z0 := (ofL ((1 : Int) * (2 : Int) ^ Int.toNat z8 - (1 : Int)) n); let z17 := (IntKind.wrap IntKind.u64 (↑k : Int)); let z1 := (ofL ((1 : Int) * (2 : Int) ^ Int.toNat z8 - (1 : Int) - (1 : Int) * (2 : Int) ^ Int.toNat z17) n); let z2 := hgL c T lo hi n a b u v m p q pl ph dl dh u0 u1 wi day; let z3 := (hgR c T lo hi n a b u v m p q pl ph dl dh u0 u1 wi day); let z4 := (egL c T lo hi n a b u v m p q pl ph dl dh u0 u1 wi day); let z5 := (AV.agg [iI c, iI T, iI lo, iI hi, AV.lst 4 n fun k => [iI (a k), iI (b k), iI (u k), iI (v k)], AV.lst 2 m fun k => [iI (p k), iI (q k)], iI pl, iI ph, iI dl, iI dh]); let z6 := (hgE c T lo hi n a b u v m p q pl ph dl dh u0 u1 wi day); let z10 := (lhN c T lo hi n a b u v m p q pl ph dl dh); let z9 := fwB c T lo hi n a b u v; let z7 := (AV.lst 2 z10 fun k => [iI (-z9 k 0), iI (z9 0 k)]); let z11 := (AV.lst 4 n fun k => [iI (a k), iI (b k), iI (u k), iI (v k)]); let z12 := (asE c T lo hi n a b u v m p q pl ph dl dh u0 u1 wi day); let z13 := (AV.lst 1 (List.length z3) fun j => [iI (nthJ z3 j)]); let z14 := (AV.lst 1 (List.length z4) fun j => [iI (nthJ z4 j)]); let z15 := (AV.lst 1 (List.length z0) fun j => [iI (nthJ z0 j)]); let z16 := (AV.lst 2 m fun k => [iI (p k), iI (q k)]); let z18 := (AV.agg [iI u0, iI u1, iI wi]); (Tree.branch (decide ((↑k : Int) < (↑n : Int))) (Tree.need [(0 : Int) ≤ IntKind.wrap IntKind.u64 (↑k : Int) ∧ IntKind.wrap IntKind.u64 (↑k : Int) ≤ (64 : Int), inI64 ((1 : Int) * (2 : Int) ^ Int.toNat z17)] (Tree.need [inI64 ((1 : Int) * (2 : Int) ^ Int.toNat z8 - (1 : Int) - (1 : Int) * (2 : Int) ^ Int.toNat z17)] (Tree.need [isRec 4 n fun k => [Bo.i (a k), Bo.i (b k), Bo.i (u k), Bo.i (v k)], n ≤ 64] (Tree.need [isRec 4 n fun k => [Bo.i (a k), Bo.i (b k), Bo.i (u k), Bo.i (v k)], isRec 2 m fun k => [Pt.i (p k), Pt.i (q k)], isRec 1 (List.length z1) fun j => [i (nthJ z1 j)], List.length z1 ≤ 100000, n ≤ 100000, usB c u0 u1 wi = true, (0 : Int) ≤ day ∧ day ≤ (100000 : Int)] (Tree.branch (!kpS c T lo hi n a b u v m p q pl ph dl dh u0 u1 wi day (soL (List.length z1) (nthJ z1) false n)) (Tree.need [(List.length (z2 k) + 1) * 8 ≤ 140737488355328, ∀ (i : Nat), i < 1 → ∀ (a : AV), a ∈ chunk 1 [iI (↑k : Int)] i → AV.one a = true] (Tree.need [inI64 ((↑k : Int) + (1 : Int))] (Tree.need [Eq1 z5, Eq1 z18, day = day, Eq1 (AV.ptr 0 0), Eq1 (AV.ptr 1 0), Eq1 (AV.lit false), z13 = AV.lst 1 (List.length z3) fun j => [iI (nthJ z3 j)], Eq1 z6, z14 = AV.lst 1 (List.length z4) fun j => [iI (nthJ z4 j)], Eq1 z6, z7 = AV.lst 2 z10 fun k => [iI (-z9 k 0), iI (z9 0 k)], Eq1 z12, Eq1 ((1 : Int) * (2 : Int) ^ Int.toNat z8 - (1 : Int)), z15 = AV.lst 1 (List.length z0) fun j => [iI (nthJ z0 j)], Eq1 (AV.row 900), (↑k : Int) + (1 : Int) = (↑(k + 1) : Int), List.length (z2 k) + 1 = List.length (z2 (k + 1)), ∀ (i : Nat), i < List.length (z2 (k + 1)) → catF (List.length (z2 k)) (fun j => [iI (nthJ (z2 k) j)]) (chunk 1 [iI (↑k : Int)]) i = [iI (nthJ (z2 (k + 1)) i)], u0 = u0, u1 = u1, wi = wi, c = c, T = T, lo = lo, hi = hi, z11 = AV.lst 4 n fun k => [iI (a k), iI (b k), iI (u k), iI (v k)], z16 = AV.lst 2 m fun k => [iI (p k), iI (q k)], pl = pl, ph = ph, dl = dl, dh = dh] (Tree.leaf AEx.normal)))) (Tree.need [inI64 ((↑k : Int) + (1 : Int))] (Tree.need [Eq1 z5, Eq1 z18, day = day, Eq1 (AV.ptr 0 0), Eq1 (AV.ptr 1 0), Eq1 (AV.lit false), z13 = AV.lst 1 (List.length z3) fun j => [iI (nthJ z3 j)], Eq1 z6, z14 = AV.lst 1 (List.length z4) fun j => [iI (nthJ z4 j)], Eq1 z6, z7 = AV.lst 2 z10 fun k => [iI (-z9 k 0), iI (z9 0 k)], Eq1 z12, Eq1 ((1 : Int) * (2 : Int) ^ Int.toNat z8 - (1 : Int)), z15 = AV.lst 1 (List.length z0) fun j => [iI (nthJ z0 j)], Eq1 (AV.row 900), (↑k : Int) + (1 : Int) = (↑(k + 1) : Int), List.length (z2 k) = List.length (z2 (k + 1)), ∀ (i : Nat), i < List.length (z2 (k + 1)) → [iI (nthJ (z2 k) i)] = [iI (nthJ (z2 (k + 1)) i)], u0 = u0, u1 = u1, wi = wi, c = c, T = T, lo = lo, hi = hi, z11 = AV.lst 4 n fun k => [iI (a k), iI (b k), iI (u k), iI (v k)], z16 = AV.lst 2 m fun k => [iI (p k), iI (q k)], pl = pl, ph = ph, dl = dl, dh = dh] (Tree.leaf AEx.normal)))))))) (Tree.need [Eq1 z5, Eq1 z18, day = day, Eq1 (AV.ptr 0 0), Eq1 (AV.ptr 1 0), Eq1 (AV.lit false), z13 = AV.lst 1 (List.length z3) fun j => [iI (nthJ z3 j)], Eq1 z6, z14 = AV.lst 1 (List.length z4) fun j => [iI (nthJ z4 j)], Eq1 z6, z7 = AV.lst 2 z10 fun k => [iI (-z9 k 0), iI (z9 0 k)], Eq1 z12, Eq1 ((1 : Int) * (2 : Int) ^ Int.toNat z8 - (1 : Int)), z15 = AV.lst 1 (List.length z0) fun j => [iI (nthJ z0 j)], Eq1 (AV.row 900), List.length (z2 k) = List.length (z2 n), ∀ (i : Nat), i < List.length (z2 n) → [iI (nthJ (z2 k) i)] = [iI (nthJ (z2 n) i)], u0 = u0, u1 = u1, wi = wi, c = c, T = T, lo = lo, hi = hi, z11 = AV.lst 4 n fun k => [iI (a k), iI (b k), iI (u k), iI (v k)], z16 = AV.lst 2 m fun k => [iI (p k), iI (q k)], pl = pl, ph = ph, dl = dl, dh = dh] (Tree.leaf (AEx.exit 0))))) := by kernel_rfl
  rw [e]
  simp only [T_hl, out_hl, Tree.sat, Option.getD_some] at hQ
  have hn := (rdE_0 pre0).1
  have hwn : IntKind.u64.wrap (n : Int) = n := u64w (by omega)
  have hwk : IntKind.u64.wrap (k : Int) = k := u64w (by omega)
  have hg : hgL c T lo hi n a b u v m p q pl ph dl dh u0 u1 wi day (k + 1) = if enB c T lo hi n a b u v m p q pl ph dl dh u0 u1 wi day (buI n k) then hgL c T lo hi n a b u v m p q pl ph dl dh u0 u1 wi day k else hgL c T lo hi n a b u v m p q pl ph dl dh u0 u1 wi day k ++ [(k : Int)] := rfl
  have hl := hgL_len c T lo hi n a b u v m p q pl ph dl dh u0 u1 wi day k
  have hc1 : ∀ x : Int, ∀ (j : Nat), j < 1 → ∀ y, y ∈ chunk 1 [iI x] j → AV.one y = true := fun x j _ y hy => one_of hy (by simp [AV.one, Value.oneCell'])
  simp only [Tree.sat, allP, fitP, fitL, valEq, true_and, and_true, decide_eq_true_eq, decide_eq_false_iff_not, bne_iff_ne, ne_eq, bne_eq_false_iff_eq, beq_iff_eq, beq_eq_false_iff_ne, Bool.not_eq_true', Bool.not_eq_false', not_true_eq_false, false_imp_iff, true_imp_iff, hwn, hwk, Int.toNat_natCast]
  clear e
  refine ⟨fun h => ?_, fun h => ?_⟩
  ·obtain ⟨e1, e2, e3⟩ := bu_nat hn (show k < n by omega)
   have he := en_of (c := c) (T := T) (lo := lo) (hi := hi) (n := n) (a := a) (b := b) (u := u) (v := v) (m := m) (p := p) (q := q) (pl := pl) (ph := ph) (dl := dl) (dh := dh) (u0 := u0) (u1 := u1) (wi := wi) (day := day) e3
   have hp := pow12 (k := k) (by omega)
   have hol := ofL_len ((2 ^ n - 1 - 2 ^ k : Nat) : Int) n
   rw [e1, he] at hg
   rw [e2]
   have hs := soL_of (j := 2 ^ n - 1 - 2 ^ k) (n := n)
   generalize 2 ^ n - 1 - 2 ^ k = J at *
   rw [hs]
   generalize kpS c T lo hi n a b u v m p q pl ph dl dh u0 u1 wi day (ofL (J : Int) n) = B at *
   generalize hgL c T lo hi n a b u v m p q pl ph dl dh u0 u1 wi day (k + 1) = H' at hg ⊢
   generalize hHk : hgL c T lo hi n a b u v m p q pl ph dl dh u0 u1 wi day k = H at hl hg ⊢
   simp only [inI64]
   refine ⟨by omega, by omega, ⟨Bo.isRec4 n a b u v, by omega⟩, ⟨Bo.isRec4 n a b u v, Pt.isRec2 m p q, isRec1 _ _, by omega, by omega, pre1, by omega⟩, fun h2 => ?_, fun h2 => ?_⟩
   ·rw [if_neg (by rw [h2]; simp)] at hg
    rw [hg, List.length_append]
    (repeat' first | with_reducible apply And.intro | with_reducible intro _)
    all_goals first | exact True.intro | omega | with_reducible rfl | exact hc1 _ _ (by assumption) _ (by assumption) | exact catJ1 (by assumption) | assumption | rfl
   ·rw [if_pos h2] at hg
    rw [hg]
    (repeat' first | with_reducible apply And.intro | with_reducible intro _)
    all_goals first | exact True.intro | omega | with_reducible rfl | exact hc1 _ _ (by assumption) _ (by assumption) | exact catJ1 (by assumption) | assumption | rfl
  ·obtain rfl : k = n := by omega
   (repeat' first | with_reducible apply And.intro | with_reducible intro _)
   all_goals first | exact True.intro | omega | with_reducible rfl | (rename_i E hE; cases hE; exact hQ) | assumption | rfl
def kpP (c T lo hi : Int) (n : Nat) (a b u v : Nat → Int) (m : Nat) (p q : Nat → Int) (pl ph dl dh : Int) (u0 u1 wi day : Int) (S : List Int) : Bool := kpS c T lo hi n a b u v m p q pl ph dl dh u0 u1 wi day (soL S.length (nthJ S) false n)
theorem tol_list (l : List Int) : tol l.length (nthJ l) = l := by
 apply List.ext_getElem (tol_len _ _)
 intro j h1 h2
 have h3 := tol_get (n := l.length) (k := j) (f := nthJ l) h2
 rw [nthJ_get h1, nthJ_get h2] at h3
 exact h3
theorem fwL_len (p : List Int → Bool) (n : Nat) : ∀ k, (fwL p n k).length ≤ n
 | 0 => ofL_len _ n
 | k + 1 => by
  show (if lessL (ofL k n) (fwL p n k) && p (ofL k n) then ofL k n else fwL p n k).length ≤ n
  split
  ·exact ofL_len _ n
  ·exact fwL_len p n k
noncomputable def E_be (c T lo hi : Int) (n : Nat) (a b u v : Nat → Int) (m : Nat) (p q : Nat → Int) (pl ph dl dh : Int) (u0 u1 wi day : Int) : St := (some { σ := [AV.agg [iI c, iI T, iI lo, iI hi, AV.lst 4 n fun k => [iI (a k), iI (b k), iI (u k), iI (v k)], AV.lst 2 m fun k => [iI (p k), iI (q k)], iI pl, iI ph, iI dl, iI dh], AV.agg [iI u0, iI u1, iI wi], iI day, AV.ptr 0 0, AV.ptr 1 0, AV.top, AV.lit false, AV.lst 1 (List.length (hgR c T lo hi n a b u v m p q pl ph dl dh u0 u1 wi day)) fun j => [iI (nthJ (hgR c T lo hi n a b u v m p q pl ph dl dh u0 u1 wi day) j)], iI (hgE c T lo hi n a b u v m p q pl ph dl dh u0 u1 wi day), AV.lst 1 (List.length (egL c T lo hi n a b u v m p q pl ph dl dh u0 u1 wi day)) fun j => [iI (nthJ (egL c T lo hi n a b u v m p q pl ph dl dh u0 u1 wi day) j)], iI (hgE c T lo hi n a b u v m p q pl ph dl dh u0 u1 wi day), AV.lst 2 (lhN c T lo hi n a b u v m p q pl ph dl dh) fun k => [iI (-fwB c T lo hi n a b u v k 0), iI (fwB c T lo hi n a b u v 0 k)], iI (asE c T lo hi n a b u v m p q pl ph dl dh u0 u1 wi day), iI ((1 : Int) * (2 : Int) ^ Int.toNat (IntKind.wrap IntKind.u64 (↑n : Int)) - (1 : Int)), AV.top, AV.row 900] ++ tpL 147 [], m := [(900, Res.row 3 1 (List.length (hgL c T lo hi n a b u v m p q pl ph dl dh u0 u1 wi day n)) fun j => [iI (nthJ (hgL c T lo hi n a b u v m p q pl ph dl dh u0 u1 wi day n) j)]), (1, Res.cells 62 [iI u0, iI u1, iI wi]), (0, Res.cells 31 [iI c, iI T, iI lo, iI hi, AV.lst 4 n fun k => [iI (a k), iI (b k), iI (u k), iI (v k)], AV.lst 2 m fun k => [iI (p k), iI (q k)], iI pl, iI ph, iI dl, iI dh])], nx := 902 } : Option St).getD { σ := [], m := [], nx := 0 }
noncomputable def B_be : Code := loopBody (loopAt (bodyOf Tryz.f15) 1)
noncomputable def inv_be (c T lo hi : Int) (n : Nat) (a b u v : Nat → Int) (m : Nat) (p q : Nat → Int) (pl ph dl dh : Int) (u0 u1 wi day : Int) (k : Nat) : St := { σ := ovrS [(14, .lst 1 (fwL (kpP c T lo hi n a b u v m p q pl ph dl dh u0 u1 wi day) n k).length (fun j => [i (nthJ (fwL (kpP c T lo hi n a b u v m p q pl ph dl dh u0 u1 wi day) n k) j)])), (17, i k)] (E_be c T lo hi n a b u v m p q pl ph dl dh u0 u1 wi day).σ, m := (E_be c T lo hi n a b u v m p q pl ph dl dh u0 u1 wi day).m, nx := (E_be c T lo hi n a b u v m p q pl ph dl dh u0 u1 wi day).nx }
noncomputable def out_be (c T lo hi : Int) (n : Nat) (a b u v : Nat → Int) (m : Nat) (p q : Nat → Int) (pl ph dl dh : Int) (u0 u1 wi day : Int) (k : Nat) : AEx → Option St := fun ex => match ex with
 | .exit 2 => some { σ := ovrS [(14, .lst 1 (fwL (kpP c T lo hi n a b u v m p q pl ph dl dh u0 u1 wi day) n (2 ^ n)).length (fun j => [i (nthJ (fwL (kpP c T lo hi n a b u v m p q pl ph dl dh u0 u1 wi day) n (2 ^ n)) j)]))] (E_be c T lo hi n a b u v m p q pl ph dl dh u0 u1 wi day).σ, m := (E_be c T lo hi n a b u v m p q pl ph dl dh u0 u1 wi day).m, nx := (E_be c T lo hi n a b u v m p q pl ph dl dh u0 u1 wi day).nx }
 | _ => none
noncomputable def T_be (c T lo hi : Int) (n : Nat) (a b u v : Nat → Int) (m : Nat) (p q : Nat → Int) (pl ph dl dh : Int) (u0 u1 wi day : Int) : CT := .leaf (.exit 2, ( out_be c T lo hi n a b u v m p q pl ph dl dh u0 u1 wi day 0 (.exit 2)).getD (E_be c T lo hi n a b u v m p q pl ph dl dh u0 u1 wi day))
noncomputable def LS_be (c T lo hi : Int) (n : Nat) (a b u v : Nat → Int) (m : Nat) (p q : Nat → Int) (pl ph dl dh : Int) (u0 u1 wi day : Int) : LSpec := normSp [] (sumL (inv_be c T lo hi n a b u v m p q pl ph dl dh u0 u1 wi day (0)) (T_be c T lo hi n a b u v m p q pl ph dl dh u0 u1 wi day))
theorem be_ls (c T lo hi : Int) (n : Nat) (a b u v : Nat → Int) (m : Nat) (p q : Nat → Int) (pl ph dl dh : Int) (u0 u1 wi day : Int) (pre0 : rdE c T lo hi n a b u v m p q pl ph dl dh = 0) (pre1 : usB c u0 u1 wi = true) (pre2 : 0 ≤ day ∧ day ≤ 10000) (pre3 : keB c (wkA c T lo hi n a b u v m p q pl ph dl dh) u0 u1 wi day = true) : LSound Tryz.prog (.loop B_be) (LS_be c T lo hi n a b u v m p q pl ph dl dh u0 u1 wi day) := by
 refine loop_roundsX [] (E := { R := [(44, S_lasked)], H := [], C := [(20, C_Instrument)] }) (G := [(17, S_Thin), (47, S_rFault), (18, S_wakes), (36, S_Use), (54, S_Hangs), (55, S_Enough), (45, S_rKept), (56, S_rOf), (58, S_rLess), (57, S_lkept), (59, S_lints)]) (L := []) (SoundG.cons Thin_ok (SoundG.cons rFault_ok (SoundG.cons wakes_ok (SoundG.cons Use_ok (SoundG.cons Hangs_ok (SoundG.cons Enough_ok (SoundG.cons rKept_ok (SoundG.cons rOf_ok (SoundG.cons rLess_ok (SoundG.cons lkept_ok (SoundG.cons lints_ok (SoundG.nil _)))))))))))) (SoundX.ofC (SoundRL.cons lasked_okR (SoundRL.nil _)) (SoundHL.nil _) (SoundCL.cons Instrument_okC (SoundCL.nil _))) mixed noLoops (X := Nat) (inv_be c T lo hi n a b u v m p q pl ph dl dh u0 u1 wi day) (fun k => k ≤ 2 ^ n) (fun k => 2 ^ n - k) (out_be c T lo hi n a b u v m p q pl ph dl dh u0 u1 wi day) (x0 := 0) (by simp) ?_ ?_ ?_
 ·rintro k
  kernel_rfl
 ·rintro k y E h
  unfold out_be at h
  split at h
  ·cases h; kernel_rfl
  ·cases h
 ·rintro Q hQ k hx
  refine ⟨(k + 1), ?_⟩
  have e : roundX Tryz.prog [(17, S_Thin), (47, S_rFault), (18, S_wakes), (36, S_Use), (54, S_Hangs), (55, S_Enough), (45, S_rKept), (56, S_rOf), (58, S_rLess), (57, S_lkept), (59, S_lints)] { R := [(44, S_lasked)], H := [], C := [(20, C_Instrument)] } [] [] B_be (inv_be c T lo hi n a b u v m p q pl ph dl dh u0 u1 wi day k) (inv_be c T lo hi n a b u v m p q pl ph dl dh u0 u1 wi day ((k + 1))) (out_be c T lo hi n a b u v m p q pl ph dl dh u0 u1 wi day k) = (let z5 := (AV.agg [iI c, iI T, iI lo, iI hi, AV.lst 4 n fun k => [iI (a k), iI (b k), iI (u k), iI (v k)], AV.lst 2 m fun k => [iI (p k), iI (q k)], iI pl, iI ph, iI dl, iI dh]); let z18 := (AV.agg [iI u0, iI u1, iI wi]); let z3 := (hgR c T lo hi n a b u v m p q pl ph dl dh u0 u1 wi day); let z14 := (AV.lst 1 (List.length z3) fun j => [iI (nthJ z3 j)]); let z6 := (hgE c T lo hi n a b u v m p q pl ph dl dh u0 u1 wi day); let z4 := (egL c T lo hi n a b u v m p q pl ph dl dh u0 u1 wi day); let z15 := (AV.lst 1 (List.length z4) fun j => [iI (nthJ z4 j)]); let z10 := (lhN c T lo hi n a b u v m p q pl ph dl dh); let z8 := fwB c T lo hi n a b u v; let z7 := (AV.lst 2 z10 fun k => [iI (-z8 k 0), iI (z8 0 k)]); let z13 := (asE c T lo hi n a b u v m p q pl ph dl dh u0 u1 wi day); let z12 := (IntKind.wrap IntKind.u64 (↑n : Int)); let z1 := (kpP c T lo hi n a b u v m p q pl ph dl dh u0 u1 wi day); let z19 := (List.length (fwL z1 n k)); let z17 := (AV.lst 1 z19 fun j => [iI (nthJ (fwL z1 n k) j)]); let z2 := (hgL c T lo hi n a b u v m p q pl ph dl dh u0 u1 wi day n); let z11 := (AV.lst 4 n fun k => [iI (a k), iI (b k), iI (u k), iI (v k)]); let z16 := (AV.lst 2 m fun k => [iI (p k), iI (q k)]); let z0 := (Tree.need [inI64 ((↑k : Int) + (1 : Int))] (Tree.need [Eq1 z5, Eq1 z18, day = day, Eq1 (AV.ptr 0 0), Eq1 (AV.ptr 1 0), Eq1 (AV.lit false), z14 = AV.lst 1 (List.length z3) fun j => [iI (nthJ z3 j)], Eq1 z6, z15 = AV.lst 1 (List.length z4) fun j => [iI (nthJ z4 j)], Eq1 z6, z7 = AV.lst 2 z10 fun k => [iI (-z8 k 0), iI (z8 0 k)], Eq1 z13, Eq1 ((1 : Int) * (2 : Int) ^ Int.toNat z12 - (1 : Int)), z17 = AV.lst 1 (List.length (fwL z1 n (k + 1))) fun j => [iI (nthJ (fwL z1 n (k + 1)) j)], Eq1 (AV.row 900), (↑k : Int) + (1 : Int) = (↑(k + 1) : Int), Eq1 (List.length z2), ∀ (i : Nat), i < List.length z2 → [iI (nthJ z2 i)] = [iI (nthJ z2 i)], u0 = u0, u1 = u1, wi = wi, c = c, T = T, lo = lo, hi = hi, z11 = AV.lst 4 n fun k => [iI (a k), iI (b k), iI (u k), iI (v k)], z16 = AV.lst 2 m fun k => [iI (p k), iI (q k)], pl = pl, ph = ph, dl = dl, dh = dh] (Tree.leaf AEx.normal))); let z9 := (List.length (ofL (↑k : Int) n)); (Tree.branch (decide ((↑k : Int) ≤ (1 : Int) * (2 : Int) ^ Int.toNat z12 - (1 : Int))) (Tree.need [isRec 4 n fun k => [iI (a k), iI (b k), iI (u k), iI (v k)], n ≤ 64] (Tree.need [isRec 1 z9 fun j => [i (nthJ (ofL (↑k : Int) n) j)], isRec 1 z19 fun j => [i (nthJ (fwL z1 n k) j)], List.length (ofL (↑k : Int) n) ≤ 100000] (Tree.branch (lessL (tol z9 (nthJ (ofL (↑k : Int) n))) (tol z19 (nthJ (fwL z1 n k)))) (Tree.need [isRec 4 n fun k => [iI (a k), iI (b k), iI (u k), iI (v k)], isRec 2 m fun k => [iI (p k), iI (q k)], isRec 1 z9 fun j => [i (nthJ (ofL (↑k : Int) n) j)], List.length (ofL (↑k : Int) n) ≤ 100000, n ≤ 100000, usB c u0 u1 wi = true, (0 : Int) ≤ day ∧ day ≤ (100000 : Int)] (Tree.branch (kpS c T lo hi n a b u v m p q pl ph dl dh u0 u1 wi day (soL z9 (nthJ (ofL (↑k : Int) n)) false n)) (Tree.need [inI64 ((↑k : Int) + (1 : Int))] (Tree.need [Eq1 z5, Eq1 z18, day = day, Eq1 (AV.ptr 0 0), Eq1 (AV.ptr 1 0), Eq1 (AV.lit false), z14 = AV.lst 1 (List.length z3) fun j => [iI (nthJ z3 j)], Eq1 z6, z15 = AV.lst 1 (List.length z4) fun j => [iI (nthJ z4 j)], Eq1 z6, z7 = AV.lst 2 z10 fun k => [iI (-z8 k 0), iI (z8 0 k)], Eq1 z13, Eq1 ((1 : Int) * (2 : Int) ^ Int.toNat z12 - (1 : Int)), (AV.lst 1 z9 fun j => [iI (nthJ (ofL (↑k : Int) n) j)]) = AV.lst 1 (List.length (fwL z1 n (k + 1))) fun j => [iI (nthJ (fwL z1 n (k + 1)) j)], Eq1 (AV.row 900), (↑k : Int) + (1 : Int) = (↑(k + 1) : Int), Eq1 (List.length z2), ∀ (i : Nat), i < List.length z2 → [iI (nthJ z2 i)] = [iI (nthJ z2 i)], u0 = u0, u1 = u1, wi = wi, c = c, T = T, lo = lo, hi = hi, z11 = AV.lst 4 n fun k => [iI (a k), iI (b k), iI (u k), iI (v k)], z16 = AV.lst 2 m fun k => [iI (p k), iI (q k)], pl = pl, ph = ph, dl = dl, dh = dh] (Tree.leaf AEx.normal))) z0)) z0))) (Tree.need [Eq1 z5, Eq1 z18, day = day, Eq1 (AV.ptr 0 0), Eq1 (AV.ptr 1 0), Eq1 (AV.lit false), z14 = AV.lst 1 (List.length z3) fun j => [iI (nthJ z3 j)], Eq1 z6, z15 = AV.lst 1 (List.length z4) fun j => [iI (nthJ z4 j)], Eq1 z6, z7 = AV.lst 2 z10 fun k => [iI (-z8 k 0), iI (z8 0 k)], Eq1 z13, Eq1 ((1 : Int) * (2 : Int) ^ Int.toNat z12 - (1 : Int)), z17 = AV.lst 1 (List.length (fwL z1 n (2 ^ n))) fun j => [iI (nthJ (fwL z1 n (2 ^ n)) j)], Eq1 (AV.row 900), Eq1 (List.length z2), ∀ (i : Nat), i < List.length z2 → [iI (nthJ z2 i)] = [iI (nthJ z2 i)], u0 = u0, u1 = u1, wi = wi, c = c, T = T, lo = lo, hi = hi, z11 = AV.lst 4 n fun k => [iI (a k), iI (b k), iI (u k), iI (v k)], z16 = AV.lst 2 m fun k => [iI (p k), iI (q k)], pl = pl, ph = ph, dl = dl, dh = dh] (Tree.leaf (AEx.exit 2))))) := by kernel_rfl
  rw [e]
  simp only [T_be, out_be, Tree.sat, Option.getD_some] at hQ
  have hn := (rdE_0 pre0).1
  have hwn : IntKind.u64.wrap (n : Int) = n := u64w (by omega)
  simp only [Tree.sat, allP, fitP, fitL, valEq, true_and, and_true, decide_eq_true_eq, decide_eq_false_iff_not, bne_iff_ne, ne_eq, bne_eq_false_iff_eq, beq_iff_eq, beq_eq_false_iff_ne, Bool.not_eq_true', Bool.not_eq_false', not_true_eq_false, false_imp_iff, true_imp_iff, hwn, Int.toNat_natCast]
  clear e
  have hp2 := pow_le hn
  have hp1 : 0 < 2 ^ n := Nat.two_pow_pos n
  have hp : (2 : Int) ^ n = ((2 ^ n : Nat) : Int) := by simp
  have hl1 := ofL_len (k : Int) n
  have hs : fwL (kpP c T lo hi n a b u v m p q pl ph dl dh u0 u1 wi day) n (k + 1) = if lessL (ofL k n) (fwL (kpP c T lo hi n a b u v m p q pl ph dl dh u0 u1 wi day) n k) && kpP c T lo hi n a b u v m p q pl ph dl dh u0 u1 wi day (ofL k n) then ofL k n else fwL (kpP c T lo hi n a b u v m p q pl ph dl dh u0 u1 wi day) n k := rfl
  have hP : kpP c T lo hi n a b u v m p q pl ph dl dh u0 u1 wi day (ofL k n) = kpS c T lo hi n a b u v m p q pl ph dl dh u0 u1 wi day (soL (ofL k n).length (nthJ (ofL k n)) false n) := rfl
  simp only [hp, Int.one_mul, tol_list, inI64]
  refine ⟨fun h => ⟨⟨Bo.isRec4 _ _ _ _ _, by omega⟩, ⟨isRec1 _ _, isRec1 _ _, by omega⟩, fun h2 => ⟨⟨Bo.isRec4 _ _ _ _ _, Pt.isRec2 _ _ _, isRec1 _ _, by omega, by omega, pre1, by omega⟩, fun h3 => ?_, fun h3 => ?_⟩, fun h2 => ?_⟩, fun h => ?_⟩
  ·rw [if_pos (by rw [h2, hP, h3]; rfl)] at hs
   rw [hs]
   (repeat' first | with_reducible apply And.intro | with_reducible intro _)
   all_goals first | exact True.intro | omega | with_reducible rfl | rfl
  ·rw [if_neg (by rw [h2, hP, h3]; simp)] at hs
   rw [hs]
   (repeat' first | with_reducible apply And.intro | with_reducible intro _)
   all_goals first | exact True.intro | omega | with_reducible rfl | rfl
  ·rw [if_neg (by rw [h2]; simp)] at hs
   rw [hs]
   (repeat' first | with_reducible apply And.intro | with_reducible intro _)
   all_goals first | exact True.intro | omega | with_reducible rfl | rfl
  ·obtain rfl : k = 2 ^ n := by omega
   (repeat' first | with_reducible apply And.intro | with_reducible intro _)
   all_goals first | exact True.intro | omega | with_reducible rfl | (rename_i E hE; cases hE; exact hQ) | rfl
theorem CertHangs_at (c T lo hi : Int) (n : Nat) (a b u v : Nat → Int) (m : Nat) (p q : Nat → Int) (pl ph dl dh : Int) (u0 u1 wi day : Int) : SoundAt Tryz.prog 15 [.agg [i c, i T, i lo, i hi, rds n a b u v, Pt.scs m p q, i pl, i ph, i dl, i dh], .agg [i u0, i u1, i wi], i day] (bl true) := by
 refine soundAt_finX (G := [(17, S_Thin), (47, S_rFault), (18, S_wakes), (36, S_Use), (54, S_Hangs), (55, S_Enough), (45, S_rKept), (56, S_rOf), (58, S_rLess), (57, S_lkept), (59, S_lints)]) (X := { R := [(44, S_lasked)], H := [], C := [(20, C_Instrument)] }) (L := [needSp [rdE c T lo hi n a b u v m p q pl ph dl dh = 0, usB c u0 u1 wi = true, 0 ≤ day ∧ day ≤ 10000, keB c (wkA c T lo hi n a b u v m p q pl ph dl dh) u0 u1 wi day = true] (LS_hl c T lo hi n a b u v m p q pl ph dl dh u0 u1 wi day), needSp [rdE c T lo hi n a b u v m p q pl ph dl dh = 0, usB c u0 u1 wi = true, 0 ≤ day ∧ day ≤ 10000, keB c (wkA c T lo hi n a b u v m p q pl ph dl dh) u0 u1 wi day = true] (LS_be c T lo hi n a b u v m p q pl ph dl dh u0 u1 wi day)]) (SoundG.cons Thin_ok (SoundG.cons rFault_ok (SoundG.cons wakes_ok (SoundG.cons Use_ok (SoundG.cons Hangs_ok (SoundG.cons Enough_ok (SoundG.cons rKept_ok (SoundG.cons rOf_ok (SoundG.cons rLess_ok (SoundG.cons lkept_ok (SoundG.cons lints_ok (SoundG.nil _)))))))))))) (SoundX.ofC (SoundRL.cons lasked_okR (SoundRL.nil _)) (SoundHL.nil _) (SoundCL.cons Instrument_okC (SoundCL.nil _))) mixed Tryz.func15 (show Tryz.f15.body = some (bodyOf Tryz.f15) by kernel_rfl) (two_loops (fun cj hcj => by
  have e : loopAt (bodyOf Tryz.f15) 0 = some (.loop B_hl) := by kernel_rfl
  rw [e] at hcj; cases hcj
  exact (needSp_sound (ps := [rdE c T lo hi n a b u v m p q pl ph dl dh = 0, usB c u0 u1 wi = true, 0 ≤ day ∧ day ≤ 10000, keB c (wkA c T lo hi n a b u v m p q pl ph dl dh) u0 u1 wi day = true]) (fun h => hl_ls c T lo hi n a b u v m p q pl ph dl dh u0 u1 wi day h.1 h.2.1 h.2.2.1 h.2.2.2)).N) (fun cj hcj => by
  have e : loopAt (bodyOf Tryz.f15) 1 = some (.loop B_be) := by kernel_rfl
  rw [e] at hcj; cases hcj
  exact (needSp_sound (ps := [rdE c T lo hi n a b u v m p q pl ph dl dh = 0, usB c u0 u1 wi = true, 0 ≤ day ∧ day ≤ 10000, keB c (wkA c T lo hi n a b u v m p q pl ph dl dh) u0 u1 wi day = true]) (fun h => be_ls c T lo hi n a b u v m p q pl ph dl dh u0 u1 wi day h.1 h.2.1 h.2.2.1 h.2.2.2)).N)) (t := (let z10 := asE c T lo hi n a b u v m p q pl ph dl dh u0 u1 wi day; let z19 := rdE c T lo hi n a b u v m p q pl ph dl dh; let z9 := fwB c T lo hi n a b u v; let z15 := (lhN c T lo hi n a b u v m p q pl ph dl dh); let z17 := (wkA c T lo hi n a b u v m p q pl ph dl dh); let z26 := keB c z17 u0 u1 wi day; let z6 := hgE c T lo hi n a b u v m p q pl ph dl dh u0 u1 wi day; let z3 := (hgR c T lo hi n a b u v m p q pl ph dl dh u0 u1 wi day); let z4 := (egL c T lo hi n a b u v m p q pl ph dl dh u0 u1 wi day); let z23 := (Tree.leaf (RV.x (Value.bool true))); let z11 := (Tree.leaf (RV.x (Value.bool false))); let z16 := (Tree.need [inI64 ((↑(List.length z3) : Int) + (↑(List.length z4) : Int))] (Tree.branch ((↑(List.length z3) : Int) + (↑(List.length z4) : Int) == (0 : Int)) z23 z11)); let z14 := (IntKind.wrap IntKind.u64 (↑n : Int)); let z8 := (AV.agg [iI c, iI T, iI lo, iI hi, AV.lst 4 n fun k => [iI (a k), iI (b k), iI (u k), iI (v k)], AV.lst 2 m fun k => [iI (p k), iI (q k)], iI pl, iI ph, iI dl, iI dh]); let z27 := (AV.agg [iI u0, iI u1, iI wi]); let z20 := (AV.lst 1 (List.length z3) fun j => [iI (nthJ z3 j)]); let z21 := (AV.lst 1 (List.length z4) fun j => [iI (nthJ z4 j)]); let z24 := (AV.lst 2 z15 fun k => [iI (-z9 k 0), iI (z9 0 k)]); let z5 := (ofL ((1 : Int) * (2 : Int) ^ Int.toNat z14 - (1 : Int)) n); let z22 := (AV.lst 1 (List.length z5) fun j => [iI (nthJ z5 j)]); let z12 := (hgL c T lo hi n a b u v m p q pl ph dl dh u0 u1 wi day 0); let z18 := (AV.lst 4 n fun k => [iI (a k), iI (b k), iI (u k), iI (v k)]); let z25 := (AV.lst 2 m fun k => [iI (p k), iI (q k)]); let z13 := (kpP c T lo hi n a b u v m p q pl ph dl dh u0 u1 wi day); let z7 := (hgL c T lo hi n a b u v m p q pl ph dl dh u0 u1 wi day n); let z1 := (Tree.need [z19 = (0 : Int), usB c u0 u1 wi = true, (0 : Int) ≤ day ∧ day ≤ (10000 : Int), z26 = true] (Tree.need [Eq1 z8, Eq1 z27, day = day, Eq1 (AV.ptr 0 0), Eq1 (AV.ptr 1 0), Eq1 (AV.lit false), z20 = AV.lst 1 (List.length z3) fun j => [iI (nthJ z3 j)], Eq1 (z6), z21 = AV.lst 1 (List.length z4) fun j => [iI (nthJ z4 j)], Eq1 (z6), z24 = AV.lst 2 z15 fun k => [iI (-z9 k 0), iI (z9 0 k)], Eq1 (z10), Eq1 ((1 : Int) * (2 : Int) ^ Int.toNat z14 - (1 : Int)), z22 = AV.lst 1 (List.length (fwL z13 n 0)) fun j => [iI (nthJ (fwL z13 n 0) j)], Eq1 (AV.row 900), (0 : Int) = (↑(0 : Nat) : Int), Eq1 (List.length z7), ∀ (i : Nat), i < List.length z7 → [iI (nthJ z7 i)] = [iI (nthJ z7 i)], u0 = u0, u1 = u1, wi = wi, c = c, T = T, lo = lo, hi = hi, z18 = AV.lst 4 n fun k => [iI (a k), iI (b k), iI (u k), iI (v k)], z25 = AV.lst 2 m fun k => [iI (p k), iI (q k)], pl = pl, ph = ph, dl = dl, dh = dh] (Tree.branch (z6 == (0 : Int)) (Tree.need [isRec 1 (List.length z3) fun j => [iI (nthJ z3 j)], isRec 1 (List.length z7) fun j => [iI (nthJ z7 j)], List.length z3 ≤ 100000] (Tree.branch (decide (List.length z3 = List.length z7) && allI (fun k => nthJ z3 k == nthJ z7 k) (List.length z3)) (Tree.branch (z6 == (0 : Int)) (Tree.need [isRec 1 (List.length z4) fun j => [iI (nthJ z4 j)], isRec 1 (List.length (fwL z13 n (2 ^ n))) fun j => [i (nthJ (fwL z13 n (2 ^ n)) j)], List.length z4 ≤ 100000] (Tree.branch (decide (List.length z4 = List.length (fwL z13 n (2 ^ n))) && allI (fun k => nthJ z4 k == nthJ (fwL z13 n (2 ^ n)) k) (List.length z4)) z23 z11)) z11) z11)) z11))); let z2 := (Tree.branch (z10 != (0 : Int)) (Tree.branch (z6 == z10) (Tree.branch (z6 == z10) z16 z11) z11) (Tree.need [(0 : Int) ≤ IntKind.wrap IntKind.u64 (↑n : Int) ∧ IntKind.wrap IntKind.u64 (↑n : Int) ≤ (64 : Int), inI64 ((1 : Int) * (2 : Int) ^ Int.toNat z14)] (Tree.need [inI64 ((1 : Int) * (2 : Int) ^ Int.toNat z14 - (1 : Int))] (Tree.need [isRec 4 n fun k => [Bo.i (a k), Bo.i (b k), Bo.i (u k), Bo.i (v k)], n ≤ 64] (Tree.need [z19 = (0 : Int), usB c u0 u1 wi = true, (0 : Int) ≤ day ∧ day ≤ (10000 : Int), z26 = true] (Tree.need [Eq1 z8, Eq1 z27, day = day, Eq1 (AV.ptr 0 0), Eq1 (AV.ptr 1 0), Eq1 (AV.lit false), z20 = AV.lst 1 (List.length z3) fun j => [iI (nthJ z3 j)], Eq1 (z6), z21 = AV.lst 1 (List.length z4) fun j => [iI (nthJ z4 j)], Eq1 (z6), z24 = AV.lst 2 z15 fun k => [iI (-z9 k 0), iI (z9 0 k)], Eq1 (z10), Eq1 ((1 : Int) * (2 : Int) ^ Int.toNat z14 - (1 : Int)), z22 = AV.lst 1 (List.length z5) fun j => [iI (nthJ z5 j)], Eq1 (AV.row 900), (0 : Int) = (↑(0 : Nat) : Int), 0 = List.length z12, ∀ (i : Nat), i < List.length z12 → [] = [iI (nthJ z12 i)], u0 = u0, u1 = u1, wi = wi, c = c, T = T, lo = lo, hi = hi, z18 = AV.lst 4 n fun k => [iI (a k), iI (b k), iI (u k), iI (v k)], z25 = AV.lst 2 m fun k => [iI (p k), iI (q k)], pl = pl, ph = ph, dl = dl, dh = dh] z1)))))); let z0 := (Tree.need [isRec 4 n fun k => [Bo.i (a k), Bo.i (b k), Bo.i (u k), Bo.i (v k)], isRec 2 m fun k => [Pt.i (p k), Pt.i (q k)], n ≤ 100000, m ≤ 100000] (Tree.need [isRec 4 n fun k => [Bo.i (a k), Bo.i (b k), Bo.i (u k), Bo.i (v k)], isRec 2 m fun k => [Pt.i (p k), Pt.i (q k)]] (Tree.need [isRec 4 n fun k => [Bo.i (a k), Bo.i (b k), Bo.i (u k), Bo.i (v k)], isRec 2 m fun k => [Pt.i (p k), Pt.i (q k)], n ≤ 100000, m ≤ 100000] (Tree.need [isRec 4 n fun k => [Bo.i (a k), Bo.i (b k), Bo.i (u k), Bo.i (v k)], isRec 2 m fun k => [Pt.i (p k), Pt.i (q k)]] (Tree.need [isRec 4 n fun k => [Bo.i (a k), Bo.i (b k), Bo.i (u k), Bo.i (v k)], isRec 2 m fun k => [Pt.i (p k), Pt.i (q k)]] (Tree.branch (z10 == (0 : Int)) (Tree.need [isRec 4 n fun k => [Bo.i (a k), Bo.i (b k), Bo.i (u k), Bo.i (v k)], isRec 2 m fun k => [Pt.i (p k), Pt.i (q k)], z19 = (0 : Int), (fun k => [i (-z9 k 0), i (z9 0 k)]) = fun k => [i (-z9 k 0), i (z9 0 k)], Eq1 z15, (0 : Int) ≤ day ∧ day ≤ (100000 : Int), usB c u0 u1 wi = true] (Tree.branch (!z26) (Tree.branch ((10 : Int) != (0 : Int)) (Tree.branch (z6 == (10 : Int)) (Tree.branch (z6 == (10 : Int)) z16 z11) z11) (Tree.need [(0 : Int) ≤ IntKind.wrap IntKind.u64 (↑n : Int) ∧ IntKind.wrap IntKind.u64 (↑n : Int) ≤ (64 : Int), inI64 ((1 : Int) * (2 : Int) ^ Int.toNat z14)] (Tree.need [inI64 ((1 : Int) * (2 : Int) ^ Int.toNat z14 - (1 : Int))] (Tree.need [isRec 4 n fun k => [Bo.i (a k), Bo.i (b k), Bo.i (u k), Bo.i (v k)], n ≤ 64] (Tree.need [z19 = (0 : Int), usB c u0 u1 wi = true, (0 : Int) ≤ day ∧ day ≤ (10000 : Int), z26 = true] (Tree.need [Eq1 z8, Eq1 z27, day = day, Eq1 (AV.ptr 0 0), Eq1 (AV.ptr 1 0), Eq1 (AV.lit false), z20 = AV.lst 1 (List.length z3) fun j => [iI (nthJ z3 j)], Eq1 (z6), z21 = AV.lst 1 (List.length z4) fun j => [iI (nthJ z4 j)], Eq1 (z6), z24 = AV.lst 2 z15 fun k => [iI (-z9 k 0), iI (z9 0 k)], (10 : Int) = z10, Eq1 ((1 : Int) * (2 : Int) ^ Int.toNat z14 - (1 : Int)), z22 = AV.lst 1 (List.length z5) fun j => [iI (nthJ z5 j)], Eq1 (AV.row 900), (0 : Int) = (↑(0 : Nat) : Int), 0 = List.length z12, ∀ (i : Nat), i < List.length z12 → [] = [iI (nthJ z12 i)], u0 = u0, u1 = u1, wi = wi, c = c, T = T, lo = lo, hi = hi, z18 = AV.lst 4 n fun k => [iI (a k), iI (b k), iI (u k), iI (v k)], z25 = AV.lst 2 m fun k => [iI (p k), iI (q k)], pl = pl, ph = ph, dl = dl, dh = dh] z1)))))) z2)) z2)))))); (Tree.need [isRec 4 n fun k => [Bo.i (a k), Bo.i (b k), Bo.i (u k), Bo.i (v k)], isRec 2 m fun k => [Pt.i (p k), Pt.i (q k)]] (Tree.branch (!(decide (n ≤ 15) && decide (m ≤ 11))) z23 (Tree.need [isRec 4 n fun k => [Bo.i (a k), Bo.i (b k), Bo.i (u k), Bo.i (v k)], isRec 2 m fun k => [Pt.i (p k), Pt.i (q k)]] (Tree.branch (ftE c T lo hi n a b u v m p q pl ph dl dh == (0 : Int)) (Tree.branch (decide ((↑n : Int) > (7 : Int))) z23 z0) z0)))))) (by kernel_rfl) ?_
 simp only [Tree.sat, allP, fitP, fitL, valEq, true_and, and_true, decide_eq_true_eq, decide_eq_false_iff_not, bne_iff_ne, ne_eq, bne_eq_false_iff_eq, beq_iff_eq, beq_eq_false_iff_ne, Bool.not_eq_true', Bool.not_eq_false', not_true_eq_false, false_imp_iff, true_imp_iff]
 refine ⟨⟨Bo.isRec4 n a b u v, Pt.isRec2 m p q⟩, fun _ => trivial, fun h => ?_⟩
 rw [Bool.and_eq_true, decide_eq_true_eq, decide_eq_true_eq] at h
 have hwn : IntKind.u64.wrap (n : Int) = n := u64w (by omega)
 have n1 : n ≤ 100000 := by omega
 have n2 : m ≤ 100000 := by omega
 have n3 : n ≤ 64 := by omega
 have z : ∀ l : List Int, allI (fun k => nthJ l k == nthJ l k) l.length = true := fun l => allI_iff.2 fun j _ => beq_self_eq_true _
 have f3 : hgE c T lo hi n a b u v m p q pl ph dl dh u0 u1 wi day ≠ 0 → (hgR c T lo hi n a b u v m p q pl ph dl dh u0 u1 wi day).length = 0 ∧ (egL c T lo hi n a b u v m p q pl ph dl dh u0 u1 wi day).length = 0 := fun h => by
  unfold hgR egL
  rw [if_neg h, if_neg h]
  exact ⟨rfl, rfl⟩
 simp only [hwn, Int.toNat_natCast, Int.one_mul]
 by_cases hA : asE c T lo hi n a b u v m p q pl ph dl dh u0 u1 wi day = 0
 ·obtain ⟨r1, r2, r3⟩ := asE_0 hA
  have r0 : 0 ≤ day ∧ day ≤ 100000 := by omega
  cases hK : keB c (wkA c T lo hi n a b u v m p q pl ph dl dh) u0 u1 wi day with
  | true =>
   have g0 : hgE c T lo hi n a b u v m p q pl ph dl dh u0 u1 wi day = 0 := hg_0.2 ⟨hA, hK⟩
   have g1 : hgR c T lo hi n a b u v m p q pl ph dl dh u0 u1 wi day = hgL c T lo hi n a b u v m p q pl ph dl dh u0 u1 wi day n := if_pos g0
   have hn := (rdE_0 r1).1
   have key : ∀ j : Int, enL c T lo hi n a b u v m p q pl ph dl dh u0 u1 wi day (ofL j n) = kpP c T lo hi n a b u v m p q pl ph dl dh u0 u1 wi day (ofL j n) := fun j => by
    rw [en_kp hn (ofL_ris _ n)]
    unfold kpP
    rw [soL_ris (ofL_ris _ n)]
   have hall : enL c T lo hi n a b u v m p q pl ph dl dh u0 u1 wi day (numsL 0 n) = true := by
    rw [en_kp hn (numsL_risn n), kp_all, r1, hK]
    rfl
   have g2 : egL c T lo hi n a b u v m p q pl ph dl dh u0 u1 wi day = fwL (kpP c T lo hi n a b u v m p q pl ph dl dh u0 u1 wi day) n (2 ^ n) := by
    have e1 : egL c T lo hi n a b u v m p q pl ph dl dh u0 u1 wi day = blR (enL c T lo hi n a b u v m p q pl ph dl dh u0 u1 wi day) n := if_pos g0
    rw [e1, ← fw_bl hall]
    exact fwL_congr key _
   have p0 : (0 : Int) < 2 ^ n := by
    have : 0 < 2 ^ n := Nat.two_pow_pos n
    have e : (2 : Int) ^ n = ((2 ^ n : Nat) : Int) := by simp
    rw [e]
    omega
   have p1 : (2 : Int) ^ n ≤ 4096 := by
    have := pow_le hn
    have e : (2 : Int) ^ n = ((2 ^ n : Nat) : Int) := by simp
    rw [e]
    omega
   have q1 := hgL_len c T lo hi n a b u v m p q pl ph dl dh u0 u1 wi day n
   have q2 := fwL_len (kpP c T lo hi n a b u v m p q pl ph dl dh u0 u1 wi day) n (2 ^ n)
   have s1 := rd_ft (c := c) (T := T) (lo := lo) (hi := hi) (n := n) (a := a) (b := b) (u := u) (v := v) (m := m) (p := p) (q := q) (pl := pl) (ph := ph) (dl := dl) (dh := dh)
   simp only [g0, g1, g2, hA, inI64]
   (repeat' first | with_reducible apply And.intro | with_reducible intro _)
   all_goals first | exact True.intro | exact Bo.isRec4 _ _ _ _ _ | exact Pt.isRec2 _ _ _ | exact isRec1 _ _ | assumption | omega | (exfalso; omega) | contradiction | with_reducible rfl | rfl | (exfalso; rename_i hz; simp only [z, Bool.and_true, decide_eq_false_iff_not, not_true_eq_false] at hz; done) | (exfalso; rename_i hj; exact absurd hj (Nat.not_lt_zero _)) | trace_state
  | false =>
   have g0 : hgE c T lo hi n a b u v m p q pl ph dl dh u0 u1 wi day = 10 := by
    unfold hgE
    rw [if_pos hA, hK]
    rfl
   have g1 := f3 (by rw [g0]; decide)
   simp only [g0, g1.1, g1.2, inI64]
   (repeat' first | with_reducible apply And.intro | with_reducible intro _)
   all_goals first | exact True.intro | exact Bo.isRec4 _ _ _ _ _ | exact Pt.isRec2 _ _ _ | exact isRec1 _ _ | assumption | omega | (exfalso; omega) | contradiction | trace_state
 ·have g0 : hgE c T lo hi n a b u v m p q pl ph dl dh u0 u1 wi day = asE c T lo hi n a b u v m p q pl ph dl dh u0 u1 wi day := if_neg hA
  have g1 := f3 (by rw [g0]; exact hA)
  simp only [g0, g1.1, g1.2, inI64]
  (repeat' first | with_reducible apply And.intro | with_reducible intro _)
  all_goals first | exact True.intro | exact Bo.isRec4 _ _ _ _ _ | exact Pt.isRec2 _ _ _ | exact isRec1 _ _ | assumption | omega | (exfalso; omega) | contradiction | trace_state
end Go.Proofs.YtlinbkmpkcmniaaGreat
namespace Go.Proofs.YtlinbkmpkcmniaaGreat
open Go Go.Sx Go.RowKit Bo Go.ChangeShapes Go.WideShapes Go.ChangeAt
theorem cellI {P : Program} {a : AV} (h : CellA P (.sc (.int .i64)) a) : ∃ n : Int, a = .x (.int .i64 n) ∧ inI64 n := by
 cases h with
 | sc k v hv =>
  obtain ⟨n, rfl, hn⟩ := hv
  exact ⟨n, rfl, wf_i64 hn⟩
theorem cellS {P : Program} {t e : TypeId} {ks : List SK} {a : AV} (h : CellA P (.sl t e ks) a) : ∃ (n : Nat) (f : Nat → List Value), a = .lst ks.length n (fun i => (f i).map .x) ∧ n ≤ maxLen ∧ ∀ i, i < n → AllSc ks (f i) := by
 cases h with
 | sl t e ks n f h1 h2 h3 => exact ⟨n, f, rfl, h1, h3⟩
end Go.Proofs.YtlinbkmpkcmniaaGreat
