/- Texts of this claim, put together: CeI, CeJ, CeK, CeL, CeM, CeN, CeO, CeQ, CeS, CeU, CeX, CeY, CfA, CfB, CfC, CfD, CfE, CfF -/
import Derived.Test.YtlinbkmpkcmniaaGreatMm
set_option linter.unusedSimpArgs false
set_option linter.unusedVariables false
set_option maxRecDepth 100000
namespace Go.Proofs.YtlinbkmpkcmniaaGreat
open Go Go.Sx Go.RowKit Bo
open Go.Sx.Tree (need branch leaf)
open Go.Sx.AV (lst ptr agg roI tup top)
def toE (c T lo hi : Int) (n : Nat) (a b u v : Nat → Int) (m : Nat) (p q : Nat → Int) (pl ph dl dh : Int) (sa sb mk day : Int) : Int := if rdE c T lo hi n a b u v m p q pl ph dl dh = 0 then (if Pt.scB sa sb then (if bt 0 mk c && bt 0 day 10000 then Pt.cvE 0 1000 sa sb (onL (wkA c T lo hi n a b u v m p q pl ph dl dh) mk.toNat day) (onH (wkA c T lo hi n a b u v m p q pl ph dl dh) mk.toNat day) else 2) else 1) else rdE c T lo hi n a b u v m p q pl ph dl dh
def toL (c T lo hi : Int) (n : Nat) (a b u v : Nat → Int) (m : Nat) (p q : Nat → Int) (pl ph dl dh : Int) (sa sb mk day : Int) : Int := if toE c T lo hi n a b u v m p q pl ph dl dh sa sb mk day = 0 then Pt.cvLo 0 1000 sa sb (onL (wkA c T lo hi n a b u v m p q pl ph dl dh) mk.toNat day) (onH (wkA c T lo hi n a b u v m p q pl ph dl dh) mk.toNat day) else 0
def toH (c T lo hi : Int) (n : Nat) (a b u v : Nat → Int) (m : Nat) (p q : Nat → Int) (pl ph dl dh : Int) (sa sb mk day : Int) : Int := if toE c T lo hi n a b u v m p q pl ph dl dh sa sb mk day = 0 then Pt.cvHi 0 1000 sa sb (onL (wkA c T lo hi n a b u v m p q pl ph dl dh) mk.toNat day) (onH (wkA c T lo hi n a b u v m p q pl ph dl dh) mk.toNat day) else 0
theorem Told_at (c T lo hi : Int) (n : Nat) (a b u v : Nat → Int) (m : Nat) (p q : Nat → Int) (pl ph dl dh : Int) (sa sb mk day : Int) : SoundAt Tryz.prog 19 [.agg [i c, i T, i lo, i hi, rds n a b u v, Pt.scs m p q, i pl, i ph, i dl, i dh], .agg [i sa, i sb], i mk, i day] (.tup [.agg [i (toL c T lo hi n a b u v m p q pl ph dl dh sa sb mk day), i (toH c T lo hi n a b u v m p q pl ph dl dh sa sb mk day)], i (toE c T lo hi n a b u v m p q pl ph dl dh sa sb mk day)]) := by
 refine soundAt_finX (G := [(65, Pt.S_CheckScale), (66, S_within), (67, S_on), (68, Pt.S_Convert)]) (X := { R := [], H := [], C := [(64, C_read)] }) (L := []) (SoundG.cons Pt.CheckScale_ok (SoundG.cons within_ok (SoundG.cons on_ok (SoundG.cons Pt.Convert_ok (SoundG.nil _))))) (SoundX.ofC (SoundRL.nil _) (SoundHL.nil _) (SoundCL.cons read_okC (SoundCL.nil _))) mixed Tryz.func19 (show Tryz.f19.body = some (bodyOf Tryz.f19) by kernel_rfl) noLoopsS (t := (let z0 := (Value.int IntKind.i64 (0 : Int)); let z1 := (wkA c T lo hi n a b u v m p q pl ph dl dh); let z2 := (leaf (RV.tup [RV.agg [RV.x z0, RV.x z0], RV.x (Value.int IntKind.i64 (2 : Int))])); let z3 := (leaf (RV.tup [RV.agg [RV.x z0, RV.x z0], RV.x (Value.int IntKind.i64 (1 : Int))])); let z4 := rdE c T lo hi n a b u v m p q pl ph dl dh; let z5 := (onL z1 (Int.toNat mk) day); let z6 := (onH z1 (Int.toNat mk) day); (need [isRec 4 n fun k => [Bo.i (a k), Bo.i (b k), Bo.i (u k), Bo.i (v k)], isRec 2 m fun k => [Pt.i (p k), Pt.i (q k)]] (branch (decide (z4 = (0 : Int))) (branch ((0 : Int) != (0 : Int)) (leaf (RV.tup [RV.agg [RV.x z0, RV.x z0], RV.x z0])) (branch ((if Pt.scB sa sb = true then (0 : Int) else (1 : Int)) != (0 : Int)) z3 (branch (!bt (0 : Int) mk c) z2 (branch (!bt (0 : Int) day (10000 : Int)) z2 (need [drB z1, bdB z1, (0 : Int) ≤ mk ∧ mk ≤ (10 : Int), (0 : Int) ≤ day ∧ day ≤ (100000 : Int)] (leaf (RV.tup [RV.agg [RV.x (Value.int IntKind.i64 (Pt.cvLo (0 : Int) (1000 : Int) sa sb z5 z6)), RV.x (Value.int IntKind.i64 (Pt.cvHi (0 : Int) (1000 : Int) sa sb z5 z6))], RV.x (Value.int IntKind.i64 (Pt.cvE (0 : Int) (1000 : Int) sa sb z5 z6))]))))))) (branch (z4 != (0 : Int)) (leaf (RV.tup [RV.agg [RV.x z0, RV.x z0], RV.x (Value.int IntKind.i64 (z4))])) (branch ((if Pt.scB sa sb = true then (0 : Int) else (1 : Int)) != (0 : Int)) z3 (branch (!bt (0 : Int) mk c) z2 (branch (!bt (0 : Int) day (10000 : Int)) z2 Tree.fail)))))))) (by kernel_rfl) ?_
 simp only [Tree.sat, allP, fitP, fitL, valEq, true_and, and_true, decide_eq_true_eq, decide_eq_false_iff_not, bne_iff_ne, ne_eq, bne_eq_false_iff_eq, beq_iff_eq, beq_eq_false_iff_ne, Bool.not_eq_true', Bool.not_eq_false', not_true_eq_false, false_imp_iff, true_imp_iff]
 have er : ¬ rdE c T lo hi n a b u v m p q pl ph dl dh = 0 → toE c T lo hi n a b u v m p q pl ph dl dh sa sb mk day = rdE c T lo hi n a b u v m p q pl ph dl dh := fun h => if_neg h
 have e1 : rdE c T lo hi n a b u v m p q pl ph dl dh = 0 → ¬ Pt.scB sa sb = true → toE c T lo hi n a b u v m p q pl ph dl dh sa sb mk day = 1 := fun h h' => by
  unfold toE
  rw [if_pos h, if_neg h']
 have e2 : rdE c T lo hi n a b u v m p q pl ph dl dh = 0 → Pt.scB sa sb = true → (bt 0 mk c = false ∨ bt 0 day 10000 = false) → toE c T lo hi n a b u v m p q pl ph dl dh sa sb mk day = 2 := fun h h' h'' => by
  unfold toE
  rw [if_pos h, if_pos h', if_neg (by rcases h'' with h'' | h'' <;> simp [h''])]
 have e0 : rdE c T lo hi n a b u v m p q pl ph dl dh = 0 → Pt.scB sa sb = true → bt 0 mk c = true → bt 0 day 10000 = true → toE c T lo hi n a b u v m p q pl ph dl dh sa sb mk day = Pt.cvE 0 1000 sa sb (onL (wkA c T lo hi n a b u v m p q pl ph dl dh) mk.toNat day) (onH (wkA c T lo hi n a b u v m p q pl ph dl dh) mk.toNat day) := fun h h' h1 h2 => by
  unfold toE
  rw [if_pos h, if_pos h', h1, h2]
  rfl
 have bad : ∀ k : Int, toE c T lo hi n a b u v m p q pl ph dl dh sa sb mk day = k → k ≠ 0 → (0 = toL c T lo hi n a b u v m p q pl ph dl dh sa sb mk day ∧ 0 = toH c T lo hi n a b u v m p q pl ph dl dh sa sb mk day) ∧ k = toE c T lo hi n a b u v m p q pl ph dl dh sa sb mk day := fun k h hk => ⟨⟨(if_neg (by rw [h]; exact hk)).symm, (if_neg (by rw [h]; exact hk)).symm⟩, h.symm⟩
 have sc : (if Pt.scB sa sb = true then (0 : Int) else 1) = 0 → Pt.scB sa sb = true := fun h => by
  split at h
  ·assumption
  ·cases h
 refine ⟨⟨Bo.isRec4 n a b u v, Pt.isRec2 m p q⟩, fun h => ⟨fun g => bad 1 (e1 h fun g' => g (by rw [if_pos g'])) (by decide), fun g => ⟨fun g' => bad 2 (e2 h (sc g) (.inl g')) (by decide), fun g' => ⟨fun g'' => bad 2 (e2 h (sc g) (.inr g'')) (by decide), fun g'' => ?_⟩⟩⟩, fun h => ⟨fun _ => bad _ (er h) h, fun h' => absurd h' h⟩⟩
 have hw := wk_ok h
 have b1 := (bt_iff _ _ _).1 g'
 have b2 := (bt_iff _ _ _).1 g''
 have e := e0 h (sc g) g' g''
 refine ⟨⟨hw.1, hw.2.1, by omega, by omega⟩, ?_, e.symm⟩
 by_cases hz : Pt.cvE 0 1000 sa sb (onL (wkA c T lo hi n a b u v m p q pl ph dl dh) mk.toNat day) (onH (wkA c T lo hi n a b u v m p q pl ph dl dh) mk.toNat day) = 0
 ·exact ⟨(if_pos (e.trans hz)).symm, (if_pos (e.trans hz)).symm⟩
 ·have hz' : ¬ toE c T lo hi n a b u v m p q pl ph dl dh sa sb mk day = 0 := by rw [e]; exact hz
  exact ⟨(if_neg hz).trans (if_neg hz').symm, (if_neg hz).trans (if_neg hz').symm⟩
def S_Told : Sx.Spec := fun l => match l with
 | [.agg [.x (.int .i64 c), .x (.int .i64 T), .x (.int .i64 lo), .x (.int .i64 hi), .lst 4 n fr, .lst 2 m ft, .x (.int .i64 pl), .x (.int .i64 ph), .x (.int .i64 dl), .x (.int .i64 dh)], .agg [.x (.int .i64 sa), .x (.int .i64 sb)], .x (.int .i64 mk), .x (.int .i64 day)] => some ([isRec 4 n fr, isRec 2 m ft], .tup [.agg [i (toL c T lo hi n (col 0 fr) (col 1 fr) (col 2 fr) (col 3 fr) m (Pt.col 0 ft) (Pt.col 1 ft) pl ph dl dh sa sb mk day), i (toH c T lo hi n (col 0 fr) (col 1 fr) (col 2 fr) (col 3 fr) m (Pt.col 0 ft) (Pt.col 1 ft) pl ph dl dh sa sb mk day)], i (toE c T lo hi n (col 0 fr) (col 1 fr) (col 2 fr) (col 3 fr) m (Pt.col 0 ft) (Pt.col 1 ft) pl ph dl dh sa sb mk day)])
 | _ => none
theorem Told_ok : SoundSpec Tryz.prog 19 S_Told := by
 refine ⟨⟨_, Tryz.func19, by kernel_rfl, by kernel_rfl⟩, ?_⟩
 intro avs ns res h hn
 unfold S_Told at h
 split at h
 ·cases h
  have hr : isRec 4 _ _ := hn _ List.mem_cons_self
  have ht : isRec 2 _ _ := hn _ (List.mem_cons_of_mem _ List.mem_cons_self)
  exact (Told_at _ _ _ _ _ _ _ _ _ _ _ _ _ _ _ _ _ _ _ _ ).same (.cons (Sames.same (.cons (.refl _) (.cons (.refl _) (.cons (.refl _) (.cons (.refl _) (.cons (.lst 4 _ _ _ hr) (.cons (.lst 2 _ _ _ ht) (.cons (.refl _) (.cons (.refl _) (.cons (.refl _) (.cons (.refl _) .nil))))))))))) (.cons (.refl _) (.cons (.refl _) (.cons (.refl _) .nil))))
 ·cases h
end Go.Proofs.YtlinbkmpkcmniaaGreat
namespace Go.Proofs.YtlinbkmpkcmniaaGreat
open Go Go.Sx Go.RowKit Bo
open Go.Sx.Tree (need branch leaf)
open Go.Sx.AV (lst ptr agg roI tup top)
def selB (bits : Int) (k : Nat) : Bool := andI (bits / 2 ^ k) 1 == 1
def selL (bits : Int) : Nat → List Nat
 | 0 => []
 | k + 1 => if selB bits k then selL bits k ++ [k] else selL bits k
def sg (f : Nat → Int) (l : List Nat) (j : Nat) : Int := f (l.getD j 0)
def enS (c T lo hi : Int) (n : Nat) (a b u v : Nat → Int) (m : Nat) (p q : Nat → Int) (pl ph dl dh : Int) (u0 u1 wi day : Int) (l : List Nat) : Bool := decide (rdE c T lo hi l.length (sg a l) (sg b l) (sg u l) (sg v l) m p q pl ph dl dh = 0) && keB c (wkA c T lo hi l.length (sg a l) (sg b l) (sg u l) (sg v l) m p q pl ph dl dh) u0 u1 wi day
def enB (c T lo hi : Int) (n : Nat) (a b u v : Nat → Int) (m : Nat) (p q : Nat → Int) (pl ph dl dh : Int) (u0 u1 wi day : Int) (bits : Int) : Bool := enS c T lo hi n a b u v m p q pl ph dl dh u0 u1 wi day (selL bits n)
def enH : Value → Prop := fun v => ∃ x : Int, v = .agg #[.int .i64 x]
def keyI : Value → Int := fun y => match y with
 | .agg l => match l.toList with
  | [.int _ x] => x
  | _ => 0
 | _ => 0
def enF (c T lo hi : Int) (n : Nat) (a b u v : Nat → Int) (m : Nat) (p q : Nat → Int) (pl ph dl dh : Int) (u0 u1 wi day : Int) : Value → Value := fun y => .bool (enB c T lo hi n a b u v m p q pl ph dl dh u0 u1 wi day (keyI y))
def whI (n : Nat) : Int := 1 * 2 ^ n - 1
def buI (n k : Nat) : Int := anI (whI n) (1 * 2 ^ k)
def hgL (c T lo hi : Int) (n : Nat) (a b u v : Nat → Int) (m : Nat) (p q : Nat → Int) (pl ph dl dh : Int) (u0 u1 wi day : Int) : Nat → List Int
 | 0 => []
 | k + 1 => if enB c T lo hi n a b u v m p q pl ph dl dh u0 u1 wi day (buI n k) then hgL c T lo hi n a b u v m p q pl ph dl dh u0 u1 wi day k else hgL c T lo hi n a b u v m p q pl ph dl dh u0 u1 wi day k ++ [(k : Int)]
noncomputable def H_trial : HSpec := inlH Tryz.prog [(82, S_kept)] { R := [], H := [], C := [(79, C_asked)] } [] Tryz.f93 (bodyOf Tryz.f93)
theorem trial_okH : SoundHSpec Tryz.prog 93 H_trial :=
 inl_sound (G := [(82, S_kept)]) (X := { R := [], H := [], C := [(79, C_asked)] }) (L := []) (SoundG.cons kept_ok (SoundG.nil _)) (SoundX.ofC (SoundRL.nil _) (SoundHL.nil _) (SoundCL.cons asked_okC (SoundCL.nil _))) mixed ⟨_, Tryz.func93, by kernel_rfl, by kernel_rfl⟩ Tryz.func93 (show Tryz.f93.body = some (bodyOf Tryz.f93) by kernel_rfl) noLoopsS
noncomputable def E_ha (c T lo hi : Int) (n : Nat) (a b u v : Nat → Int) (m : Nat) (p q : Nat → Int) (pl ph dl dh : Int) (u0 u1 wi day : Int) : St := (some { σ := mkS 48 [(0, .agg [i c, i T, i lo, i hi, rds n a b u v, Pt.scs m p q, i pl, i ph, i dl, i dh]), (1, .agg [i u0, i u1, i wi]), (2, i day), (3, .ptr 0 0), (4, .ptr 1 0), (6, .x (.slice none 0 0)), (7, i 0), (8, .ptr 33 0), (9, .ptr 47 0), (10, i 0), (11, .fn (.func 94) [.ptr 33 0] []), (12, .row 900), (13, .top), (29, i n), (30, .top)], m := [(900, .row 3 1 (hgL c T lo hi n a b u v m p q pl ph dl dh u0 u1 wi day 0).length (fun j => [i (nthJ (hgL c T lo hi n a b u v m p q pl ph dl dh u0 u1 wi day 0) j)])), (47, .cells 160 [i (whI n)]), (31, .memo enH (enF c T lo hi n a b u v m p q pl ph dl dh u0 u1 wi day)), (33, .cells 200 [i c, i T, i lo, i hi, rds n a b u v, Pt.scs m p q, i pl, i ph, i dl, i dh, i u0, i u1, i wi, i day, .mp 31]), (0, .cells 47 [i c, i T, i lo, i hi, rds n a b u v, Pt.scs m p q, i pl, i ph, i dl, i dh])], nx := 901 } : Option St).getD { σ := [], m := [], nx := 0 }
noncomputable def B_ha : Code := loopBody (loopAt (bodyOf Tryz.f54) 0)
noncomputable def inv_ha (c T lo hi : Int) (n : Nat) (a b u v : Nat → Int) (m : Nat) (p q : Nat → Int) (pl ph dl dh : Int) (u0 u1 wi day : Int) (k : Nat) : St := { σ := ovrS [(30, i k)] (E_ha c T lo hi n a b u v m p q pl ph dl dh u0 u1 wi day).σ, m := [(900, .row 3 1 (hgL c T lo hi n a b u v m p q pl ph dl dh u0 u1 wi day k).length (fun j => [i (nthJ (hgL c T lo hi n a b u v m p q pl ph dl dh u0 u1 wi day k) j)])), (47, .cells 160 [i (whI n)]), (31, .memo enH (enF c T lo hi n a b u v m p q pl ph dl dh u0 u1 wi day)), (33, .cells 200 [i c, i T, i lo, i hi, rds n a b u v, Pt.scs m p q, i pl, i ph, i dl, i dh, i u0, i u1, i wi, i day, .mp 31]), (0, .cells 47 [i c, i T, i lo, i hi, rds n a b u v, Pt.scs m p q, i pl, i ph, i dl, i dh])], nx := (E_ha c T lo hi n a b u v m p q pl ph dl dh u0 u1 wi day).nx }
noncomputable def out_ha (c T lo hi : Int) (n : Nat) (a b u v : Nat → Int) (m : Nat) (p q : Nat → Int) (pl ph dl dh : Int) (u0 u1 wi day : Int) (k : Nat) : AEx → Option St := fun ex => match ex with
 | .exit 0 => some { σ := ovrS [] (E_ha c T lo hi n a b u v m p q pl ph dl dh u0 u1 wi day).σ, m := [(900, .row 3 1 (hgL c T lo hi n a b u v m p q pl ph dl dh u0 u1 wi day n).length (fun j => [i (nthJ (hgL c T lo hi n a b u v m p q pl ph dl dh u0 u1 wi day n) j)])), (47, .cells 160 [i (whI n)]), (31, .memo enH (enF c T lo hi n a b u v m p q pl ph dl dh u0 u1 wi day)), (33, .cells 200 [i c, i T, i lo, i hi, rds n a b u v, Pt.scs m p q, i pl, i ph, i dl, i dh, i u0, i u1, i wi, i day, .mp 31]), (0, .cells 47 [i c, i T, i lo, i hi, rds n a b u v, Pt.scs m p q, i pl, i ph, i dl, i dh])], nx := (E_ha c T lo hi n a b u v m p q pl ph dl dh u0 u1 wi day).nx }
 | _ => none
noncomputable def T_ha (c T lo hi : Int) (n : Nat) (a b u v : Nat → Int) (m : Nat) (p q : Nat → Int) (pl ph dl dh : Int) (u0 u1 wi day : Int) : CT := .leaf (.exit 0, ( out_ha c T lo hi n a b u v m p q pl ph dl dh u0 u1 wi day 0 (.exit 0)).getD (E_ha c T lo hi n a b u v m p q pl ph dl dh u0 u1 wi day))
noncomputable def LS_ha (c T lo hi : Int) (n : Nat) (a b u v : Nat → Int) (m : Nat) (p q : Nat → Int) (pl ph dl dh : Int) (u0 u1 wi day : Int) : LSpec := normSp [(.slot 12, 900, 3, 1)] (sumL (inv_ha c T lo hi n a b u v m p q pl ph dl dh u0 u1 wi day (0)) (T_ha c T lo hi n a b u v m p q pl ph dl dh u0 u1 wi day))
theorem mapKey_en (x : Int) : MapKey Tryz.prog 198 enH (.agg #[.int .i64 x]) (.bool false) := by
 refine ⟨⟨160, 4, (match Tryz.prog.underlying 160 with | some (.struct fs) => fs | _ => #[]), by kernel_rfl, by kernel_rfl, ?_, ?_, ?_⟩, by simp [Instr.sameBits]⟩
 ·intro b' w
  kernel_rfl
 ·rintro k' ⟨x', rfl⟩ w
  refine ⟨x == x' && true, eqA_sound (P := Tryz.prog) (e := freshE w w) Op.maxDepth 160 (.agg [i x]) (.agg [i x']) _ _ _ (by kernel_rfl) (Rep.aggL (RepL.one (.x _))) (Rep.aggL (RepL.one (.x _))), fun h => ?_⟩
  simp only [Bool.and_true, beq_iff_eq] at h
  subst h
  rfl
 ·intro w
  kernel_rfl
theorem selL_len (bits : Int) : ∀ k, (selL bits k).length ≤ k
 | 0 => Nat.le_refl _
 | k + 1 => by
  have := selL_len bits k
  unfold selL
  split
  ·rw [List.length_append]; simp; omega
  ·omega
theorem sg_cat {l : List Nat} {a b u v : Nat → Int} {j q : Nat} (h : q < l.length + 1) : catF l.length (fun q => [i (sg a l q), i (sg b l q), i (sg u l q), i (sg v l q)]) (chunk 4 [i (a j), i (b j), i (u j), i (v j)]) q = [i (sg a (l ++ [j]) q), i (sg b (l ++ [j]) q), i (sg u (l ++ [j]) q), i (sg v (l ++ [j]) q)] := by
 have e : ∀ f : Nat → Int, sg f (l ++ [j]) q = if q < l.length then sg f l q else f j := fun f => by
  unfold sg
  rw [List.getD_eq_getElem?_getD, List.getD_eq_getElem?_getD]
  split
  ·rename_i hq
   rw [List.getElem?_append_left hq]
  ·rename_i hq
   rw [show q = l.length by omega, List.getElem?_append_right (Nat.le_refl _)]
   simp
 rw [e, e, e, e]
 by_cases hq : q < l.length
 ·rw [if_pos hq, if_pos hq, if_pos hq, if_pos hq]
  show mergeL (decide (q < l.length)) _ (chunk 4 _ (q - l.length)) = _
  rw [decide_eq_true hq, show q - l.length = 0 by omega]
  rfl
 ·rw [if_neg hq, if_neg hq, if_neg hq, if_neg hq]
  show mergeL (decide (q < l.length)) _ (chunk 4 _ (q - l.length)) = _
  rw [decide_eq_false hq, show q - l.length = 0 by omega]
  rfl
noncomputable def E_en (c T lo hi : Int) (n : Nat) (a b u v : Nat → Int) (m : Nat) (p q : Nat → Int) (pl ph dl dh : Int) (u0 u1 wi day : Int) (k : Nat) : St := (some { σ := [ptr 33 0, agg [iI (buI n k)], top, ptr 911 0, AV.lit false, AV.x (Value.bool false), AV.lit false, ptr 919 0] ++ tpL 24 [lst 4 n fun k => [iI (a k), iI (b k), iI (u k), iI (v k)], iI (↑n : Int)] ++ tpL 44 [], m := [(950, Res.row 155 4 0 fun x => []), (919, Res.cells 47 [iI c, iI T, iI lo, iI hi, AV.row 950, lst 2 m fun k => [iI (p k), iI (q k)], iI pl, iI ph, iI dl, iI dh]), (911, Res.cells 160 [iI (buI n k)]), (900, Res.row 3 1 (List.length (hgL c T lo hi n a b u v m p q pl ph dl dh u0 u1 wi day k)) fun j => [iI (nthJ (hgL c T lo hi n a b u v m p q pl ph dl dh u0 u1 wi day k) j)]), (47, Res.cells 160 [iI (whI n)]), (31, Res.memo (fun a => enH a) fun a_1 => Value.bool (enB c T lo hi n a b u v m p q pl ph dl dh u0 u1 wi day (keyI a_1))), (33, Res.cells 200 [iI c, iI T, iI lo, iI hi, lst 4 n fun k => [iI (a k), iI (b k), iI (u k), iI (v k)], lst 2 m fun k => [iI (p k), iI (q k)], iI pl, iI ph, iI dl, iI dh, iI u0, iI u1, iI wi, iI day, AV.mp 31]), (0, Res.cells 47 [iI c, iI T, iI lo, iI hi, lst 4 n fun k => [iI (a k), iI (b k), iI (u k), iI (v k)], lst 2 m fun k => [iI (p k), iI (q k)], iI pl, iI ph, iI dl, iI dh])], nx := 951, sv := [[agg [iI c, iI T, iI lo, iI hi, lst 4 n fun k => [iI (a k), iI (b k), iI (u k), iI (v k)], lst 2 m fun k => [iI (p k), iI (q k)], iI pl, iI ph, iI dl, iI dh], agg [iI u0, iI u1, iI wi], iI day, ptr 0 0, ptr 1 0, top, AV.x (Value.slice none 0 0), iI (0 : Int), ptr 33 0, ptr 47 0, iI (0 : Int), AV.fn (Fn.func 94) [ptr 33 0] [], AV.row 900, iI (↑k : Int), top, top, top, top, top, top, top, top, top, top, top, top, top, top, top, iI (↑n : Int), iI (↑k : Int), AV.lit true, iI (↑k : Int), AV.fn (Fn.func 94) [ptr 33 0] [], ptr 47 0, iI (whI n), iI (↑k : Int), iI ((1 : Int) * (2 : Int) ^ k), iI (buI n k), agg [iI (buI n k)], top, top, top, top, top, top, top, top]] } : Option St).getD { σ := [], m := [], nx := 0 }
noncomputable def B_en : Code := loopBody (loopAt (bodyOf Tryz.f94) 0)
noncomputable def inv_en (c T lo hi : Int) (n : Nat) (a b u v : Nat → Int) (m : Nat) (p q : Nat → Int) (pl ph dl dh : Int) (u0 u1 wi day : Int) (k : Nat) (j : Nat) : St := { σ := ovrS [(34, i j)] (E_en c T lo hi n a b u v m p q pl ph dl dh u0 u1 wi day k).σ, m := [(950, .row 155 4 (selL (buI n k) j).length (fun q => [i (sg a (selL (buI n k) j) q), i (sg b (selL (buI n k) j) q), i (sg u (selL (buI n k) j) q), i (sg v (selL (buI n k) j) q)])), (919, .cells 47 [i c, i T, i lo, i hi, .row 950, Pt.scs m p q, i pl, i ph, i dl, i dh]), (911, .cells 160 [i (buI n k)]), (900, .row 3 1 (hgL c T lo hi n a b u v m p q pl ph dl dh u0 u1 wi day k).length (fun j => [i (nthJ (hgL c T lo hi n a b u v m p q pl ph dl dh u0 u1 wi day k) j)])), (47, .cells 160 [i (whI n)]), (31, .memo enH (enF c T lo hi n a b u v m p q pl ph dl dh u0 u1 wi day)), (33, .cells 200 [i c, i T, i lo, i hi, rds n a b u v, Pt.scs m p q, i pl, i ph, i dl, i dh, i u0, i u1, i wi, i day, .mp 31]), (0, .cells 47 [i c, i T, i lo, i hi, rds n a b u v, Pt.scs m p q, i pl, i ph, i dl, i dh])], nx := 951, sv := [mkS 48 [(0, .agg [i c, i T, i lo, i hi, rds n a b u v, Pt.scs m p q, i pl, i ph, i dl, i dh]), (1, .agg [i u0, i u1, i wi]), (2, i day), (3, .ptr 0 0), (4, .ptr 1 0), (6, .x (.slice none 0 0)), (7, i 0), (8, .ptr 33 0), (9, .ptr 47 0), (10, i 0), (11, .fn (.func 94) [.ptr 33 0] []), (12, .row 900), (13, i k), (29, i n), (30, i k), (31, .lit true), (32, i k), (33, .fn (.func 94) [.ptr 33 0] []), (34, .ptr 47 0), (35, i (whI n)), (36, i k), (37, i (1 * 2 ^ k)), (38, i (buI n k)), (39, .agg [i (buI n k)])]] }
noncomputable def out_en (c T lo hi : Int) (n : Nat) (a b u v : Nat → Int) (m : Nat) (p q : Nat → Int) (pl ph dl dh : Int) (u0 u1 wi day : Int) (k : Nat) (j : Nat) : AEx → Option St := fun ex => match ex with
 | .exit 0 => some { σ := ovrS [] (E_en c T lo hi n a b u v m p q pl ph dl dh u0 u1 wi day k).σ, m := [(950, .row 155 4 (selL (buI n k) n).length (fun q => [i (sg a (selL (buI n k) n) q), i (sg b (selL (buI n k) n) q), i (sg u (selL (buI n k) n) q), i (sg v (selL (buI n k) n) q)])), (919, .cells 47 [i c, i T, i lo, i hi, .row 950, Pt.scs m p q, i pl, i ph, i dl, i dh]), (911, .cells 160 [i (buI n k)]), (900, .row 3 1 (hgL c T lo hi n a b u v m p q pl ph dl dh u0 u1 wi day k).length (fun j => [i (nthJ (hgL c T lo hi n a b u v m p q pl ph dl dh u0 u1 wi day k) j)])), (47, .cells 160 [i (whI n)]), (31, .memo enH (enF c T lo hi n a b u v m p q pl ph dl dh u0 u1 wi day)), (33, .cells 200 [i c, i T, i lo, i hi, rds n a b u v, Pt.scs m p q, i pl, i ph, i dl, i dh, i u0, i u1, i wi, i day, .mp 31]), (0, .cells 47 [i c, i T, i lo, i hi, rds n a b u v, Pt.scs m p q, i pl, i ph, i dl, i dh])], nx := 951, sv := [mkS 48 [(0, .agg [i c, i T, i lo, i hi, rds n a b u v, Pt.scs m p q, i pl, i ph, i dl, i dh]), (1, .agg [i u0, i u1, i wi]), (2, i day), (3, .ptr 0 0), (4, .ptr 1 0), (6, .x (.slice none 0 0)), (7, i 0), (8, .ptr 33 0), (9, .ptr 47 0), (10, i 0), (11, .fn (.func 94) [.ptr 33 0] []), (12, .row 900), (13, i k), (29, i n), (30, i k), (31, .lit true), (32, i k), (33, .fn (.func 94) [.ptr 33 0] []), (34, .ptr 47 0), (35, i (whI n)), (36, i k), (37, i (1 * 2 ^ k)), (38, i (buI n k)), (39, .agg [i (buI n k)])]] }
 | _ => none
noncomputable def T_en (c T lo hi : Int) (n : Nat) (a b u v : Nat → Int) (m : Nat) (p q : Nat → Int) (pl ph dl dh : Int) (u0 u1 wi day : Int) (k : Nat) : CT := .leaf (.exit 0, ( out_en c T lo hi n a b u v m p q pl ph dl dh u0 u1 wi day k 0 (.exit 0)).getD (E_en c T lo hi n a b u v m p q pl ph dl dh u0 u1 wi day k))
noncomputable def LS_en (c T lo hi : Int) (n : Nat) (a b u v : Nat → Int) (m : Nat) (p q : Nat → Int) (pl ph dl dh : Int) (u0 u1 wi day : Int) (k : Nat) : LSpec := normSp [(.cell 919 4, 950, 155, 4)] (sumL (inv_en c T lo hi n a b u v m p q pl ph dl dh u0 u1 wi day k (0)) (T_en c T lo hi n a b u v m p q pl ph dl dh u0 u1 wi day k))
theorem en_ls (c T lo hi : Int) (n : Nat) (a b u v : Nat → Int) (m : Nat) (p q : Nat → Int) (pl ph dl dh : Int) (u0 u1 wi day : Int) (k : Nat) (pre0 : n ≤ 12) : LSound Tryz.prog (.loop B_en) (LS_en c T lo hi n a b u v m p q pl ph dl dh u0 u1 wi day k) := by
 refine loop_roundsX [(.cell 919 4, 950, 155, 4)] (E := {}) (G := []) (L := []) (SoundG.nil _) (SoundX.of (SoundRL.nil _) (SoundHL.nil _)) mixed noLoops (X := Nat) (inv_en c T lo hi n a b u v m p q pl ph dl dh u0 u1 wi day k) (fun j => j ≤ n) (fun j => n - j) (out_en c T lo hi n a b u v m p q pl ph dl dh u0 u1 wi day k) (x0 := 0) (by simp) ?_ ?_ ?_
 ·rintro j
  kernel_rfl
 ·rintro j y E h
  unfold out_en at h
  split at h
  ·cases h; kernel_rfl
  ·cases h
 ·rintro Q hQ j hx
  refine ⟨(j + 1), ?_⟩
  have e : roundX Tryz.prog [] {} [] [(.cell 919 4, 950, 155, 4)] B_en (inv_en c T lo hi n a b u v m p q pl ph dl dh u0 u1 wi day k j) (inv_en c T lo hi n a b u v m p q pl ph dl dh u0 u1 wi day k ((j + 1))) (out_en c T lo hi n a b u v m p q pl ph dl dh u0 u1 wi day k j) = (let z0 := hgL c T lo hi n a b u v m p q pl ph dl dh u0 u1 wi day; let z1 := enF c T lo hi n a b u v m p q pl ph dl dh u0 u1 wi day; let z2 := (AV.fn (Fn.func 94) [ptr 33 0] []); let z3 := (lst 4 n (rq4 a b u v)); let z4 := (agg [iI u0, iI u1, iI wi]); let z5 := (AV.x (Value.slice none 0 0)); (branch (decide ((↑j : Int) < (↑n : Int))) (need [(0 : Int) ≤ (↑j : Int) ∧ (↑j : Int) < (↑n : Int)] (need [(0 : Int) ≤ (↑j : Int) ∧ (↑j : Int) ≤ 64] (branch (IntKind.wrap IntKind.i64 (↑(BitVec.toNat (BitVec.ofInt 64 (buI n k / (2 : Int) ^ j) &&& BitVec.ofInt 64 (1 : Int))) : Int) == (1 : Int)) (need [(List.length (selL (buI n k) j) + 1) * 32 ≤ 140737488355328, ∀ (i : Nat), i < 1 → ∀ (a_2 : AV), a_2 ∈ chunk 4 [iI (a j), iI (b j), iI (u j), iI (v j)] i → AV.one a_2 = true] (need [inI64 ((↑j : Int) + 1)] (need [Eq1 (ptr 33 0), Eq1 (agg [iI (buI n k)]), Eq1 (ptr 911 0), Eq1 (AV.lit false), false = false, Eq1 (AV.lit false), Eq1 (ptr 919 0), z3 = lst 4 n (rq4 a b u v), Eq1 (↑n : Int), (↑j : Int) + 1 = (↑(j + 1) : Int), List.length (selL (buI n k) j) + 1 = List.length (selL (buI n k) (j + 1)), ∀ (i : Nat), i < List.length (selL (buI n k) (j + 1)) → catF (List.length (selL (buI n k) j)) (fun q => [iI (sg a (selL (buI n k) j) q), iI (sg b (selL (buI n k) j) q), iI (sg u (selL (buI n k) j) q), iI (sg v (selL (buI n k) j) q)]) (chunk 4 [iI (a j), iI (b j), iI (u j), iI (v j)]) i = [iI (sg a (selL (buI n k) (j + 1)) i), iI (sg b (selL (buI n k) (j + 1)) i), iI (sg u (selL (buI n k) (j + 1)) i), iI (sg v (selL (buI n k) (j + 1)) i)], c = c, T = T, lo = lo, hi = hi, Eq1 (AV.row 950), (lst 2 m fun k => [iI (p k), iI (q k)]) = lst 2 m fun k => [iI (p k), iI (q k)], pl = pl, ph = ph, dl = dl, dh = dh, Eq1 (buI n k), Eq1 (List.length (z0 k)), ∀ (i : Nat), i < List.length (z0 k) → [iI (nthJ (z0 k) i)] = [iI (nthJ (z0 k) i)], whI n = whI n, ∀ (k : Value), enH k → enH k ∧ z1 k = z1 k, c = c, T = T, lo = lo, hi = hi, z3 = lst 4 n (rq4 a b u v), (lst 2 m fun k => [iI (p k), iI (q k)]) = lst 2 m fun k => [iI (p k), iI (q k)], pl = pl, ph = ph, dl = dl, dh = dh, u0 = u0, u1 = u1, wi = wi, day = day, Eq1 (AV.mp 31), c = c, T = T, lo = lo, hi = hi, z3 = lst 4 n (rq4 a b u v), (lst 2 m fun k => [iI (p k), iI (q k)]) = lst 2 m fun k => [iI (p k), iI (q k)], pl = pl, ph = ph, dl = dl, dh = dh, Eq1 (agg [iI c, iI T, iI lo, iI hi, lst 4 n (rq4 a b u v), lst 2 m fun k => [iI (p k), iI (q k)], iI pl, iI ph, iI dl, iI dh]), Eq1 z4, day = day, Eq1 (ptr 0 0), Eq1 (ptr 1 0), Eq1 z5, Eq1 (0 : Int), Eq1 (ptr 33 0), Eq1 (ptr 47 0), Eq1 (0 : Int), Eq1 z2, Eq1 (AV.row 900), Eq1 (↑k : Int), Eq1 (↑n : Int), Eq1 (↑k : Int), Eq1 (AV.lit true), Eq1 (↑k : Int), Eq1 z2, Eq1 (ptr 47 0), whI n = whI n, Eq1 (↑k : Int), Eq1 ((1 : Int) * 2 ^ k), Eq1 (buI n k), Eq1 (agg [iI (buI n k)])] (leaf AEx.normal)))) (need [inI64 ((↑j : Int) + 1)] (need [Eq1 (ptr 33 0), Eq1 (agg [iI (buI n k)]), Eq1 (ptr 911 0), Eq1 (AV.lit false), false = false, Eq1 (AV.lit false), Eq1 (ptr 919 0), z3 = lst 4 n (rq4 a b u v), Eq1 (↑n : Int), (↑j : Int) + 1 = (↑(j + 1) : Int), List.length (selL (buI n k) j) = List.length (selL (buI n k) (j + 1)), ∀ (i : Nat), i < List.length (selL (buI n k) (j + 1)) → [iI (sg a (selL (buI n k) j) i), iI (sg b (selL (buI n k) j) i), iI (sg u (selL (buI n k) j) i), iI (sg v (selL (buI n k) j) i)] = [iI (sg a (selL (buI n k) (j + 1)) i), iI (sg b (selL (buI n k) (j + 1)) i), iI (sg u (selL (buI n k) (j + 1)) i), iI (sg v (selL (buI n k) (j + 1)) i)], c = c, T = T, lo = lo, hi = hi, Eq1 (AV.row 950), (lst 2 m fun k => [iI (p k), iI (q k)]) = lst 2 m fun k => [iI (p k), iI (q k)], pl = pl, ph = ph, dl = dl, dh = dh, Eq1 (buI n k), Eq1 (List.length (z0 k)), ∀ (i : Nat), i < List.length (z0 k) → [iI (nthJ (z0 k) i)] = [iI (nthJ (z0 k) i)], whI n = whI n, ∀ (k : Value), enH k → enH k ∧ z1 k = z1 k, c = c, T = T, lo = lo, hi = hi, z3 = lst 4 n (rq4 a b u v), (lst 2 m fun k => [iI (p k), iI (q k)]) = lst 2 m fun k => [iI (p k), iI (q k)], pl = pl, ph = ph, dl = dl, dh = dh, u0 = u0, u1 = u1, wi = wi, day = day, Eq1 (AV.mp 31), c = c, T = T, lo = lo, hi = hi, z3 = lst 4 n (rq4 a b u v), (lst 2 m fun k => [iI (p k), iI (q k)]) = lst 2 m fun k => [iI (p k), iI (q k)], pl = pl, ph = ph, dl = dl, dh = dh, Eq1 (agg [iI c, iI T, iI lo, iI hi, lst 4 n (rq4 a b u v), lst 2 m fun k => [iI (p k), iI (q k)], iI pl, iI ph, iI dl, iI dh]), Eq1 z4, day = day, Eq1 (ptr 0 0), Eq1 (ptr 1 0), Eq1 z5, Eq1 (0 : Int), Eq1 (ptr 33 0), Eq1 (ptr 47 0), Eq1 (0 : Int), Eq1 z2, Eq1 (AV.row 900), Eq1 (↑k : Int), Eq1 (↑n : Int), Eq1 (↑k : Int), Eq1 (AV.lit true), Eq1 (↑k : Int), Eq1 z2, Eq1 (ptr 47 0), whI n = whI n, Eq1 (↑k : Int), Eq1 ((1 : Int) * 2 ^ k), Eq1 (buI n k), Eq1 (agg [iI (buI n k)])] (leaf AEx.normal)))))) (need [Eq1 (ptr 33 0), Eq1 (agg [iI (buI n k)]), Eq1 (ptr 911 0), Eq1 (AV.lit false), false = false, Eq1 (AV.lit false), Eq1 (ptr 919 0), z3 = lst 4 n (rq4 a b u v), Eq1 (↑n : Int), List.length (selL (buI n k) j) = List.length (selL (buI n k) n), ∀ (i : Nat), i < List.length (selL (buI n k) n) → [iI (sg a (selL (buI n k) j) i), iI (sg b (selL (buI n k) j) i), iI (sg u (selL (buI n k) j) i), iI (sg v (selL (buI n k) j) i)] = [iI (sg a (selL (buI n k) n) i), iI (sg b (selL (buI n k) n) i), iI (sg u (selL (buI n k) n) i), iI (sg v (selL (buI n k) n) i)], c = c, T = T, lo = lo, hi = hi, Eq1 (AV.row 950), (lst 2 m fun k => [iI (p k), iI (q k)]) = lst 2 m fun k => [iI (p k), iI (q k)], pl = pl, ph = ph, dl = dl, dh = dh, Eq1 (buI n k), Eq1 (List.length (z0 k)), ∀ (i : Nat), i < List.length (z0 k) → [iI (nthJ (z0 k) i)] = [iI (nthJ (z0 k) i)], whI n = whI n, ∀ (k : Value), enH k → enH k ∧ z1 k = z1 k, c = c, T = T, lo = lo, hi = hi, z3 = lst 4 n (rq4 a b u v), (lst 2 m fun k => [iI (p k), iI (q k)]) = lst 2 m fun k => [iI (p k), iI (q k)], pl = pl, ph = ph, dl = dl, dh = dh, u0 = u0, u1 = u1, wi = wi, day = day, Eq1 (AV.mp 31), c = c, T = T, lo = lo, hi = hi, z3 = lst 4 n (rq4 a b u v), (lst 2 m fun k => [iI (p k), iI (q k)]) = lst 2 m fun k => [iI (p k), iI (q k)], pl = pl, ph = ph, dl = dl, dh = dh, Eq1 (agg [iI c, iI T, iI lo, iI hi, lst 4 n (rq4 a b u v), lst 2 m fun k => [iI (p k), iI (q k)], iI pl, iI ph, iI dl, iI dh]), Eq1 z4, day = day, Eq1 (ptr 0 0), Eq1 (ptr 1 0), Eq1 z5, Eq1 (0 : Int), Eq1 (ptr 33 0), Eq1 (ptr 47 0), Eq1 (0 : Int), Eq1 z2, Eq1 (AV.row 900), Eq1 (↑k : Int), Eq1 (↑n : Int), Eq1 (↑k : Int), Eq1 (AV.lit true), Eq1 (↑k : Int), Eq1 z2, Eq1 (ptr 47 0), whI n = whI n, Eq1 (↑k : Int), Eq1 ((1 : Int) * 2 ^ k), Eq1 (buI n k), Eq1 (agg [iI (buI n k)])] (leaf (AEx.exit 0))))) := by kernel_rfl
  rw [e]
  simp only [T_en, out_en, Tree.sat, Option.getD_some] at hQ
  have hl := selL_len (buI n k) j
  have hs : selL (buI n k) (j + 1) = if selB (buI n k) j then selL (buI n k) j ++ [j] else selL (buI n k) j := rfl
  have hB : selB (buI n k) j = (andI (buI n k / 2 ^ j) 1 == 1) := rfl
  simp only [Tree.sat, allP, fitP, fitL, valEq, inI64, true_and, and_true, decide_eq_true_eq, decide_eq_false_iff_not, Int.toNat_natCast]
  clear e
  have hc4 : ∀ x1 x2 x3 x4 : Int, ∀ (q : Nat), q < 1 → ∀ y, y ∈ chunk 4 [iI x1, iI x2, iI x3, iI x4] q → AV.one y = true := fun _ _ _ _ q _ y hy => one_of hy (by simp [AV.one, Value.oneCell'])
  refine ⟨fun h => ⟨by omega, by omega, fun h2 => ?_, fun h2 => ?_⟩, fun h => ?_⟩
  ·have h3 : selB (buI n k) j = true := h2
   rw [if_pos h3] at hs
   rw [hs, List.length_append]
   (repeat' first | with_reducible apply And.intro | with_reducible intro _)
   all_goals first | exact True.intro | omega | with_reducible rfl | exact hc4 _ _ _ _ _ (by assumption) _ (by assumption) | exact sg_cat (by assumption) | assumption | rfl
  ·have h3 : selB (buI n k) j = false := h2
   rw [if_neg (by rw [h3]; simp)] at hs
   rw [hs]
   (repeat' first | with_reducible apply And.intro | with_reducible intro _)
   all_goals first | exact True.intro | omega | with_reducible rfl | assumption | rfl
  ·obtain rfl : j = n := by omega
   (repeat' first | with_reducible apply And.intro | with_reducible intro _)
   all_goals first | exact True.intro | omega | with_reducible rfl | (rename_i E hE; cases hE; exact hQ) | assumption | rfl
end Go.Proofs.YtlinbkmpkcmniaaGreat
namespace Go.Proofs.YtlinbkmpkcmniaaGreat
open Go Go.Sx Go.RowKit Bo
open Go.Sx.Tree (need branch leaf)
open Go.Sx.AV (lst ptr agg roI tup top)
noncomputable def F_en (c T lo hi : Int) (n : Nat) (a b u v : Nat → Int) (m : Nat) (p q : Nat → Int) (pl ph dl dh : Int) (u0 u1 wi day : Int) : St → Option LSpec := fun s => match s.sv with
 | σ :: _ => match σ.getD 30 .top with
  | .x (.int _ ke) => some (needSp [n ≤ 12] (LS_en c T lo hi n a b u v m p q pl ph dl dh u0 u1 wi day ke.toNat))
  | _ => none
 | [] => none
noncomputable def H_en (c T lo hi : Int) (n : Nat) (a b u v : Nat → Int) (m : Nat) (p q : Nat → Int) (pl ph dl dh : Int) (u0 u1 wi day : Int) : HSpec := inlH Tryz.prog [(82, S_kept)] { R := [], H := [], C := [(64, C_read)] } [stSp (F_en c T lo hi n a b u v m p q pl ph dl dh u0 u1 wi day)] Tryz.f94 (bodyOf Tryz.f94)
theorem en_okH (c T lo hi : Int) (n : Nat) (a b u v : Nat → Int) (m : Nat) (p q : Nat → Int) (pl ph dl dh : Int) (u0 u1 wi day : Int) : SoundHSpec Tryz.prog 94 (H_en c T lo hi n a b u v m p q pl ph dl dh u0 u1 wi day) :=
 inl_sound (G := [(82, S_kept)]) (X := { R := [], H := [], C := [(64, C_read)] }) (L := [stSp (F_en c T lo hi n a b u v m p q pl ph dl dh u0 u1 wi day)]) (SoundG.cons kept_ok (SoundG.nil _)) (SoundX.ofC (SoundRL.nil _) (SoundHL.nil _) (SoundCL.cons read_okC (SoundCL.nil _))) mixed ⟨_, Tryz.func94, by kernel_rfl, by kernel_rfl⟩ Tryz.func94 (show Tryz.f94.body = some (bodyOf Tryz.f94) by kernel_rfl) (one_loop (fun cj hcj => by
  have e : loopAt (bodyOf Tryz.f94) 0 = some (.loop B_en) := by kernel_rfl
  rw [e] at hcj; cases hcj
  refine stSp_sound (fun s l hl => ?_)
  unfold F_en at hl
  split at hl
  ·split at hl
   ·cases hl
    exact needSp_sound (fun h => en_ls c T lo hi n a b u v m p q pl ph dl dh u0 u1 wi day _ h)
   ·cases hl
  ·cases hl))
theorem nthJ_app (l m : List Int) : ∀ k, nthJ (l ++ m) k = if k < l.length then nthJ l k else nthJ m (k - l.length) := by
 induction l with
 | nil => intro k; simp
 | cons x l ih =>
  intro k
  cases k with
  | zero => simp [nthJ]
  | succ k =>
   show nthJ (l ++ m) k = _
   rw [ih]
   simp only [List.length_cons, Nat.add_lt_add_iff_right, Nat.add_sub_add_right]
   rfl
theorem catJ1 {l : List Int} {x : Int} {j : Nat} (h : j < l.length + 1) : catF l.length (fun j => [i (nthJ l j)]) (chunk 1 [i x]) j = [i (nthJ (l ++ [x]) j)] := by
 rw [nthJ_app]
 show mergeL (decide (j < l.length)) _ (chunk 1 [i x] (j - l.length)) = _
 rw [show j - l.length = 0 by omega]
 by_cases hj : j < l.length
 ·rw [decide_eq_true hj, if_pos hj]; rfl
 ·rw [decide_eq_false hj, if_neg hj]; rfl
theorem hgL_len (c T lo hi : Int) (n : Nat) (a b u v : Nat → Int) (m : Nat) (p q : Nat → Int) (pl ph dl dh : Int) (u0 u1 wi day : Int) : ∀ k, (hgL c T lo hi n a b u v m p q pl ph dl dh u0 u1 wi day k).length ≤ k
 | 0 => Nat.le_refl _
 | k + 1 => by
  have := hgL_len c T lo hi n a b u v m p q pl ph dl dh u0 u1 wi day k
  unfold hgL
  split
  ·omega
  ·rw [List.length_append]; simp; omega
theorem pow12 {k : Nat} (h : k ≤ 12) : (1 : Int) ≤ 1 * 2 ^ k ∧ (1 : Int) * 2 ^ k ≤ 4096 := by
 rcases (show k = 0 ∨ k = 1 ∨ k = 2 ∨ k = 3 ∨ k = 4 ∨ k = 5 ∨ k = 6 ∨ k = 7 ∨ k = 8 ∨ k = 9 ∨ k = 10 ∨ k = 11 ∨ k = 12 by omega) with rfl | rfl | rfl | rfl | rfl | rfl | rfl | rfl | rfl | rfl | rfl | rfl | rfl <;> decide
theorem ha_ls (c T lo hi : Int) (n : Nat) (a b u v : Nat → Int) (m : Nat) (p q : Nat → Int) (pl ph dl dh : Int) (u0 u1 wi day : Int) (pre0 : n ≤ 12) (pre1 : usB c u0 u1 wi = true) (pre2 : 0 ≤ day ∧ day ≤ 10000) : LSound Tryz.prog (.loop B_ha) (LS_ha c T lo hi n a b u v m p q pl ph dl dh u0 u1 wi day) := by
 refine loop_roundsX [(.slot 12, 900, 3, 1)] (E := { R := [], H := [(94, (H_en c T lo hi n a b u v m p q pl ph dl dh u0 u1 wi day))] }) (G := []) (L := []) (SoundG.nil _) (SoundX.of (SoundRL.nil _) (SoundHL.cons (en_okH c T lo hi n a b u v m p q pl ph dl dh u0 u1 wi day) (SoundHL.nil _))) mixed noLoops (X := Nat) (inv_ha c T lo hi n a b u v m p q pl ph dl dh u0 u1 wi day) (fun k => k ≤ n) (fun k => n - k) (out_ha c T lo hi n a b u v m p q pl ph dl dh u0 u1 wi day) (x0 := 0) (by simp) ?_ ?_ ?_
 ·rintro k
  kernel_rfl
 ·rintro k y E h
  unfold out_ha at h
  split at h
  ·cases h; kernel_rfl
  ·cases h
 ·rintro Q hQ k hx
  refine ⟨(k + 1), ?_⟩
  have e : roundX Tryz.prog [] { R := [], H := [(94, (H_en c T lo hi n a b u v m p q pl ph dl dh u0 u1 wi day))] } [] [(.slot 12, 900, 3, 1)] B_ha (inv_ha c T lo hi n a b u v m p q pl ph dl dh u0 u1 wi day k) (inv_ha c T lo hi n a b u v m p q pl ph dl dh u0 u1 wi day ((k + 1))) (out_ha c T lo hi n a b u v m p q pl ph dl dh u0 u1 wi day k) = (let z4 := hgL c T lo hi n a b u v m p q pl ph dl dh u0 u1 wi day; let z7 := (agg [iI c, iI T, iI lo, iI hi, lst 4 n (rq4 a b u v), lst 2 m fun k => [iI (p k), iI (q k)], iI pl, iI ph, iI dl, iI dh]); let z11 := (agg [iI u0, iI u1, iI wi]); let z12 := (AV.x (Value.slice none 0 0)); let z8 := (AV.fn (Fn.func 94) [ptr 33 0] []); let z2 := enF c T lo hi n a b u v m p q pl ph dl dh u0 u1 wi day; let z0 := (need [(List.length (z4 k) + 1) * 8 ≤ 140737488355328, ∀ (i : Nat), i < 1 → ∀ (a : AV), a ∈ chunk 1 [iI (↑k : Int)] i → AV.one a = true] (need [inI64 ((↑k : Int) + 1)] (need [Eq1 z7, Eq1 z11, day = day, Eq1 (ptr 0 0), Eq1 (ptr 1 0), Eq1 z12, Eq1 (0 : Int), Eq1 (ptr 33 0), Eq1 (ptr 47 0), Eq1 (0 : Int), Eq1 z8, Eq1 (AV.row 900), Eq1 (↑n : Int), (↑k : Int) + 1 = (↑(k + 1) : Int), List.length (z4 k) + 1 = List.length (z4 (k + 1)), ∀ (i : Nat), i < List.length (z4 (k + 1)) → catF (List.length (z4 k)) (fun j => [iI (nthJ (z4 k) j)]) (chunk 1 [iI (↑k : Int)]) i = [iI (nthJ (z4 (k + 1)) i)], whI n = whI n, ∀ (k : Value), enH k → enH k ∧ z2 k = z2 k, c = c, T = T, lo = lo, hi = hi, (lst 4 n (rq4 a b u v)) = lst 4 n (rq4 a b u v), (lst 2 m fun k => [iI (p k), iI (q k)]) = lst 2 m fun k => [iI (p k), iI (q k)], pl = pl, ph = ph, dl = dl, dh = dh, u0 = u0, u1 = u1, wi = wi, day = day, Eq1 (AV.mp 31), c = c, T = T, lo = lo, hi = hi, (lst 4 n (rq4 a b u v)) = lst 4 n (rq4 a b u v), (lst 2 m fun k => [iI (p k), iI (q k)]) = lst 2 m fun k => [iI (p k), iI (q k)], pl = pl, ph = ph, dl = dl, dh = dh] (leaf AEx.normal)))); let z1 := (need [inI64 ((↑k : Int) + 1)] (need [Eq1 z7, Eq1 z11, day = day, Eq1 (ptr 0 0), Eq1 (ptr 1 0), Eq1 z12, Eq1 (0 : Int), Eq1 (ptr 33 0), Eq1 (ptr 47 0), Eq1 (0 : Int), Eq1 z8, Eq1 (AV.row 900), Eq1 (↑n : Int), (↑k : Int) + 1 = (↑(k + 1) : Int), List.length (z4 k) = List.length (z4 (k + 1)), ∀ (i : Nat), i < List.length (z4 (k + 1)) → [iI (nthJ (z4 k) i)] = [iI (nthJ (z4 (k + 1)) i)], whI n = whI n, ∀ (k : Value), enH k → enH k ∧ z2 k = z2 k, c = c, T = T, lo = lo, hi = hi, (lst 4 n (rq4 a b u v)) = lst 4 n (rq4 a b u v), (lst 2 m fun k => [iI (p k), iI (q k)]) = lst 2 m fun k => [iI (p k), iI (q k)], pl = pl, ph = ph, dl = dl, dh = dh, u0 = u0, u1 = u1, wi = wi, day = day, Eq1 (AV.mp 31), c = c, T = T, lo = lo, hi = hi, (lst 4 n (rq4 a b u v)) = lst 4 n (rq4 a b u v), (lst 2 m fun k => [iI (p k), iI (q k)]) = lst 2 m fun k => [iI (p k), iI (q k)], pl = pl, ph = ph, dl = dl, dh = dh] (leaf AEx.normal))); let z10 := (List.length (selL (buI n k) n)); let z3 := (wkA c T lo hi z10 (sg a (selL (buI n k) n)) (sg b (selL (buI n k) n)) (sg u (selL (buI n k) n)) (sg v (selL (buI n k) n)) m p q pl ph dl dh); let z5 := (IntKind.wrap IntKind.i64 (↑(BitVec.toNat (BitVec.ofInt 64 (whI n) &&& ~~~BitVec.ofInt 64 ((1 : Int) * 2 ^ k))) : Int)); let z6 := (Value.agg #[Value.int IntKind.i64 (buI n k)]); let z9 := (need [MapKey Tryz.prog 198 enH z6 (Value.bool false), enH z6, Value.bool false = z2 z6] z0); let z13 := (Value.agg #[Value.int IntKind.i64 z5]); (branch (decide ((↑k : Int) < (↑n : Int))) (need [(0 : Int) ≤ (↑k : Int) ∧ (↑k : Int) ≤ 64, inI64 ((1 : Int) * 2 ^ k)] (need [MapKey Tryz.prog 198 enH z13 (Value.bool false)] (Tree.may (enH z13) (branch (!enB c T lo hi n a b u v m p q pl ph dl dh u0 u1 wi day (keyI z13)) z0 z1) (need [n ≤ 12] (need [Eq1 (ptr 33 0), agg [iI z5] = agg [iI (buI n k)], Eq1 (ptr 911 0), Eq1 (AV.lit false), false = false, Eq1 (AV.lit false), Eq1 (ptr 919 0), (lst 4 n (rq4 a b u v)) = lst 4 n (rq4 a b u v), Eq1 (↑n : Int), (0 : Int) = (↑(0 : Nat) : Int), 0 = List.length (selL (buI n k) 0), ∀ (i : Nat), i < List.length (selL (buI n k) 0) → [] = [iI (sg a (selL (buI n k) 0) i), iI (sg b (selL (buI n k) 0) i), iI (sg u (selL (buI n k) 0) i), iI (sg v (selL (buI n k) 0) i)], c = c, T = T, lo = lo, hi = hi, Eq1 (AV.row 950), (lst 2 m fun k => [iI (p k), iI (q k)]) = lst 2 m fun k => [iI (p k), iI (q k)], pl = pl, ph = ph, dl = dl, dh = dh, IntKind.wrap IntKind.i64 (↑(BitVec.toNat (BitVec.ofInt 64 (whI n) &&& ~~~BitVec.ofInt 64 ((1 : Int) * 2 ^ k))) : Int) = buI n k, Eq1 (List.length (z4 k)), ∀ (i : Nat), i < List.length (z4 k) → [iI (nthJ (z4 k) i)] = [iI (nthJ (z4 k) i)], whI n = whI n, ∀ (k : Value), enH k → enH k ∧ z2 k = z2 k, c = c, T = T, lo = lo, hi = hi, (lst 4 n (rq4 a b u v)) = lst 4 n (rq4 a b u v), (lst 2 m fun k => [iI (p k), iI (q k)]) = lst 2 m fun k => [iI (p k), iI (q k)], pl = pl, ph = ph, dl = dl, dh = dh, u0 = u0, u1 = u1, wi = wi, day = day, Eq1 (AV.mp 31), c = c, T = T, lo = lo, hi = hi, (lst 4 n (rq4 a b u v)) = lst 4 n (rq4 a b u v), (lst 2 m fun k => [iI (p k), iI (q k)]) = lst 2 m fun k => [iI (p k), iI (q k)], pl = pl, ph = ph, dl = dl, dh = dh, Eq1 z7, Eq1 z11, day = day, Eq1 (ptr 0 0), Eq1 (ptr 1 0), Eq1 z12, Eq1 (0 : Int), Eq1 (ptr 33 0), Eq1 (ptr 47 0), Eq1 (0 : Int), Eq1 z8, Eq1 (AV.row 900), Eq1 (↑k : Int), Eq1 (↑n : Int), Eq1 (↑k : Int), Eq1 (AV.lit true), Eq1 (↑k : Int), Eq1 z8, Eq1 (ptr 47 0), whI n = whI n, Eq1 (↑k : Int), Eq1 ((1 : Int) * 2 ^ k), IntKind.wrap IntKind.i64 (↑(BitVec.toNat (BitVec.ofInt 64 (whI n) &&& ~~~BitVec.ofInt 64 ((1 : Int) * 2 ^ k))) : Int) = buI n k, agg [iI z5] = agg [iI (buI n k)]] (need [isRec 4 z10 fun q => [i (sg a (selL (buI n k) n) q), i (sg b (selL (buI n k) n) q), i (sg u (selL (buI n k) n) q), i (sg v (selL (buI n k) n) q)], isRec 2 m fun k => [Pt.i (p k), Pt.i (q k)]] (branch (decide (rdE c T lo hi z10 (sg a (selL (buI n k) n)) (sg b (selL (buI n k) n)) (sg u (selL (buI n k) n)) (sg v (selL (buI n k) n)) m p q pl ph dl dh = (0 : Int))) (branch ((0 : Int) == (0 : Int)) (need [drB z3, bdB z3, (1 : Int) ≤ c ∧ c ≤ (10 : Int), (0 : Int) ≤ u0 ∧ u0 ≤ u1 ∧ u1 ≤ (10 : Int), (0 : Int) ≤ wi ∧ wi ≤ (1000000 : Int), (0 : Int) ≤ day ∧ day ≤ (100000 : Int)] (need [MapKey Tryz.prog 198 enH z6 (Value.bool false), enH z6, Value.bool (keB c z3 u0 u1 wi day) = z2 z6] (branch (!keB c z3 u0 u1 wi day) z0 z1))) z9) (branch (rdE c T lo hi z10 (sg a (selL (buI n k) n)) (sg b (selL (buI n k) n)) (sg u (selL (buI n k) n)) (sg v (selL (buI n k) n)) m p q pl ph dl dh == (0 : Int)) Tree.fail z9)))))))) (need [Eq1 z7, Eq1 z11, day = day, Eq1 (ptr 0 0), Eq1 (ptr 1 0), Eq1 z12, Eq1 (0 : Int), Eq1 (ptr 33 0), Eq1 (ptr 47 0), Eq1 (0 : Int), Eq1 z8, Eq1 (AV.row 900), Eq1 (↑n : Int), List.length (z4 k) = List.length (z4 n), ∀ (i : Nat), i < List.length (z4 n) → [iI (nthJ (z4 k) i)] = [iI (nthJ (z4 n) i)], whI n = whI n, ∀ (k : Value), enH k → enH k ∧ z2 k = z2 k, c = c, T = T, lo = lo, hi = hi, (lst 4 n (rq4 a b u v)) = lst 4 n (rq4 a b u v), (lst 2 m fun k => [iI (p k), iI (q k)]) = lst 2 m fun k => [iI (p k), iI (q k)], pl = pl, ph = ph, dl = dl, dh = dh, u0 = u0, u1 = u1, wi = wi, day = day, Eq1 (AV.mp 31), c = c, T = T, lo = lo, hi = hi, (lst 4 n (rq4 a b u v)) = lst 4 n (rq4 a b u v), (lst 2 m fun k => [iI (p k), iI (q k)]) = lst 2 m fun k => [iI (p k), iI (q k)], pl = pl, ph = ph, dl = dl, dh = dh] (leaf (AEx.exit 0))))) := by kernel_rfl
  rw [e]
  simp only [T_ha, out_ha, Tree.sat, Option.getD_some] at hQ
  simp only [Tree.sat, allP, fitP, fitL, valEq, inI64, true_and, and_true, decide_eq_true_eq, decide_eq_false_iff_not, Int.toNat_natCast]
  clear e
  have eb : IntKind.i64.wrap ((BitVec.ofInt 64 (whI n) &&& ~~~BitVec.ofInt 64 (1 * 2 ^ k)).toNat : Int) = buI n k := rfl
  have ek : ∀ x : Int, keyI (Value.agg #[Value.int IntKind.i64 x]) = x := fun _ => rfl
  simp only [eb, ek]
  have hg : hgL c T lo hi n a b u v m p q pl ph dl dh u0 u1 wi day (k + 1) = if enB c T lo hi n a b u v m p q pl ph dl dh u0 u1 wi day (buI n k) then hgL c T lo hi n a b u v m p q pl ph dl dh u0 u1 wi day k else hgL c T lo hi n a b u v m p q pl ph dl dh u0 u1 wi day k ++ [(k : Int)] := rfl
  have hl := hgL_len c T lo hi n a b u v m p q pl ph dl dh u0 u1 wi day k
  have hc1 : ∀ x : Int, ∀ (j : Nat), j < 1 → ∀ y, y ∈ chunk 1 [iI x] j → AV.one y = true := fun x j _ y hy => one_of hy (by simp [AV.one, Value.oneCell'])
  have hE : enB c T lo hi n a b u v m p q pl ph dl dh u0 u1 wi day (buI n k) = (decide (rdE c T lo hi (selL (buI n k) n).length (sg a (selL (buI n k) n)) (sg b (selL (buI n k) n)) (sg u (selL (buI n k) n)) (sg v (selL (buI n k) n)) m p q pl ph dl dh = 0) && keB c (wkA c T lo hi (selL (buI n k) n).length (sg a (selL (buI n k) n)) (sg b (selL (buI n k) n)) (sg u (selL (buI n k) n)) (sg v (selL (buI n k) n)) m p q pl ph dl dh) u0 u1 wi day) := rfl
  have hF : enF c T lo hi n a b u v m p q pl ph dl dh u0 u1 wi day (Value.agg #[Value.int IntKind.i64 (buI n k)]) = .bool (enB c T lo hi n a b u v m p q pl ph dl dh u0 u1 wi day (buI n k)) := rfl
  have hH : enH (Value.agg #[Value.int IntKind.i64 (buI n k)]) := ⟨_, rfl⟩
  have mk := mapKey_en (buI n k)
  rw [hF]
  generalize selL (buI n k) n = L at hE ⊢
  generalize hgL c T lo hi n a b u v m p q pl ph dl dh u0 u1 wi day (k + 1) = H' at hg ⊢
  generalize hHk : hgL c T lo hi n a b u v m p q pl ph dl dh u0 u1 wi day k = H at hl hg ⊢
  generalize enB c T lo hi n a b u v m p q pl ph dl dh u0 u1 wi day (buI n k) = B at hE hg ⊢
  have yes : B = true → H' = H := fun h => by rw [hg, if_pos h]
  have no : B = false → H' = H ++ [(k : Int)] := fun h => by rw [hg, if_neg (by rw [h]; simp)]
  have hu := usB_iff.1 pre1
  refine ⟨fun h => ⟨⟨by omega, ?_⟩, mk, fun _ => ⟨fun h2 => ?_, fun h2 => ?_⟩, pre0, ⟨trivial, rfl, rfl, fun j hj => absurd hj (Nat.not_lt_zero _), trivial, fun _ _ => trivial, fun _ h => h, trivial, trivial⟩, ⟨Bo.isRec4 _ _ _ _ _, Pt.isRec2 _ _ _⟩, fun h3 => ⟨fun _ => ⟨?_, ⟨mk, hH, ?_⟩, fun h2 => ?_, fun h2 => ?_⟩, fun h2 => by simp at h2⟩, fun h3 => ⟨fun h2 => absurd (by simpa using h2) h3, fun _ => ⟨⟨mk, hH, ?_⟩, ?_⟩⟩⟩, fun h => ?_⟩
  ·have := pow12 (k := k) (by omega)
   omega
  ·rw [no (by simpa using h2), List.length_append]
   (repeat' first | with_reducible apply And.intro | with_reducible intro _)
   all_goals first | exact True.intro | omega | with_reducible rfl | exact hc1 _ _ (by assumption) _ (by assumption) | exact catJ1 (by assumption) | assumption | rfl
  ·rw [yes (by simpa using h2)]
   (repeat' first | with_reducible apply And.intro | with_reducible intro _)
   all_goals first | exact True.intro | omega | with_reducible rfl | exact hc1 _ _ (by assumption) _ (by assumption) | exact catJ1 (by assumption) | assumption | rfl
  ·have hw := wk_ok h3
   exact ⟨hw.1, hw.2.1, hw.2.2.1, by omega, by omega, by omega⟩
  ·rw [hE, decide_eq_true h3]
   rfl
  ·have hB : B = false := by
    rw [hE, decide_eq_true h3]
    simpa using h2
   rw [no hB, List.length_append]
   (repeat' first | with_reducible apply And.intro | with_reducible intro _)
   all_goals first | exact True.intro | omega | with_reducible rfl | exact hc1 _ _ (by assumption) _ (by assumption) | exact catJ1 (by assumption) | assumption | rfl
  ·have hB : B = true := by
    rw [hE, decide_eq_true h3]
    simpa using h2
   rw [yes hB]
   (repeat' first | with_reducible apply And.intro | with_reducible intro _)
   all_goals first | exact True.intro | omega | with_reducible rfl | exact hc1 _ _ (by assumption) _ (by assumption) | exact catJ1 (by assumption) | assumption | rfl
  ·rw [hE, decide_eq_false h3]
   rfl
  ·have hB : B = false := by
    rw [hE, decide_eq_false h3]
    rfl
   rw [no hB, List.length_append]
   (repeat' first | with_reducible apply And.intro | with_reducible intro _)
   all_goals first | exact True.intro | omega | with_reducible rfl | exact hc1 _ _ (by assumption) _ (by assumption) | exact catJ1 (by assumption) | assumption | rfl
  ·obtain rfl : k = n := by omega
   subst hHk
   (repeat' first | with_reducible apply And.intro | with_reducible intro _)
   all_goals first | exact True.intro | omega | with_reducible rfl | (rename_i E hE; cases hE; exact hQ) | assumption | rfl
def hgE (c T lo hi : Int) (n : Nat) (a b u v : Nat → Int) (m : Nat) (p q : Nat → Int) (pl ph dl dh : Int) (u0 u1 wi day : Int) : Int := if asE c T lo hi n a b u v m p q pl ph dl dh u0 u1 wi day = 0 then (if keB c (wkA c T lo hi n a b u v m p q pl ph dl dh) u0 u1 wi day then 0 else 10) else asE c T lo hi n a b u v m p q pl ph dl dh u0 u1 wi day
def hgR (c T lo hi : Int) (n : Nat) (a b u v : Nat → Int) (m : Nat) (p q : Nat → Int) (pl ph dl dh : Int) (u0 u1 wi day : Int) : List Int := if hgE c T lo hi n a b u v m p q pl ph dl dh u0 u1 wi day = 0 then hgL c T lo hi n a b u v m p q pl ph dl dh u0 u1 wi day n else []
theorem Hangs_at (c T lo hi : Int) (n : Nat) (a b u v : Nat → Int) (m : Nat) (p q : Nat → Int) (pl ph dl dh : Int) (u0 u1 wi day : Int) : SoundAt Tryz.prog 54 [.agg [i c, i T, i lo, i hi, rds n a b u v, Pt.scs m p q, i pl, i ph, i dl, i dh], .agg [i u0, i u1, i wi], i day] (.tup [.lst 1 (hgR c T lo hi n a b u v m p q pl ph dl dh u0 u1 wi day).length (fun j => [i (nthJ (hgR c T lo hi n a b u v m p q pl ph dl dh u0 u1 wi day) j)]), i (hgE c T lo hi n a b u v m p q pl ph dl dh u0 u1 wi day)]) := by
 refine soundAt_finX (G := []) (X := { R := [], H := [(93, H_trial), (94, (H_en c T lo hi n a b u v m p q pl ph dl dh u0 u1 wi day))] }) (L := [needSp [n ≤ 12, usB c u0 u1 wi = true, 0 ≤ day ∧ day ≤ 10000] (LS_ha c T lo hi n a b u v m p q pl ph dl dh u0 u1 wi day)]) (SoundG.nil _) (SoundX.of (SoundRL.nil _) (SoundHL.cons trial_okH (SoundHL.cons (en_okH c T lo hi n a b u v m p q pl ph dl dh u0 u1 wi day) (SoundHL.nil _)))) mixed Tryz.func54 (show Tryz.f54.body = some (bodyOf Tryz.f54) by kernel_rfl) (one_loop (lpE (b := .loop B_ha) (by kernel_rfl) <| (needSp_sound (ps := [n ≤ 12, usB c u0 u1 wi = true, 0 ≤ day ∧ day ≤ 10000]) (fun h => ha_ls c T lo hi n a b u v m p q pl ph dl dh u0 u1 wi day h.1 h.2.1 h.2.2)).N)) (t := (let z9 := (hgL c T lo hi n a b u v m p q pl ph dl dh u0 u1 wi day n); let z0 := (leaf (RV.tup [RV.lst 1 (List.length z9) fun j => [iI (nthJ z9 j)], RV.x (Value.int IntKind.i64 (0 : Int))])); let z1 := (hgL c T lo hi n a b u v m p q pl ph dl dh u0 u1 wi day 0); let z2 := (agg [iI c, iI T, iI lo, iI hi, lst 4 n (rq4 a b u v), lst 2 m fun k => [iI (p k), iI (q k)], iI pl, iI ph, iI dl, iI dh]); let z3 := asE c T lo hi n a b u v m p q pl ph dl dh u0 u1 wi day; let z4 := (lst 4 n (rq4 a b u v)); let z5 := (leaf (RV.tup [RV.x (Value.slice none 0 0), RV.x (Value.int IntKind.i64 (0 : Int))])); let z6 := (agg [iI u0, iI u1, iI wi]); let z7 := (wkA c T lo hi n a b u v m p q pl ph dl dh); let z8 := (AV.x (Value.slice none 0 0)); (need [isRec 4 n fun k => [Bo.i (a k), Bo.i (b k), Bo.i (u k), Bo.i (v k)], isRec 2 m fun k => [Pt.i (p k), Pt.i (q k)]] (branch (decide (z3 = (0 : Int))) (branch ((0 : Int) != (0 : Int)) (branch ((0 : Int) != (0 : Int)) z5 (need [n ≤ 12, usB c u0 u1 wi = true, (0 : Int) ≤ day ∧ day ≤ (10000 : Int)] (need [Eq1 z2, Eq1 z6, day = day, Eq1 (ptr 0 0), Eq1 (ptr 1 0), Eq1 z8, Eq1 (0 : Int), AV.x (Value.pointer none) = ptr 33 0, ptr 32 0 = ptr 47 0, Eq1 (0 : Int), AV.fn (Fn.func 94) [AV.x (Value.pointer none)] [] = AV.fn (Fn.func 94) [ptr 33 0] [], Eq1 (AV.row 900), Eq1 (↑n : Int), (0 : Int) = (↑(0 : Nat) : Int), 0 = List.length z1, ∀ (i : Nat), i < List.length z1 → [] = [iI (nthJ z1 i)], False, False, False, c = c, T = T, lo = lo, hi = hi, z4 = lst 4 n (rq4 a b u v), (lst 2 m fun k => [iI (p k), iI (q k)]) = lst 2 m fun k => [iI (p k), iI (q k)], pl = pl, ph = ph, dl = dl, dh = dh] z0))) (need [drB z7, bdB z7, (1 : Int) ≤ c ∧ c ≤ (10 : Int), (0 : Int) ≤ u0 ∧ u0 ≤ u1 ∧ u1 ≤ (10 : Int), (0 : Int) ≤ wi ∧ wi ≤ (1000000 : Int), (0 : Int) ≤ day ∧ day ≤ (100000 : Int)] (branch (!keB c z7 u0 u1 wi day) (branch ((10 : Int) != (0 : Int)) (leaf (RV.tup [RV.x (Value.slice none 0 0), RV.x (Value.int IntKind.i64 (10 : Int))])) (need [n ≤ 12, usB c u0 u1 wi = true, (0 : Int) ≤ day ∧ day ≤ (10000 : Int)] (need [Eq1 z2, Eq1 z6, day = day, Eq1 (ptr 0 0), Eq1 (ptr 1 0), Eq1 z8, Eq1 (0 : Int), AV.x (Value.pointer none) = ptr 33 0, ptr 36 0 = ptr 47 0, (10 : Int) = 0, AV.fn (Fn.func 94) [AV.x (Value.pointer none)] [] = AV.fn (Fn.func 94) [ptr 33 0] [], Eq1 (AV.row 900), Eq1 (↑n : Int), (0 : Int) = (↑(0 : Nat) : Int), 0 = List.length z1, ∀ (i : Nat), i < List.length z1 → [] = [iI (nthJ z1 i)], False, False, False, c = c, T = T, lo = lo, hi = hi, z4 = lst 4 n (rq4 a b u v), (lst 2 m fun k => [iI (p k), iI (q k)]) = lst 2 m fun k => [iI (p k), iI (q k)], pl = pl, ph = ph, dl = dl, dh = dh] z0))) (need [(0 : Int) ≤ (↑n : Int) ∧ (↑n : Int) ≤ 64, inI64 ((1 : Int) * 2 ^ n)] (need [inI64 ((1 : Int) * 2 ^ n - (1 : Int))] (branch ((0 : Int) != (0 : Int)) z5 (need [n ≤ 12, usB c u0 u1 wi = true, (0 : Int) ≤ day ∧ day ≤ (10000 : Int)] (need [Eq1 z2, Eq1 z6, day = day, Eq1 (ptr 0 0), Eq1 (ptr 1 0), Eq1 z8, Eq1 (0 : Int), Eq1 (ptr 33 0), Eq1 (ptr 47 0), Eq1 (0 : Int), Eq1 (AV.fn (Fn.func 94) [ptr 33 0] []), Eq1 (AV.row 900), Eq1 (↑n : Int), (0 : Int) = (↑(0 : Nat) : Int), 0 = List.length z1, ∀ (i : Nat), i < List.length z1 → [] = [iI (nthJ z1 i)], (1 : Int) * 2 ^ n - (1 : Int) = whI n, ∀ (k : Value), False → enH k ∧ k = enF c T lo hi n a b u v m p q pl ph dl dh u0 u1 wi day k, c = c, T = T, lo = lo, hi = hi, z4 = lst 4 n (rq4 a b u v), (lst 2 m fun k => [iI (p k), iI (q k)]) = lst 2 m fun k => [iI (p k), iI (q k)], pl = pl, ph = ph, dl = dl, dh = dh, u0 = u0, u1 = u1, wi = wi, day = day, Eq1 (AV.mp 31), c = c, T = T, lo = lo, hi = hi, z4 = lst 4 n (rq4 a b u v), (lst 2 m fun k => [iI (p k), iI (q k)]) = lst 2 m fun k => [iI (p k), iI (q k)], pl = pl, ph = ph, dl = dl, dh = dh] z0)))))))) (branch (z3 != (0 : Int)) (branch (z3 != (0 : Int)) (leaf (RV.tup [RV.x (Value.slice none 0 0), RV.x (Value.int IntKind.i64 (z3))])) (need [n ≤ 12, usB c u0 u1 wi = true, (0 : Int) ≤ day ∧ day ≤ (10000 : Int)] (need [Eq1 z2, Eq1 z6, day = day, Eq1 (ptr 0 0), Eq1 (ptr 1 0), Eq1 z8, Eq1 (0 : Int), AV.x (Value.pointer none) = ptr 33 0, ptr 32 0 = ptr 47 0, z3 = (0 : Int), AV.fn (Fn.func 94) [AV.x (Value.pointer none)] [] = AV.fn (Fn.func 94) [ptr 33 0] [], Eq1 (AV.row 900), Eq1 (↑n : Int), (0 : Int) = (↑(0 : Nat) : Int), 0 = List.length z1, ∀ (i : Nat), i < List.length z1 → [] = [iI (nthJ z1 i)], False, False, False, c = c, T = T, lo = lo, hi = hi, z4 = lst 4 n (rq4 a b u v), (lst 2 m fun k => [iI (p k), iI (q k)]) = lst 2 m fun k => [iI (p k), iI (q k)], pl = pl, ph = ph, dl = dl, dh = dh] z0))) Tree.fail))))) (by kernel_rfl) ?_
 simp only [Tree.sat, allP, fitP, fitL, valEq, true_and, and_true, decide_eq_true_eq, decide_eq_false_iff_not, bne_iff_ne, ne_eq, bne_eq_false_iff_eq, beq_iff_eq, beq_eq_false_iff_ne, Bool.not_eq_true', Bool.not_eq_false', not_true_eq_false, false_imp_iff, true_imp_iff]
 have ISR : (isRec 4 n fun k => [Bo.i (a k), Bo.i (b k), Bo.i (u k), Bo.i (v k)]) ∧ isRec 2 m fun k => [Pt.i (p k), Pt.i (q k)] := ⟨Bo.isRec4 n a b u v, Pt.isRec2 m p q⟩
 have eR : hgE c T lo hi n a b u v m p q pl ph dl dh u0 u1 wi day = 0 → hgR c T lo hi n a b u v m p q pl ph dl dh u0 u1 wi day = hgL c T lo hi n a b u v m p q pl ph dl dh u0 u1 wi day n := fun h => if_pos h
 have eN : ∀ k : Int, hgE c T lo hi n a b u v m p q pl ph dl dh u0 u1 wi day = k → k ≠ 0 → (isNil (Value.slice none 0 0) ∧ (hgR c T lo hi n a b u v m p q pl ph dl dh u0 u1 wi day).length = 0) ∧ k = hgE c T lo hi n a b u v m p q pl ph dl dh u0 u1 wi day := fun k h hk => by
  refine ⟨⟨by trivial, ?_⟩, h.symm⟩
  unfold hgR
  rw [if_neg (by rw [h]; exact hk)]
  rfl
 refine ⟨ISR, fun h => ⟨?_, fun h' => ⟨fun _ => eN 10 ?_ (by decide), fun h2 => absurd h2 (by decide)⟩, fun h' => ?_⟩, fun h => ⟨fun _ => ⟨fun _ => eN _ (if_neg h) h, fun h2 => absurd h2 h⟩, fun h2 => h h2⟩⟩
 ·obtain ⟨h1, h2, h3⟩ := asE_0 h
  have hw := wk_ok h1
  have hu := usB_iff.1 h2
  exact ⟨hw.1, hw.2.1, hw.2.2.1, by omega, by omega, by omega⟩
 ·unfold hgE
  rw [if_pos h, h']
  rfl
 ·obtain ⟨h1, h2, h3⟩ := asE_0 h
  have hn := (rdE_0 h1).1
  have hp := pow12 hn
  have h0 : hgE c T lo hi n a b u v m p q pl ph dl dh u0 u1 wi day = 0 := by
   unfold hgE
   rw [if_pos h, h']
   rfl
  rw [eR h0, h0]
  refine ⟨⟨by omega, ?_⟩, ?_, ⟨hn, h2, h3⟩, ⟨rfl, rfl, fun j hj => absurd hj (Nat.not_lt_zero _), rfl, fun _ => trivial⟩, ⟨rfl, fun j hj => ⟨rfl, fun x hx => ?_⟩⟩, rfl⟩
  ·simp only [inI64] at *
   omega
  ·simp only [inI64] at *
   omega
  ·cases List.mem_singleton.1 hx
   exact True.intro
def S_Hangs : Sx.Spec := fun l => match l with
 | [.agg [.x (.int .i64 c), .x (.int .i64 T), .x (.int .i64 lo), .x (.int .i64 hi), .lst 4 n fr, .lst 2 m ft, .x (.int .i64 pl), .x (.int .i64 ph), .x (.int .i64 dl), .x (.int .i64 dh)], .agg [.x (.int .i64 u0), .x (.int .i64 u1), .x (.int .i64 wi)], .x (.int .i64 day)] => some ([isRec 4 n fr, isRec 2 m ft], .tup [.lst 1 (hgR c T lo hi n (col 0 fr) (col 1 fr) (col 2 fr) (col 3 fr) m (Pt.col 0 ft) (Pt.col 1 ft) pl ph dl dh u0 u1 wi day).length (fun j => [i (nthJ (hgR c T lo hi n (col 0 fr) (col 1 fr) (col 2 fr) (col 3 fr) m (Pt.col 0 ft) (Pt.col 1 ft) pl ph dl dh u0 u1 wi day) j)]), i (hgE c T lo hi n (col 0 fr) (col 1 fr) (col 2 fr) (col 3 fr) m (Pt.col 0 ft) (Pt.col 1 ft) pl ph dl dh u0 u1 wi day)])
 | _ => none
theorem Hangs_ok : SoundSpec Tryz.prog 54 S_Hangs := by
 refine ⟨⟨_, Tryz.func54, by kernel_rfl, by kernel_rfl⟩, ?_⟩
 intro avs ns res h hn
 unfold S_Hangs at h
 split at h
 ·cases h
  have hr : isRec 4 _ _ := hn _ List.mem_cons_self
  have ht : isRec 2 _ _ := hn _ (List.mem_cons_of_mem _ List.mem_cons_self)
  exact (Hangs_at _ _ _ _ _ _ _ _ _ _ _ _ _ _ _ _ _ _ _ _ ).same (.cons (Sames.same (.cons (.refl _) (.cons (.refl _) (.cons (.refl _) (.cons (.refl _) (.cons (.lst 4 _ _ _ hr) (.cons (.lst 2 _ _ _ ht) (.cons (.refl _) (.cons (.refl _) (.cons (.refl _) (.cons (.refl _) .nil))))))))))) (.cons (.refl _) (.cons (.refl _) .nil)))
 ·cases h
end Go.Proofs.YtlinbkmpkcmniaaGreat
namespace Go.Proofs.YtlinbkmpkcmniaaGreat
open Go Go.Sx Go.RowKit Bo
open Go.Sx.Tree (need branch leaf)
open Go.Sx.AV (lst ptr agg roI tup top)
def S_between : Sx.Spec := fun l => match l with
 | [.x (.int .i64 a), .x (.int .i64 b)] => some ([], .agg [i a, i b])
 | _ => none
theorem between_at (a b : Int) : SoundAt Tryz.prog 38 [i a, i b] (.agg [i a, i b]) := by
 refine soundAt_fin (G := []) (L := []) (SoundG.nil _) mixed Tryz.func38 (show Tryz.f38.body = some (bodyOf Tryz.f38) by kernel_rfl) noLoops (t := (leaf (RV.agg [RV.x (Value.int IntKind.i64 a), RV.x (Value.int IntKind.i64 b)]))) (by kernel_rfl) ?_
 simp only [Tree.sat, allP, fitP, fitL, valEq, inI64, true_and, and_true]
 all_goals first | omega | grind
theorem between_ok : SoundSpec Tryz.prog 38 S_between := by
 refine ⟨⟨_, Tryz.func38, by kernel_rfl, by kernel_rfl⟩, ?_⟩
 intro avs ns res h hn
 unfold S_between at h
 split at h
 ·cases h
  exact between_at _ _
 ·cases h
def S_whole : Sx.Spec := fun l => match l with
 | [.x (.int .i64 w)] => some ([], .agg [i 0, i 4, i w])
 | _ => none
theorem whole_at (w : Int) : SoundAt Tryz.prog 63 [i w] (.agg [i 0, i 4, i w]) := by
 refine soundAt_fin (G := []) (L := []) (SoundG.nil _) mixed Tryz.func63 (show Tryz.f63.body = some (bodyOf Tryz.f63) by kernel_rfl) noLoops (t := (leaf (RV.agg [RV.x (Value.int IntKind.i64 (0 : Int)), RV.x (Value.int IntKind.i64 (4 : Int)), RV.x (Value.int IntKind.i64 w)]))) (by kernel_rfl) ?_
 simp only [Tree.sat, allP, fitP, fitL, valEq, inI64, true_and, and_true]
 all_goals first | omega | grind
theorem whole_ok : SoundSpec Tryz.prog 63 S_whole := by
 refine ⟨⟨_, Tryz.func63, by kernel_rfl, by kernel_rfl⟩, ?_⟩
 intro avs ns res h hn
 unfold S_whole at h
 split at h
 ·cases h
  exact whole_at _
 ·cases h
def S_glass : Sx.Spec := fun l => match l with
 | [] => some ([], .agg [i 4, i 100, i 20, i 30, .lst 4 2 (chunk 4 [i 0, i 1, i 40, i 40, i 2, i 3, i 48, i 50]), .lst 2 3 (chunk 2 [i 720, i 985, i 760, i 1000, i 800, i 1014]), i 760, i 760, i 1, i 3])
 | _ => none
theorem glass_at  : SoundAt Tryz.prog 62 [] (.agg [i 4, i 100, i 20, i 30, .lst 4 2 (chunk 4 [i 0, i 1, i 40, i 40, i 2, i 3, i 48, i 50]), .lst 2 3 (chunk 2 [i 720, i 985, i 760, i 1000, i 800, i 1014]), i 760, i 760, i 1, i 3]) := by
 refine soundAt_fin (G := [(38, S_between)]) (L := []) (SoundG.cons between_ok (SoundG.nil _)) mixed Tryz.func62 (show Tryz.f62.body = some (bodyOf Tryz.f62) by kernel_rfl) noLoops (t := (leaf (RV.agg [RV.x (Value.int IntKind.i64 (4 : Int)), RV.x (Value.int IntKind.i64 (100 : Int)), RV.x (Value.int IntKind.i64 (20 : Int)), RV.x (Value.int IntKind.i64 (30 : Int)), RV.lst 4 2 (chunk 4 [iI (0 : Int), iI (1 : Int), iI (40 : Int), iI (40 : Int), iI (2 : Int), iI (3 : Int), iI (48 : Int), iI (50 : Int)]), RV.lst 2 3 (chunk 2 [iI (720 : Int), iI (985 : Int), iI (760 : Int), iI (1000 : Int), iI (800 : Int), iI (1014 : Int)]), RV.x (Value.int IntKind.i64 (760 : Int)), RV.x (Value.int IntKind.i64 (760 : Int)), RV.x (Value.int IntKind.i64 (1 : Int)), RV.x (Value.int IntKind.i64 (3 : Int))]))) (by kernel_rfl) ?_
 simp only [Tree.sat, allP, fitP, fitL, valEq, true_and, and_true]
 refine ⟨fun _ _ x hm => ?_, fun _ _ x hm => ?_⟩
 all_goals
  have hm := chunk_mem hm
  simp only [List.mem_cons, List.not_mem_nil, or_false] at hm
  (repeat' rcases hm with rfl | hm) <;> first | exact True.intro | (subst hm; exact True.intro)
theorem glass_ok : SoundSpec Tryz.prog 62 S_glass := by
 refine ⟨⟨_, Tryz.func62, by kernel_rfl, by kernel_rfl⟩, ?_⟩
 intro avs ns res h hn
 unfold S_glass at h
 split at h
 ·cases h
  exact glass_at 
 ·cases h
noncomputable def E_nt (n m : Nat) (a b : Nat → Int) : St := (some { σ := [lst 1 n fun k => [iI (a k)], lst 1 m fun k => [iI (b k)]] ++ tpL 24 [], m := [], nx := 7 } : Option St).getD { σ := [], m := [], nx := 0 }
noncomputable def B_nt : Code := loopBody (loopAt (bodyOf Tryz.f59) 0)
noncomputable def inv_nt (n m : Nat) (a b : Nat → Int) (k : Nat) : St := { σ := ovrS [(5, i k)] (E_nt n m a b).σ, m := (E_nt n m a b).m, nx := (E_nt n m a b).nx }
noncomputable def out_nt (n m : Nat) (a b : Nat → Int) (k : Nat) : AEx → Option St := fun ex => match ex with
 | .exit 0 => some { σ := ovrS [] (E_nt n m a b).σ, m := (E_nt n m a b).m, nx := (E_nt n m a b).nx }
 | .ret => some { σ := ovrS [(4, .lit false)] (E_nt n m a b).σ, m := (E_nt n m a b).m, nx := (E_nt n m a b).nx }
 | _ => none
noncomputable def T_nt (n m : Nat) (a b : Nat → Int) : CT := .branch (allI ((fun k => a k == b k)) n) (.leaf (.exit 0, ( out_nt n m a b 0 (.exit 0)).getD (E_nt n m a b))) (.leaf (.ret, ( out_nt n m a b 0 .ret).getD (E_nt n m a b)))
noncomputable def LS_nt (n m : Nat) (a b : Nat → Int) : LSpec := (sumL (inv_nt n m a b (0)) (T_nt n m a b))
theorem nt_ls (n m : Nat) (a b : Nat → Int) (pre0 : n ≤ 100000) (pre1 : n = m) : LSound Tryz.prog (.loop B_nt) (LS_nt n m a b) := by
 refine loop_rounds (G := []) (L := []) (SoundG.nil _) mixed noLoops (X := Nat) (inv_nt n m a b) (fun k => k ≤ n ∧ ∀ j, j < k → ((fun k => a k == b k)) j = true) (fun k => n - k) (out_nt n m a b) (x0 := 0) ⟨by omega, fun j hj => by omega⟩ ?_ ?_ ?_
 ·rintro k
  kernel_rfl
 ·rintro k y E h
  unfold out_nt at h
  split at h
  ·cases h; kernel_rfl
  ·cases h; kernel_rfl
  ·cases h
 ·rintro Q hQ k hx
  refine ⟨(k + 1), ?_⟩
  have e : roundT Tryz.prog [] [] B_nt (inv_nt n m a b k) (inv_nt n m a b ((k + 1))) (out_nt n m a b k) = (let z0 := (lst 1 n fun k => [iI (a k)]); (branch (decide ((↑k : Int) < (↑n : Int))) (need [(0 : Int) ≤ (↑k : Int) ∧ (↑k : Int) < (↑n : Int)] (need [(0 : Int) ≤ (↑k : Int) ∧ (↑k : Int) < (↑m : Int)] (branch (a k != b k) (need [z0 = lst 1 n fun k => [iI (a k)], (lst 1 m fun k => [iI (b k)]) = lst 1 m fun k => [iI (b k)], Eq1 (AV.lit false)] (leaf AEx.ret)) (need [inI64 ((↑k : Int) + 1)] (need [z0 = lst 1 n fun k => [iI (a k)], (lst 1 m fun k => [iI (b k)]) = lst 1 m fun k => [iI (b k)], (↑k : Int) + 1 = (↑(k + 1) : Int)] (leaf AEx.normal)))))) (need [z0 = lst 1 n fun k => [iI (a k)], (lst 1 m fun k => [iI (b k)]) = lst 1 m fun k => [iI (b k)]] (leaf (AEx.exit 0))))) := by kernel_rfl
  rw [e]
  simp only [T_nt, out_nt, Tree.sat, Option.getD_some] at hQ
  have hbad : k < n → ((fun k => a k == b k)) k = false → allI ((fun k => a k == b k)) n = false := by
   intro h1 h2
   rw [← Bool.not_eq_true]
   intro h3
   have := allI_iff.1 h3 k h1
   exact Bool.noConfusion (h2.symm.trans this)
  have hgood : ((fun k => a k == b k)) k = true → ∀ j, j < k + 1 → ((fun k => a k == b k)) j = true := by
   intro h1 j hj
   rcases (show j < k ∨ j = k by omega) with h | rfl
   ·exact hx.2 j h
   ·exact h1
  have hend : ¬ k < n → allI ((fun k => a k == b k)) n = true := fun h => allI_iff.2 (fun j hj => hx.2 j (by omega))
  have hQ1 : ∀ E, out_nt n m a b k .ret = some E → allI ((fun k => a k == b k)) n = false → Q (.ret, E) := by
   intro E hE hf
   cases hE
   exact hQ.2 hf
  have hQ2 : ∀ E, out_nt n m a b k (.exit 0) = some E → allI ((fun k => a k == b k)) n = true → Q (.exit 0, E) := by
   intro E hE hf
   cases hE
   exact hQ.1 hf
  simp only [Tree.sat, allP, true_and, and_true, decide_eq_true_eq, decide_eq_false_iff_not, inI64, Int.toNat_natCast]
  
  clear e
  repeat' first | with_reducible apply And.intro | with_reducible intro _
  all_goals first | exact True.intro | omega | exact hQ1 _ (by assumption) (hbad (by omega) (by simp_all)) | exact hQ2 _ (by assumption) (hend (by omega)) | exact hgood (by simp_all) _ (by assumption)
theorem lints_at (n m : Nat) (a b : Nat → Int) (pre0 : n ≤ 100000) : SoundAt Tryz.prog 59 [.lst 1 n (fun k => [i (a k)]), .lst 1 m (fun k => [i (b k)])] (bl (decide (n = m) && allI (fun k => a k == b k) n)) := by
 refine soundAt_fin (G := []) (L := [needSp [n ≤ 100000, n = m] (LS_nt n m a b)]) (SoundG.nil _) mixed Tryz.func59 (show Tryz.f59.body = some (bodyOf Tryz.f59) by kernel_rfl) (one_loop (lpE (b := .loop B_nt) (by kernel_rfl) <| needSp_sound (fun h => nt_ls n m a b h.1 h.2))) (t := (branch ((↑n : Int) != (↑m : Int)) (leaf (RV.x (Value.bool false))) (need [n ≤ 100000, n = m] (need [(lst 1 n fun k => [iI (a k)]) = lst 1 n fun k => [iI (a k)], (lst 1 m fun k => [iI (b k)]) = lst 1 m fun k => [iI (b k)], (0 : Int) = (↑(0 : Nat) : Int)] (branch (allI (fun k => a k == b k) n) (leaf (RV.x (Value.bool true))) (leaf (RV.x (Value.bool false)))))))) (by kernel_rfl) ?_
 simp only [Tree.sat, allP, fitP, fitL, valEq, inI64, true_and, and_true, decide_eq_true_eq, decide_eq_false_iff_not, Int.natCast_zero, Int.toNat_natCast, bne_iff_ne, ne_eq]
 refine ⟨fun h => ?_, fun h => ?_⟩
 ·have : n ≠ m := by intro h'; subst h'; simp at h
  simp [this]
 ·have e : n = m := by
   rw [bne_eq_false_iff_eq] at h
   omega
  subst e
  refine ⟨⟨by omega, rfl⟩, fun h2 => ?_, fun h2 => ?_⟩
  ·simp [h2]
  ·simp [h2]
def S_lints : Sx.Spec := fun l => match l with
 | [.lst 1 n f, .lst 1 m g] => some ([isRec 1 n f, isRec 1 m g, n ≤ 100000], bl (decide (n = m) && allI (fun k => col 0 f k == col 0 g k) n))
 | _ => none
theorem lints_ok : SoundSpec Tryz.prog 59 S_lints := by
 refine ⟨⟨_, Tryz.func59, by kernel_rfl, by kernel_rfl⟩, ?_⟩
 intro avs ns res h hn
 unfold S_lints at h
 split at h
 ·rename_i n f m g
  cases h
  have hr0 : isRec 1 n f := hn _ (by simp)
  have hr1 : isRec 1 m g := hn _ (by simp)
  exact (lints_at n m (col 0 f) (col 0 g) (hn _ (by simp))).same (.cons (.lst 1 n _ _ hr0) (.cons (.lst 1 m _ _ hr1) .nil))
 ·cases h
theorem dyHi_spec (p : Nat → Bool) : ∀ N, (dyHi p N = -1 ∧ ∀ k, k < N → p k = false) ∨ ∃ h : Nat, h < N ∧ p h = true ∧ dyHi p N = h ∧ ∀ k, h < k → k < N → p k = false
 | 0 => .inl ⟨rfl, fun k h => absurd h (Nat.not_lt_zero _)⟩
 | N + 1 => by
  have e : dyHi p (N + 1) = if p N then max (dyHi p N) N else dyHi p N := rfl
  have ih := dyHi_spec p N
  cases hp : p N with
  | true =>
   refine .inr ⟨N, by omega, hp, ?_, fun k h1 h2 => by omega⟩
   rw [e, if_pos hp]
   rcases ih with ⟨h, _⟩ | ⟨h, h1, _, h2, _⟩ <;> omega
  | false =>
   rw [if_neg (by rw [hp]; simp)] at e
   rw [e]
   have ext : ∀ k, k < N + 1 → k ≠ N → k < N := fun k h1 h2 => by omega
   rcases ih with ⟨h, h1⟩ | ⟨h, h1, h2, h3, h4⟩
   ·refine .inl ⟨h, fun k hk => ?_⟩
    by_cases hkN : k = N
    ·rw [hkN, hp]
    ·exact h1 k (ext k hk hkN)
   ·refine .inr ⟨h, by omega, h2, h3, fun k hk hk2 => ?_⟩
    by_cases hkN : k = N
    ·rw [hkN, hp]
    ·exact h4 k hk (ext k hk2 hkN)
theorem dyLo_spec (p : Nat → Bool) : ∀ N, N ≤ 10001 → (dyLo p N = 10001 ∧ ∀ k, k < N → p k = false) ∨ ∃ h : Nat, h < N ∧ p h = true ∧ dyLo p N = h ∧ ∀ k, k < h → p k = false
 | 0, _ => .inl ⟨rfl, fun k h => absurd h (Nat.not_lt_zero _)⟩
 | N + 1, hN => by
  have e : dyLo p (N + 1) = if p N then min (dyLo p N) N else dyLo p N := rfl
  have ih := dyLo_spec p N (by omega)
  cases hp : p N with
  | true =>
   rw [if_pos hp] at e
   rcases ih with ⟨h, h1⟩ | ⟨h, h1, h2, h3, h4⟩
   ·exact .inr ⟨N, by omega, hp, by omega, h1⟩
   ·exact .inr ⟨h, by omega, h2, by omega, h4⟩
  | false =>
   rw [if_neg (by rw [hp]; simp)] at e
   rw [e]
   rcases ih with ⟨h, h1⟩ | ⟨h, h1, h2, h3, h4⟩
   ·refine .inl ⟨h, fun k hk => ?_⟩
    by_cases hkN : k = N
    ·rw [hkN, hp]
    ·exact h1 k (by omega)
   ·exact .inr ⟨h, by omega, h2, h3, h4⟩
theorem dy_range {p : Nat → Bool} {h : Nat} (h1 : h < nD) (hp : ∀ k, k < nD → (p k = true ↔ k ≤ h)) : dyLo p nD = 0 ∧ dyHi p nD = h := by
 have hn : nD = 10001 := rfl
 constructor
 ·rcases dyLo_spec p nD (Nat.le_refl _) with ⟨_, h3⟩ | ⟨l, h3, h4, h5, h6⟩
  ·have := h3 0 (by omega)
   rw [(hp 0 (by omega)).2 (Nat.zero_le _)] at this
   cases this
  ·rcases Nat.eq_zero_or_pos l with rfl | hl
   ·exact h5
   ·have := h6 0 hl
    rw [(hp 0 (by omega)).2 (Nat.zero_le _)] at this
    cases this
 ·rcases dyHi_spec p nD with ⟨_, h3⟩ | ⟨l, h3, h4, h5, h6⟩
  ·have := h3 h h1
   rw [(hp h h1).2 (Nat.le_refl _)] at this
   cases this
  ·have h7 := (hp l h3).1 h4
   rcases Nat.lt_or_ge l h with hl | hl
   ·have := h6 h hl h1
    rw [(hp h h1).2 (Nat.le_refl _)] at this
    cases this
   ·rw [h5]
    omega
abbrev glA0 : Nat → Int := col 0 (chunk 4 [iI 0, iI 1, iI 40, iI 40, iI 2, iI 3, iI 48, iI 50])
abbrev glA1 : Nat → Int := col 1 (chunk 4 [iI 0, iI 1, iI 40, iI 40, iI 2, iI 3, iI 48, iI 50])
abbrev glA2 : Nat → Int := col 2 (chunk 4 [iI 0, iI 1, iI 40, iI 40, iI 2, iI 3, iI 48, iI 50])
abbrev glA3 : Nat → Int := col 3 (chunk 4 [iI 0, iI 1, iI 40, iI 40, iI 2, iI 3, iI 48, iI 50])
abbrev glB0 : Nat → Int := Pt.col 0 (chunk 2 [iI 720, iI 985, iI 760, iI 1000, iI 800, iI 1014])
abbrev glB1 : Nat → Int := Pt.col 1 (chunk 2 [iI 720, iI 985, iI 760, iI 1000, iI 800, iI 1014])
theorem gl_w2 : wkA 4 100 20 30 2 glA0 glA1 glA2 glA3 3 glB0 glB1 760 760 1 3 2 = 1 := by decide +kernel
theorem gl_w3 : wkA 4 100 20 30 2 glA0 glA1 glA2 glA3 3 glB0 glB1 760 760 1 3 3 = 3 := by decide +kernel
theorem gl_w4 : wkA 4 100 20 30 2 glA0 glA1 glA2 glA3 3 glB0 glB1 760 760 1 3 4 = 0 := by decide +kernel
theorem gl_w5 : wkA 4 100 20 30 2 glA0 glA1 glA2 glA3 3 glB0 glB1 760 760 1 3 5 = 0 := by decide +kernel
theorem gl_w6 : wkA 4 100 20 30 2 glA0 glA1 glA2 glA3 3 glB0 glB1 760 760 1 3 6 = 200 := by decide +kernel
theorem gl_w7 : wkA 4 100 20 30 2 glA0 glA1 glA2 glA3 3 glB0 glB1 760 760 1 3 7 = 300 := by decide +kernel
theorem gl_w8 : wkA 4 100 20 30 2 glA0 glA1 glA2 glA3 3 glB0 glB1 760 760 1 3 8 = 410 := by decide +kernel
theorem gl_w9 : wkA 4 100 20 30 2 glA0 glA1 glA2 glA3 3 glB0 glB1 760 760 1 3 9 = 510 := by decide +kernel
theorem gl_w10 : wkA 4 100 20 30 2 glA0 glA1 glA2 glA3 3 glB0 glB1 760 760 1 3 10 = 700 := by decide +kernel
theorem gl_w11 : wkA 4 100 20 30 2 glA0 glA1 glA2 glA3 3 glB0 glB1 760 760 1 3 11 = 800 := by decide +kernel
theorem gl_w12 : wkA 4 100 20 30 2 glA0 glA1 glA2 glA3 3 glB0 glB1 760 760 1 3 12 = 1000 := by decide +kernel
theorem gl_w13 : wkA 4 100 20 30 2 glA0 glA1 glA2 glA3 3 glB0 glB1 760 760 1 3 13 = 1000 := by decide +kernel
theorem gl_hd : (hdE 4 100 20 30 2 glA0 glA1 glA2 glA3 3 glB0 glB1 760 760 1 3 0 == 0) = true := by decide +kernel
theorem gl_hn : (((hdN 4 100 20 30 2 glA0 glA1 glA2 glA3 3 glB0 glB1 760 760 1 3 0 : Nat) : Int) == 5) = true := by decide +kernel
theorem gl_h1 : (onL (wkA 4 100 20 30 2 glA0 glA1 glA2 glA3 3 glB0 glB1 760 760 1 3) (Int.toNat 1) 0 == 200 && (onH (wkA 4 100 20 30 2 glA0 glA1 glA2 glA3 3 glB0 glB1 760 760 1 3) (Int.toNat 1) 0 == 300 && true)) = true := by decide +kernel
theorem gl_h2 : (onL (wkA 4 100 20 30 2 glA0 glA1 glA2 glA3 3 glB0 glB1 760 760 1 3) (Int.toNat 2) 0 == 410 && (onH (wkA 4 100 20 30 2 glA0 glA1 glA2 glA3 3 glB0 glB1 760 760 1 3) (Int.toNat 2) 0 == 510 && true)) = true := by decide +kernel
theorem gl_c2 : (onL (wkA 4 100 20 30 2 glA0 glA1 glA2 glA3 3 glB0 glB1 760 760 1 3) (Int.toNat 2) 0 - teM 4 (Int.toNat 2) == -90 && (onH (wkA 4 100 20 30 2 glA0 glA1 glA2 glA3 3 glB0 glB1 760 760 1 3) (Int.toNat 2) 0 - teM 4 (Int.toNat 2) == 10 && true)) = true := by decide +kernel
theorem gl_to : (toE 4 100 20 30 2 glA0 glA1 glA2 glA3 3 glB0 glB1 760 760 1 3 0 100 2 0 == 0) = true := by decide +kernel
theorem gl_tl : (toL 4 100 20 30 2 glA0 glA1 glA2 glA3 3 glB0 glB1 760 760 1 3 0 100 2 0 == 41 && (toH 4 100 20 30 2 glA0 glA1 glA2 glA3 3 glB0 glB1 760 760 1 3 0 100 2 0 == 51 && true)) = true := by decide +kernel
theorem gl_he : (hgE 4 100 20 30 2 glA0 glA1 glA2 glA3 3 glB0 glB1 760 760 1 3 0 4 90 0 == 0) = true := by decide +kernel
theorem gl_as : asE 4 100 20 30 2 glA0 glA1 glA2 glA3 3 glB0 glB1 760 760 1 3 0 4 100 0 = 0 := by decide +kernel
theorem gl_hg : hgR 4 100 20 30 2 glA0 glA1 glA2 glA3 3 glB0 glB1 760 760 1 3 0 4 90 0 = [0, 1] := by decide +kernel
theorem gl_kd (k : Nat) : keD 4 (wkA 4 100 20 30 2 glA0 glA1 glA2 glA3 3 glB0 glB1 760 760 1 3) 0 4 100 k = true ↔ k ≤ 333 := by
 have hu := up_spec (n := 3 * (k : Int)) (d := 100) (by omega) (by omega)
 have hd := dn_spec (n := 1 * (k : Int)) (d := 100) (by omega) (by omega)
 have e : ∀ x : Nat, keP 4 (wkA 4 100 20 30 2 glA0 glA1 glA2 glA3 3 glB0 glB1 760 760 1 3) 100 k ((0 : Int) + (x : Int)) = true ↔ -100 ≤ wkA 4 100 20 30 2 glA0 glA1 glA2 glA3 3 glB0 glB1 760 760 1 3 (4 + 2 * x) - upI (3 * k) 100 - teM 4 x ∧ wkA 4 100 20 30 2 glA0 glA1 glA2 glA3 3 glB0 glB1 760 760 1 3 (4 + 2 * x) - upI (3 * k) 100 - teM 4 x ≤ wkA 4 100 20 30 2 glA0 glA1 glA2 glA3 3 glB0 glB1 760 760 1 3 (5 + 2 * x) - dnI (1 * k) 100 - teM 4 x ∧ wkA 4 100 20 30 2 glA0 glA1 glA2 glA3 3 glB0 glB1 760 760 1 3 (5 + 2 * x) - dnI (1 * k) 100 - teM 4 x ≤ 100 := by
  intro x
  unfold keP onL onH
  rw [insB_iff, gl_w2, gl_w3, show ((0 : Int) + (x : Int)).toNat = x by omega]
 have t0 : teM 4 0 = 0 := by decide
 have t1 : teM 4 1 = 250 := by decide
 have t2 : teM 4 2 = 500 := by decide
 have t3 : teM 4 3 = 750 := by decide
 have t4 : teM 4 4 = 1000 := by decide
 unfold keD keB
 rw [show ((4 : Int) - 0 + 1).toNat = 5 by decide, allI_iff]
 constructor
 ·intro h
  have h2 := (e 2).1 (h 2 (by omega))
  rw [show 4 + 2 * 2 = 8 by rfl, show 5 + 2 * 2 = 9 by rfl, gl_w8, gl_w9, t2] at h2
  omega
 ·intro h j hj
  rw [e]
  rcases (show j = 0 ∨ j = 1 ∨ j = 2 ∨ j = 3 ∨ j = 4 by omega) with rfl | rfl | rfl | rfl | rfl
  ·rw [show 4 + 2 * 0 = 4 by rfl, show 5 + 2 * 0 = 5 by rfl, gl_w4, gl_w5, t0]
   omega
  ·rw [show 4 + 2 * 1 = 6 by rfl, show 5 + 2 * 1 = 7 by rfl, gl_w6, gl_w7, t1]
   omega
  ·rw [show 4 + 2 * 2 = 8 by rfl, show 5 + 2 * 2 = 9 by rfl, gl_w8, gl_w9, t2]
   omega
  ·rw [show 4 + 2 * 3 = 10 by rfl, show 5 + 2 * 3 = 11 by rfl, gl_w10, gl_w11, t3]
   omega
  ·rw [show 4 + 2 * 4 = 12 by rfl, show 5 + 2 * 4 = 13 by rfl, gl_w12, gl_w13, t4]
   omega
theorem gl_dy : dyLo (keD 4 (wkA 4 100 20 30 2 glA0 glA1 glA2 glA3 3 glB0 glB1 760 760 1 3) 0 4 100) nD = 0 ∧ dyHi (keD 4 (wkA 4 100 20 30 2 glA0 glA1 glA2 glA3 3 glB0 glB1 760 760 1 3) 0 4 100) nD = 333 := dy_range (h := 333) (by decide) (fun k _ => gl_kd k)
theorem gl_de : dsE 4 100 20 30 2 glA0 glA1 glA2 glA3 3 glB0 glB1 760 760 1 3 0 4 100 = 0 := by
 unfold dsE
 rw [if_pos gl_as, gl_dy.2, if_pos (by decide)]
theorem gl_ds : (dsE 4 100 20 30 2 glA0 glA1 glA2 glA3 3 glB0 glB1 760 760 1 3 0 4 100 == 0) = true := by
 rw [gl_de]
 rfl
theorem gl_dl : (dsL 4 100 20 30 2 glA0 glA1 glA2 glA3 3 glB0 glB1 760 760 1 3 0 4 100 == 0 && (dsH 4 100 20 30 2 glA0 glA1 glA2 glA3 3 glB0 glB1 760 760 1 3 0 4 100 == 333 && true)) = true := by
 unfold dsL dsH
 rw [if_pos gl_de, if_pos gl_de, gl_dy.1, gl_dy.2]
 rfl
theorem gl_R4 : isRec 4 2 (chunk 4 [iI 0, iI 1, iI 40, iI 40, iI 2, iI 3, iI 48, iI 50]) := by
 intro k hk
 rcases (show k = 0 ∨ k = 1 by omega) with rfl | rfl <;> rfl
theorem gl_R2 : isRec 2 3 (chunk 2 [iI 720, iI 985, iI 760, iI 1000, iI 800, iI 1014]) := by
 intro k hk
 rcases (show k = 0 ∨ k = 1 ∨ k = 2 by omega) with rfl | rfl | rfl <;> rfl
theorem gl_R1 : isRec 1 2 (chunk 1 [iI 0, iI 1]) := by
 intro k hk
 rcases (show k = 0 ∨ k = 1 by omega) with rfl | rfl <;> rfl
theorem gl_n : ((hdN 4 100 20 30 2 glA0 glA1 glA2 glA3 3 glB0 glB1 760 760 1 3 0 : Nat) : Int) = 5 := by decide +kernel
theorem gl_fin : (decide True && (true && nthJ (hgR 4 100 20 30 2 glA0 glA1 glA2 glA3 3 glB0 glB1 760 760 1 3 0 4 90 0) 0 == col 0 (chunk 1 [iI 0, iI 1]) 0 && nthJ (hgR 4 100 20 30 2 glA0 glA1 glA2 glA3 3 glB0 glB1 760 760 1 3 0 4 90 0) 1 == col 0 (chunk 1 [iI 0, iI 1]) 1)) = true := by
 rw [gl_hg]
 rfl
theorem gl_i1 : (0 : Int) ≤ 1 ∧ (1 : Int) < ((hdN 4 100 20 30 2 glA0 glA1 glA2 glA3 3 glB0 glB1 760 760 1 3 0 : Nat) : Int) := ⟨by decide, Int.lt_of_lt_of_le (show (1 : Int) < 5 by decide) (Int.le_of_eq gl_n.symm)⟩
theorem gl_i2 : (0 : Int) ≤ 2 ∧ (2 : Int) < ((hdN 4 100 20 30 2 glA0 glA1 glA2 glA3 3 glB0 glB1 760 760 1 3 0 : Nat) : Int) := ⟨by decide, Int.lt_of_lt_of_le (show (2 : Int) < 5 by decide) (Int.le_of_eq gl_n.symm)⟩
theorem nope {b : Bool} {p : Prop} (h : b = true) : b = false → p := fun h' => Bool.noConfusion (h.symm.trans h')
def S_wakes : Sx.Spec := fun l => match l with
 | [] => some ([], bl true)
 | _ => none
theorem wakes_at  : SoundAt Tryz.prog 18 [] (bl true) := by
 refine soundAt_finX (G := [(62, S_glass), (63, S_whole), (38, S_between), (19, S_Told), (35, S_Days), (54, S_Hangs), (59, S_lints)]) (X := { R := [(32, S_Heights), (41, S_Corrections)], H := [] }) (L := []) (SoundG.cons glass_ok (SoundG.cons whole_ok (SoundG.cons between_ok (SoundG.cons Told_ok (SoundG.cons Days_ok (SoundG.cons Hangs_ok (SoundG.cons lints_ok (SoundG.nil _)))))))) (SoundX.of (SoundRL.cons Heights_okR (SoundRL.cons Corrections_okR (SoundRL.nil _))) (SoundHL.nil _)) mixed Tryz.func18 (show Tryz.f18.body = some (bodyOf Tryz.f18) by kernel_rfl) noLoopsS (t := (let z0 := (chunk 4 [iI (0 : Int), iI (1 : Int), iI (40 : Int), iI (40 : Int), iI (2 : Int), iI (3 : Int), iI (48 : Int), iI (50 : Int)]); let z1 := (chunk 2 [iI (720 : Int), iI (985 : Int), iI (760 : Int), iI (1000 : Int), iI (800 : Int), iI (1014 : Int)]); let z2 := (wkA (4 : Int) (100 : Int) (20 : Int) (30 : Int) 2 (col 0 z0) (col 1 z0) (col 2 z0) (col 3 z0) 3 (Pt.col 0 z1) (Pt.col 1 z1) (760 : Int) (760 : Int) (1 : Int) (3 : Int)); let z3 := (hdN (4 : Int) (100 : Int) (20 : Int) (30 : Int) 2 (col 0 z0) (col 1 z0) (col 2 z0) (col 3 z0) 3 (Pt.col 0 z1) (Pt.col 1 z1) (760 : Int) (760 : Int) (1 : Int) (3 : Int) (0 : Int)); let z4 := (hgR (4 : Int) (100 : Int) (20 : Int) (30 : Int) 2 (col 0 z0) (col 1 z0) (col 2 z0) (col 3 z0) 3 (Pt.col 0 z1) (Pt.col 1 z1) (760 : Int) (760 : Int) (1 : Int) (3 : Int) (0 : Int) (4 : Int) (90 : Int) (0 : Int)); let z5 := (leaf (RV.x (Value.bool false))); let z6 := (chunk 1 [iI (0 : Int), iI (1 : Int)]); (need [isRec 4 2 z0, isRec 2 3 z1] (need [isRec 4 2 z0, isRec 2 3 z1] (need [isRec 4 2 z0, isRec 2 3 z1] (need [isRec 4 2 z0, isRec 2 3 z1] (need [isRec 4 2 z0, isRec 2 3 z1] (branch (hdE (4 : Int) (100 : Int) (20 : Int) (30 : Int) 2 (col 0 z0) (col 1 z0) (col 2 z0) (col 3 z0) 3 (Pt.col 0 z1) (Pt.col 1 z1) (760 : Int) (760 : Int) (1 : Int) (3 : Int) (0 : Int) == (0 : Int)) (branch ((↑z3 : Int) == (5 : Int)) (need [(0 : Int) ≤ 1 ∧ (1 : Int) < (↑z3 : Int)] (branch (onL z2 (Int.toNat (1 : Int)) (0 : Int) == (200 : Int) && (onH z2 (Int.toNat (1 : Int)) (0 : Int) == (300 : Int) && true)) (need [(0 : Int) ≤ 2 ∧ (2 : Int) < (↑z3 : Int)] (branch (onL z2 (Int.toNat (2 : Int)) (0 : Int) == (410 : Int) && (onH z2 (Int.toNat (2 : Int)) (0 : Int) == (510 : Int) && true)) (branch (hdE (4 : Int) (100 : Int) (20 : Int) (30 : Int) 2 (col 0 z0) (col 1 z0) (col 2 z0) (col 3 z0) 3 (Pt.col 0 z1) (Pt.col 1 z1) (760 : Int) (760 : Int) (1 : Int) (3 : Int) (0 : Int) == (0 : Int)) (branch ((↑z3 : Int) == (5 : Int)) (need [(0 : Int) ≤ 2 ∧ (2 : Int) < (↑z3 : Int)] (branch (onL z2 (Int.toNat (2 : Int)) (0 : Int) - teM (4 : Int) (Int.toNat (2 : Int)) == (-90 : Int) && (onH z2 (Int.toNat (2 : Int)) (0 : Int) - teM (4 : Int) (Int.toNat (2 : Int)) == (10 : Int) && true)) (branch (toE (4 : Int) (100 : Int) (20 : Int) (30 : Int) 2 (col 0 z0) (col 1 z0) (col 2 z0) (col 3 z0) 3 (Pt.col 0 z1) (Pt.col 1 z1) (760 : Int) (760 : Int) (1 : Int) (3 : Int) (0 : Int) (100 : Int) (2 : Int) (0 : Int) == (0 : Int)) (branch (toL (4 : Int) (100 : Int) (20 : Int) (30 : Int) 2 (col 0 z0) (col 1 z0) (col 2 z0) (col 3 z0) 3 (Pt.col 0 z1) (Pt.col 1 z1) (760 : Int) (760 : Int) (1 : Int) (3 : Int) (0 : Int) (100 : Int) (2 : Int) (0 : Int) == (41 : Int) && (toH (4 : Int) (100 : Int) (20 : Int) (30 : Int) 2 (col 0 z0) (col 1 z0) (col 2 z0) (col 3 z0) 3 (Pt.col 0 z1) (Pt.col 1 z1) (760 : Int) (760 : Int) (1 : Int) (3 : Int) (0 : Int) (100 : Int) (2 : Int) (0 : Int) == (51 : Int) && true)) (branch (dsE (4 : Int) (100 : Int) (20 : Int) (30 : Int) 2 (col 0 z0) (col 1 z0) (col 2 z0) (col 3 z0) 3 (Pt.col 0 z1) (Pt.col 1 z1) (760 : Int) (760 : Int) (1 : Int) (3 : Int) (0 : Int) (4 : Int) (100 : Int) == (0 : Int)) (branch (dsL (4 : Int) (100 : Int) (20 : Int) (30 : Int) 2 (col 0 z0) (col 1 z0) (col 2 z0) (col 3 z0) 3 (Pt.col 0 z1) (Pt.col 1 z1) (760 : Int) (760 : Int) (1 : Int) (3 : Int) (0 : Int) (4 : Int) (100 : Int) == (0 : Int) && (dsH (4 : Int) (100 : Int) (20 : Int) (30 : Int) 2 (col 0 z0) (col 1 z0) (col 2 z0) (col 3 z0) 3 (Pt.col 0 z1) (Pt.col 1 z1) (760 : Int) (760 : Int) (1 : Int) (3 : Int) (0 : Int) (4 : Int) (100 : Int) == (333 : Int) && true)) (branch (hgE (4 : Int) (100 : Int) (20 : Int) (30 : Int) 2 (col 0 z0) (col 1 z0) (col 2 z0) (col 3 z0) 3 (Pt.col 0 z1) (Pt.col 1 z1) (760 : Int) (760 : Int) (1 : Int) (3 : Int) (0 : Int) (4 : Int) (90 : Int) (0 : Int) == (0 : Int)) (need [isRec 1 2 fun j => [i (nthJ z4 j)], isRec 1 2 z6, 2 ≤ 100000] (leaf (RV.x (Value.bool (decide (2 = 2) && (true && nthJ z4 (nat_lit 0) == col 0 z6 (nat_lit 0) && nthJ z4 (nat_lit 1) == col 0 z6 (nat_lit 1))))))) z5) z5) z5) z5) z5) z5)) z5) z5) z5)) z5)) z5) z5)))))))) (by kernel_rfl) ?_
 simp only [Tree.sat, allP, true_and, and_true]
 refine ⟨⟨gl_R4, gl_R2⟩, ⟨gl_R4, gl_R2⟩, ⟨gl_R4, gl_R2⟩, ⟨gl_R4, gl_R2⟩, ⟨gl_R4, gl_R2⟩, ?_⟩
 refine ⟨fun _ => ⟨fun _ => ⟨gl_i1, fun _ => ⟨gl_i2, fun _ => ⟨fun _ => ⟨fun _ => ⟨gl_i2, fun _ => ⟨fun _ => ⟨fun _ => ⟨fun _ => ⟨fun _ => ⟨fun _ => ⟨⟨isRec1 _ _, gl_R1, by decide⟩, ?_⟩, nope gl_he⟩, nope gl_dl⟩, nope gl_ds⟩, nope gl_tl⟩, nope gl_to⟩, nope gl_c2⟩, nope gl_hn⟩, nope gl_hd⟩, nope gl_h2⟩, nope gl_h1⟩, nope gl_hn⟩, nope gl_hd⟩
 simp only [fitP, valEq]
 exact gl_fin
theorem wakes_ok : SoundSpec Tryz.prog 18 S_wakes := by
 refine ⟨⟨_, Tryz.func18, by kernel_rfl, by kernel_rfl⟩, ?_⟩
 intro avs ns res h hn
 unfold S_wakes at h
 split at h
 ·cases h
  exact wakes_at 
 ·cases h
end Go.Proofs.YtlinbkmpkcmniaaGreat
namespace Go.Proofs.YtlinbkmpkcmniaaGreat
open Go Go.Sx Go.RowKit Bo
open Go.Sx.Tree (need branch leaf)
open Go.Sx.AV (lst ptr agg roI tup top)
def S_lto : Sx.Spec := fun l => match l with
 | [.agg [.x (.int .i64 a), .x (.int .i64 b)]] => some ([], .agg [i a, i b])
 | _ => none
theorem lto_at (a b : Int) : SoundAt Tryz.prog 42 [.agg [i a, i b]] (.agg [i a, i b]) := by
 refine soundAt_fin (G := []) (L := []) (SoundG.nil _) mixed Tryz.func42 (show Tryz.f42.body = some (bodyOf Tryz.f42) by kernel_rfl) noLoops (t := (leaf (RV.agg [RV.x (Value.int IntKind.i64 a), RV.x (Value.int IntKind.i64 b)]))) (by kernel_rfl) ?_
 simp only [Tree.sat, allP, fitP, fitL, valEq, inI64, true_and, and_true]
 all_goals first | omega | grind
theorem lto_ok : SoundSpec Tryz.prog 42 S_lto := by
 refine ⟨⟨_, Tryz.func42, by kernel_rfl, by kernel_rfl⟩, ?_⟩
 intro avs ns res h hn
 unfold S_lto at h
 split at h
 ·cases h
  exact lto_at _ _
 ·cases h
def S_Use : Sx.Spec := fun l => match l with
 | [.agg [.x (.int .i64 a), .x (.int .i64 b), .x (.int .i64 c)]] => some ([], .agg [i a, i b, i c])
 | _ => none
theorem Use_at (a b c : Int) : SoundAt Tryz.prog 36 [.agg [i a, i b, i c]] (.agg [i a, i b, i c]) := by
 refine soundAt_fin (G := []) (L := []) (SoundG.nil _) mixed Tryz.func36 (show Tryz.f36.body = some (bodyOf Tryz.f36) by kernel_rfl) noLoops (t := (leaf (RV.agg [RV.x (Value.int IntKind.i64 a), RV.x (Value.int IntKind.i64 b), RV.x (Value.int IntKind.i64 c)]))) (by kernel_rfl) ?_
 simp only [Tree.sat, allP, fitP, fitL, valEq, inI64, true_and, and_true]
 all_goals first | omega | grind
theorem Use_ok : SoundSpec Tryz.prog 36 S_Use := by
 refine ⟨⟨_, Tryz.func36, by kernel_rfl, by kernel_rfl⟩, ?_⟩
 intro avs ns res h hn
 unfold S_Use at h
 split at h
 ·cases h
  exact Use_at _ _ _
 ·cases h
theorem Thin_at (c T lo hi : Int) (n : Nat) (a b u v : Nat → Int) (m : Nat) (p q : Nat → Int) (pl ph dl dh : Int) : SoundAt Tryz.prog 17 [.agg [i c, i T, i lo, i hi, rds n a b u v, Pt.scs m p q, i pl, i ph, i dl, i dh]] (bl (decide (n ≤ 15) && decide (m ≤ 11))) := by
 refine soundAt_finX (G := []) (X := {}) (L := []) (SoundG.nil _) (SoundX.of (SoundRL.nil _) (SoundHL.nil _)) mixed Tryz.func17 (show Tryz.f17.body = some (bodyOf Tryz.f17) by kernel_rfl) noLoopsS (t := (branch (decide ((↑n : Int) ≤ 15)) (leaf (RV.x (Value.bool (decide ((↑m : Int) ≤ 11))))) (leaf (RV.x (Value.bool false))))) (by kernel_rfl) ?_
 simp only [Tree.sat, allP, fitP, fitL, valEq, true_and, and_true, decide_eq_true_eq, decide_eq_false_iff_not, bne_iff_ne, ne_eq, bne_eq_false_iff_eq, beq_iff_eq, beq_eq_false_iff_ne, Bool.not_eq_true', Bool.not_eq_false', not_true_eq_false, false_imp_iff, true_imp_iff]
 refine ⟨fun h => ?_, fun h => ?_⟩
 ·rw [decide_eq_true (show n ≤ 15 by omega), Bool.true_and]
  exact decide_eq_decide.2 (by omega)
 ·rw [decide_eq_false (show ¬ n ≤ 15 by omega)]
  rfl
def ftE (c T lo hi : Int) (n : Nat) (a b u v : Nat → Int) (m : Nat) (p q : Nat → Int) (pl ph dl dh : Int) : Int := if n > 12 ∨ m > 8 then 3 else if flt c T lo hi n a b u v = 0 ∧ Pt.itB m p q = true ∧ Pt.insB (p 0) pl ph (p (m - 1)) = true ∧ Pt.bt 0 dl dh = true ∧ dh ≤ 100 then 0 else 1
theorem va_bl {m : Nat} {p q : Nat → Int} {pl ph : Int} : Pt.blE m p q pl ph = 0 ↔ m ≤ 8 ∧ Pt.itB m p q = true ∧ Pt.insB (p 0) pl ph (p (m - 1)) = true := by
 unfold Pt.blE Pt.tbE Pt.itB
 rw [Bool.and_eq_true, decide_eq_true_eq]
 by_cases h1 : 8 < m
 ·rw [if_pos h1, if_neg (by decide)]
  exact ⟨fun h => (by cases h), fun h => by omega⟩
 ·rw [if_neg h1]
  by_cases h2 : m < 2
  ·rw [if_pos h2, if_neg (by decide)]
   exact ⟨fun h => (by cases h), fun h => by omega⟩
  ·rw [if_neg h2]
   by_cases h3 : Pt.tabB m p q = true
   ·rw [if_pos h3, if_pos rfl]
    by_cases h4 : Pt.insB (p 0) pl ph (p (m - 1)) = true
    ·rw [if_pos h4]
     exact ⟨fun _ => ⟨by omega, ⟨h3, by omega⟩, h4⟩, fun _ => rfl⟩
    ·rw [if_neg h4]
     exact ⟨fun h => (by cases h), fun h => absurd h.2.2 h4⟩
   ·rw [if_neg h3, if_neg (by decide)]
    exact ⟨fun h => (by cases h), fun h => absurd h.2.1.1 h3⟩
theorem pbt_iff (lo n hi : Int) : Pt.bt lo n hi = true ↔ lo ≤ n ∧ n ≤ hi := by
 unfold Pt.bt
 rw [Bool.and_eq_true, decide_eq_true_eq, decide_eq_true_eq]
theorem ft_0 {c T lo hi : Int} {n : Nat} {a b u v : Nat → Int} {m : Nat} {p q : Nat → Int} {pl ph dl dh : Int} : ftE c T lo hi n a b u v m p q pl ph dl dh = 0 ↔ n ≤ 12 ∧ flt c T lo hi n a b u v = 0 ∧ vaB c T lo hi m p q pl ph dl dh = true := by
 unfold ftE
 by_cases h1 : n > 12 ∨ m > 8
 ·rw [if_pos h1]
  refine ⟨fun h => (by cases h), fun h => ?_⟩
  have := (va_bl.1 (va_iff.1 h.2.2).1).1
  omega
 ·rw [if_neg h1]
  by_cases h2 : flt c T lo hi n a b u v = 0 ∧ Pt.itB m p q = true ∧ Pt.insB (p 0) pl ph (p (m - 1)) = true ∧ Pt.bt 0 dl dh = true ∧ dh ≤ 100
  ·rw [if_pos h2]
   have h3 := (pbt_iff _ _ _).1 h2.2.2.2.1
   exact ⟨fun _ => ⟨by omega, h2.1, va_iff.2 ⟨va_bl.2 ⟨by omega, h2.2.1, h2.2.2.1⟩, (flt_iff.1 h2.1).1, h3.1, h3.2, h2.2.2.2.2⟩⟩, fun _ => rfl⟩
  ·rw [if_neg h2]
   refine ⟨fun h => (by cases h), fun h => absurd ?_ h2⟩
   have h3 := va_iff.1 h.2.2
   have h4 := va_bl.1 h3.1
   exact ⟨h.2.1, h4.2.1, h4.2.2, (pbt_iff _ _ _).2 ⟨h3.2.2.1, h3.2.2.2.1⟩, h3.2.2.2.2⟩
theorem rFault_at (c T lo hi : Int) (n : Nat) (a b u v : Nat → Int) (m : Nat) (p q : Nat → Int) (pl ph dl dh : Int) : SoundAt Tryz.prog 47 [.agg [i c, i T, i lo, i hi, rds n a b u v, Pt.scs m p q, i pl, i ph, i dl, i dh]] (i (ftE c T lo hi n a b u v m p q pl ph dl dh)) := by
 refine soundAt_finX (G := [(83, Bo.S_rFault), (84, Pt.S_rIsTable), (85, Pt.S_rSpan), (24, Pt.S_rIn)]) (X := {}) (L := []) (SoundG.cons Bo.rFault_ok (SoundG.cons Pt.rIsTable_ok (SoundG.cons Pt.rSpan_ok (SoundG.cons Pt.rIn_ok (SoundG.nil _))))) (SoundX.of (SoundRL.nil _) (SoundHL.nil _)) mixed Tryz.func47 (show Tryz.f47.body = some (bodyOf Tryz.f47) by kernel_rfl) noLoopsS (t := (let z0 := (leaf (RV.x (Value.int IntKind.i64 (1 : Int)))); let z1 := (leaf (RV.x (Value.int IntKind.i64 (3 : Int)))); (branch (decide ((↑n : Int) > (12 : Int))) z1 (branch (decide ((↑m : Int) > (8 : Int))) z1 (need [isRec 4 n fun k => [Bo.i (a k), Bo.i (b k), Bo.i (u k), Bo.i (v k)]] (branch (flt c T lo hi n a b u v != (0 : Int)) z0 (need [isRec 2 m fun k => [Pt.i (p k), Pt.i (q k)], m ≤ 100000] (branch (!Pt.itB m p q) z0 (need [(0 : Int) ≤ 0 ∧ (0 : Int) < (↑m : Int)] (need [inI64 ((↑m : Int) - 1)] (need [(0 : Int) ≤ (↑m : Int) - 1 ∧ (↑m : Int) - 1 < (↑m : Int)] (branch (!Pt.insB (p (Int.toNat (0 : Int))) pl ph (p (Int.toNat ((↑m : Int) - 1)))) z0 (branch (!Pt.bt (0 : Int) dl dh) z0 (branch (decide (dh > (100 : Int))) z0 (leaf (RV.x (Value.int IntKind.i64 (0 : Int)))))))))))))))))) (by kernel_rfl) ?_
 simp only [Tree.sat, allP, fitP, fitL, valEq, true_and, and_true, decide_eq_true_eq, decide_eq_false_iff_not, bne_iff_ne, ne_eq, bne_eq_false_iff_eq, beq_iff_eq, beq_eq_false_iff_ne, Bool.not_eq_true', Bool.not_eq_false', not_true_eq_false, false_imp_iff, true_imp_iff]
 have f3 : n > 12 ∨ m > 8 → 3 = ftE c T lo hi n a b u v m p q pl ph dl dh := fun h => (if_pos h).symm
 have f1 : ¬ (n > 12 ∨ m > 8) → ¬ (flt c T lo hi n a b u v = 0 ∧ Pt.itB m p q = true ∧ Pt.insB (p 0) pl ph (p (m - 1)) = true ∧ Pt.bt 0 dl dh = true ∧ dh ≤ 100) → 1 = ftE c T lo hi n a b u v m p q pl ph dl dh := fun h h' => by
  unfold ftE
  rw [if_neg h, if_neg h']
 refine ⟨fun h => f3 (by omega), fun h1 => ⟨fun h => f3 (by omega), fun h2 => ⟨Bo.isRec4 n a b u v, fun h => f1 (by omega) (fun h' => h h'.1), fun h3 => ⟨⟨Pt.isRec2 m p q, by omega⟩, fun h => f1 (by omega) (fun h' => by rw [h] at h'; exact Bool.noConfusion h'.2.1), fun h4 => ?_⟩⟩⟩⟩
 have hm : 2 ≤ m := by
  unfold Pt.itB at h4
  rw [Bool.and_eq_true, decide_eq_true_eq] at h4
  exact h4.2
 have e : ((m : Int) - 1).toNat = m - 1 := by omega
 rw [e, show Int.toNat 0 = 0 by rfl]
 simp only [inI64]
 refine ⟨⟨by omega, by omega⟩, ⟨by omega, by omega⟩, ⟨by omega, by omega⟩, fun h => f1 (by omega) (fun h' => by rw [h] at h'; exact Bool.noConfusion h'.2.2.1), fun h5 => ⟨fun h => f1 (by omega) (fun h' => by rw [h] at h'; exact Bool.noConfusion h'.2.2.2.1), fun h6 => ⟨fun h => f1 (by omega) (fun h' => by omega), fun h7 => ?_⟩⟩⟩
 unfold ftE
 rw [if_neg (by omega), if_pos ⟨h3, h4, h5, h6, by omega⟩]
def S_ThinZ : Sx.Spec := fun l => match l with
 | [.agg [.x (.int .i64 c), .x (.int .i64 T), .x (.int .i64 lo), .x (.int .i64 hi), .x (.slice none 0 0), .lst 2 m ft, .x (.int .i64 pl), .x (.int .i64 ph), .x (.int .i64 dl), .x (.int .i64 dh)]] => some ([isRec 2 m ft], bl (decide (0 ≤ 15) && decide (m ≤ 11)))
 | _ => none
theorem Thin_okZ : SoundSpec Tryz.prog 17 S_ThinZ := by
 refine ⟨⟨_, Tryz.func17, by kernel_rfl, by kernel_rfl⟩, ?_⟩
 intro avs ns res h hn
 unfold S_ThinZ at h
 split at h
 ·cases h
  have ht : isRec 2 _ _ := hn _ List.mem_cons_self
  exact (Thin_at _ _ _ _ 0 (fun _ => 0) (fun _ => 0) (fun _ => 0) (fun _ => 0) _ _ _ _ _ _ _).same (.cons (Sames.same (.cons (.refl _) (.cons (.refl _) (.cons (.refl _) (.cons (.refl _) (.cons (.nil 4 _) (.cons (.lst 2 _ _ _ ht) (.cons (.refl _) (.cons (.refl _) (.cons (.refl _) (.cons (.refl _) .nil))))))))))) .nil)
 ·cases h
def S_rFaultZ : Sx.Spec := fun l => match l with
 | [.agg [.x (.int .i64 c), .x (.int .i64 T), .x (.int .i64 lo), .x (.int .i64 hi), .x (.slice none 0 0), .lst 2 m ft, .x (.int .i64 pl), .x (.int .i64 ph), .x (.int .i64 dl), .x (.int .i64 dh)]] => some ([isRec 2 m ft], i (ftE c T lo hi 0 (fun _ => 0) (fun _ => 0) (fun _ => 0) (fun _ => 0) m (Pt.col 0 ft) (Pt.col 1 ft) pl ph dl dh))
 | _ => none
theorem rFault_okZ : SoundSpec Tryz.prog 47 S_rFaultZ := by
 refine ⟨⟨_, Tryz.func47, by kernel_rfl, by kernel_rfl⟩, ?_⟩
 intro avs ns res h hn
 unfold S_rFaultZ at h
 split at h
 ·cases h
  have ht : isRec 2 _ _ := hn _ List.mem_cons_self
  exact (rFault_at _ _ _ _ 0 (fun _ => 0) (fun _ => 0) (fun _ => 0) (fun _ => 0) _ _ _ _ _ _ _).same (.cons (Sames.same (.cons (.refl _) (.cons (.refl _) (.cons (.refl _) (.cons (.refl _) (.cons (.nil 4 _) (.cons (.lst 2 _ _ _ ht) (.cons (.refl _) (.cons (.refl _) (.cons (.refl _) (.cons (.refl _) .nil))))))))))) .nil)
 ·cases h
theorem ready_at (c T lo hi : Int) (n : Nat) (a b u v : Nat → Int) (m : Nat) (p q : Nat → Int) (pl ph dl dh : Int) : SoundAt Tryz.prog 28 [.agg [i c, i T, i lo, i hi, rds n a b u v, Pt.scs m p q, i pl, i ph, i dl, i dh]] (bl (vaB c T lo hi m p q pl ph dl dh)) := by
 refine soundAt_finX (G := [(17, S_ThinZ), (47, S_rFaultZ)]) (X := {}) (L := []) (SoundG.cons Thin_okZ (SoundG.cons rFault_okZ (SoundG.nil _))) (SoundX.of (SoundRL.nil _) (SoundHL.nil _)) mixed Tryz.func28 (show Tryz.f28.body = some (bodyOf Tryz.f28) by kernel_rfl) noLoopsS (t := (need [isRec 2 m fun k => [Pt.i (p k), Pt.i (q k)]] (branch (decide (0 ≤ 15) && decide (m ≤ 11)) (need [isRec 2 m fun k => [Pt.i (p k), Pt.i (q k)]] (leaf (RV.x (Value.bool (ftE c T lo hi 0 (fun x => (0 : Int)) (fun x => (0 : Int)) (fun x => (0 : Int)) (fun x => (0 : Int)) m p q pl ph dl dh == (0 : Int)))))) (leaf (RV.x (Value.bool false)))))) (by kernel_rfl) ?_
 simp only [Tree.sat, allP, fitP, fitL, valEq, true_and, and_true, decide_eq_true_eq, decide_eq_false_iff_not, bne_iff_ne, ne_eq, bne_eq_false_iff_eq, beq_iff_eq, beq_eq_false_iff_ne, Bool.not_eq_true', Bool.not_eq_false', not_true_eq_false, false_imp_iff, true_imp_iff]
 have hz : ftE c T lo hi 0 (fun _ => 0) (fun _ => 0) (fun _ => 0) (fun _ => 0) m p q pl ph dl dh = 0 ↔ vaB c T lo hi m p q pl ph dl dh = true := by
  rw [ft_0]
  exact ⟨fun h => h.2.2, fun h => ⟨by omega, flt_iff.2 ⟨(va_iff.1 h).2.1, by omega, rfl⟩, h⟩⟩
 refine ⟨Pt.isRec2 m p q, fun _ => ⟨Pt.isRec2 m p q, ?_⟩, fun h => ?_⟩
 ·rw [Bool.eq_iff_iff, beq_iff_eq]
  exact hz
 ·cases hv : vaB c T lo hi m p q pl ph dl dh with
  | false => rfl
  | true =>
   have := (va_bl.1 (va_iff.1 hv).1).1
   rw [Bool.and_eq_false_iff, decide_eq_false_iff_not, decide_eq_false_iff_not] at h
   omega
def S_ready : Sx.Spec := fun l => match l with
 | [.agg [.x (.int .i64 c), .x (.int .i64 T), .x (.int .i64 lo), .x (.int .i64 hi), .lst 4 n fr, .lst 2 m ft, .x (.int .i64 pl), .x (.int .i64 ph), .x (.int .i64 dl), .x (.int .i64 dh)]] => some ([isRec 4 n fr, isRec 2 m ft], bl (vaB c T lo hi m (Pt.col 0 ft) (Pt.col 1 ft) pl ph dl dh))
 | _ => none
theorem ready_ok : SoundSpec Tryz.prog 28 S_ready := by
 refine ⟨⟨_, Tryz.func28, by kernel_rfl, by kernel_rfl⟩, ?_⟩
 intro avs ns res h hn
 unfold S_ready at h
 split at h
 ·cases h
  have hr : isRec 4 _ _ := hn _ List.mem_cons_self
  have ht : isRec 2 _ _ := hn _ (List.mem_cons_of_mem _ List.mem_cons_self)
  exact (ready_at _ _ _ _ _ _ _ _ _ _ _ _ _ _ _ _  ).same (.cons (Sames.same (.cons (.refl _) (.cons (.refl _) (.cons (.refl _) (.cons (.refl _) (.cons (.lst 4 _ _ _ hr) (.cons (.lst 2 _ _ _ ht) (.cons (.refl _) (.cons (.refl _) (.cons (.refl _) (.cons (.refl _) .nil))))))))))) .nil)
 ·cases h
def yA (c : Int) (z : Nat → Int) : Nat → Int := fun k => seA c (z k)
def yB (c T lo hi : Int) (nw : Nat) (w z : Nat → Int) : Nat → Int := fun k => seB c T (trV c T lo hi nw w) (z k)
def yU (c T lo hi : Int) (nw : Nat) (w z : Nat → Int) : Nat → Int := fun k => seU c T (trV c T lo hi nw w) (z k)
def yV (c T lo hi : Int) (nw : Nat) (w z : Nat → Int) : Nat → Int := fun k => seV c T (trV c T lo hi nw w) (z k)
end Go.Proofs.YtlinbkmpkcmniaaGreat
namespace Go.Proofs.YtlinbkmpkcmniaaGreat
open Go Go.Sx Go.RowKit Bo
open Go.Sx.Tree (need branch leaf)
open Go.Sx.AV (lst ptr agg roI tup top)
theorem pbt_eq (lo n hi : Int) : Pt.bt lo n hi = bt lo n hi := by
 rw [Bool.eq_iff_iff, pbt_iff, bt_iff]
theorem rIsUse_at (c T lo hi : Int) (n : Nat) (a b u v : Nat → Int) (m : Nat) (p q : Nat → Int) (pl ph dl dh : Int) (u0 u1 wi : Int) : SoundAt Tryz.prog 34 [.agg [i c, i T, i lo, i hi, rds n a b u v, Pt.scs m p q, i pl, i ph, i dl, i dh], .agg [i u0, i u1, i wi]] (bl (usB c u0 u1 wi)) := by
 refine soundAt_finX (G := [(24, Pt.S_rIn)]) (X := {}) (L := []) (SoundG.cons Pt.rIn_ok (SoundG.nil _)) (SoundX.of (SoundRL.nil _) (SoundHL.nil _)) mixed Tryz.func34 (show Tryz.f34.body = some (bodyOf Tryz.f34) by kernel_rfl) noLoopsS (t := (branch (Pt.bt (0 : Int) u0 u1) (branch (decide (u1 ≤ c)) (leaf (RV.x (Value.bool (Pt.bt (0 : Int) wi (1000 : Int))))) (leaf (RV.x (Value.bool false)))) (leaf (RV.x (Value.bool false))))) (by kernel_rfl) ?_
 simp only [Tree.sat, allP, fitP, fitL, valEq, true_and, and_true, decide_eq_true_eq, decide_eq_false_iff_not, bne_iff_ne, ne_eq, bne_eq_false_iff_eq, beq_iff_eq, beq_eq_false_iff_ne, Bool.not_eq_true', Bool.not_eq_false', not_true_eq_false, false_imp_iff, true_imp_iff, pbt_eq]
 unfold usB
 refine ⟨fun h => ⟨fun h2 => ?_, fun h2 => ?_⟩, fun h => ?_⟩
 ·rw [h, decide_eq_true h2]
  rfl
 ·rw [h, decide_eq_false h2]
  rfl
 ·rw [h]
  rfl
def S_rIsUse : Sx.Spec := fun l => match l with
 | [.agg [.x (.int .i64 c), .x (.int .i64 T), .x (.int .i64 lo), .x (.int .i64 hi), .lst 4 n fr, .lst 2 m ft, .x (.int .i64 pl), .x (.int .i64 ph), .x (.int .i64 dl), .x (.int .i64 dh)], .agg [.x (.int .i64 u0), .x (.int .i64 u1), .x (.int .i64 wi)]] => some ([isRec 4 n fr, isRec 2 m ft], bl (usB c u0 u1 wi))
 | _ => none
theorem rIsUse_ok : SoundSpec Tryz.prog 34 S_rIsUse := by
 refine ⟨⟨_, Tryz.func34, by kernel_rfl, by kernel_rfl⟩, ?_⟩
 intro avs ns res h hn
 unfold S_rIsUse at h
 split at h
 ·cases h
  have hr : isRec 4 _ _ := hn _ List.mem_cons_self
  have ht : isRec 2 _ _ := hn _ (List.mem_cons_of_mem _ List.mem_cons_self)
  exact (rIsUse_at _ _ _ _ _ _ _ _ _ _ _ _ _ _ _ _ _ _ _ ).same (.cons (Sames.same (.cons (.refl _) (.cons (.refl _) (.cons (.refl _) (.cons (.refl _) (.cons (.lst 4 _ _ _ hr) (.cons (.lst 2 _ _ _ ht) (.cons (.refl _) (.cons (.refl _) (.cons (.refl _) (.cons (.refl _) .nil))))))))))) (.cons (.refl _) .nil))
 ·cases h
end Go.Proofs.YtlinbkmpkcmniaaGreat
namespace Go.Proofs.YtlinbkmpkcmniaaGreat
open Go Go.Sx Go.RowKit Bo
open Go.Sx.Tree (need branch leaf)
open Go.Sx.AV (lst ptr agg roI tup top)
theorem y_all {c T lo hi : Int} {nw : Nat} {w : Nat → Int} {nz : Nat} {z : Nat → Int} (h : tubeB c T lo hi = true) (hw : wOk nw w) (hz : wOk nz z) : flt c T lo hi (min nz 12) (yA c z) (yB c T lo hi nw w z) (yU c T lo hi nw w z) (yV c T lo hi nw w z) = 0 ∧ Tr c.toNat T lo hi (min nz 12) (yA c z) (yB c T lo hi nw w z) (yU c T lo hi nw w z) (yV c T lo hi nw w z) (sumF (trV c T lo hi nw w)) ∧ eB c T lo hi (min nz 12) (yA c z) (yB c T lo hi nw w z) (yU c T lo hi nw w z) (yV c T lo hi nw w z) = 0 := by
 have hs := seen_all (n := nw) (m := nz) h hw hz
 exact ⟨hs.1, hs.2.1, hs.2.2.2.1⟩
theorem y_rd {c T lo hi : Int} {nw : Nat} {w : Nat → Int} {nz : Nat} {z : Nat → Int} {m : Nat} {p q : Nat → Int} {pl ph dl dh : Int} (h : vaB c T lo hi m p q pl ph dl dh = true) (hw : wOk nw w) (hz : wOk nz z) : rdE c T lo hi (min nz 12) (yA c z) (yB c T lo hi nw w z) (yU c T lo hi nw w z) (yV c T lo hi nw w z) m p q pl ph dl dh = 0 := by
 have hv := va_iff.1 h
 exact rdE_of (Nat.min_le_right _ _) (va_bl.1 hv.1).1 h (y_all hv.2.1 hw hz).2.2
theorem on_lo {c T lo hi : Int} {n : Nat} {a b u v : Nat → Int} {m : Nat} {p q : Nat → Int} {pl ph dl dh day : Int} {k : Nat} (hk : (k : Int) ≤ c) : onL (wkA c T lo hi n a b u v m p q pl ph dl dh) k day = bdL c T lo hi n a b u v m p q pl ph k - upI (dh * day) 100 := by
 unfold onL
 rw [show wkA c T lo hi n a b u v m p q pl ph dl dh (4 + 2 * k) = bdL c T lo hi n a b u v m p q pl ph k from wk_L (by omega)]
 rfl
theorem on_hi {c T lo hi : Int} {n : Nat} {a b u v : Nat → Int} {m : Nat} {p q : Nat → Int} {pl ph dl dh day : Int} {k : Nat} (hk : (k : Int) ≤ c) : onH (wkA c T lo hi n a b u v m p q pl ph dl dh) k day = bdH c T lo hi n a b u v m p q pl ph k - dnI (dl * day) 100 := by
 unfold onH
 rw [show wkA c T lo hi n a b u v m p q pl ph dl dh (5 + 2 * k) = bdH c T lo hi n a b u v m p q pl ph k from wk_H (by omega)]
 rfl
theorem up_mul {T q : Int} (hT : 1 ≤ T) (hq : 0 ≤ q) : upI (T * q) T = q := by
 have h := up_spec (n := T * q) (d := T) (Int.mul_nonneg (by omega) hq) hT
 have e : T * q = q * T := Int.mul_comm _ _
 rw [e] at h ⊢
 generalize upI (q * T) T = U at h ⊢
 have l1 : q ≤ U := Int.le_of_mul_le_mul_right h.2.1 (by omega)
 have l2 : (U - 1) * T < q * T := by rw [Int.sub_mul, Int.one_mul]; omega
 have l3 := Int.lt_of_mul_lt_mul_right l2 (by omega)
 omega
theorem day_bd {day : Int} (h : 0 ≤ day ∧ day ≤ 65535) : 0 ≤ day.tmod 10001 ∧ day.tmod 10001 ≤ 10000 := by
 have := tmod_bd h.1 (show (0 : Int) < 10001 by omega)
 omega
end Go.Proofs.YtlinbkmpkcmniaaGreat
namespace Go.Proofs.YtlinbkmpkcmniaaGreat
open Go Go.Sx Go.RowKit Bo
open Go.Sx.Tree (need branch leaf)
open Go.Sx.AV (lst ptr agg roI tup top)
theorem dn_mono {x y d : Int} (hx : 0 ≤ x) (h : x ≤ y) (hd : 1 ≤ d) : dnI x d ≤ dnI y d := Int.tdiv_le_tdiv (by omega) h
theorem up_mono {x y d : Int} (hx : 0 ≤ x) (h : x ≤ y) (hd : 1 ≤ d) : upI x d ≤ upI y d := Int.tdiv_le_tdiv (by omega) (by omega)
theorem dn_up {x y d : Int} (hx : 0 ≤ x) (h : x ≤ y) (hd : 1 ≤ d) : dnI x d ≤ upI y d := Int.tdiv_le_tdiv (by omega) (by omega)
theorem rd_bd {c T lo hi : Int} {n : Nat} {a b u v : Nat → Int} {m : Nat} {p q : Nat → Int} {pl ph dl dh : Int} (h : rdE c T lo hi n a b u v m p q pl ph dl dh = 0) : tubeB c T lo hi = true ∧ eB c T lo hi n a b u v = 0 ∧ (0 ≤ dl ∧ dl ≤ dh ∧ dh ≤ 100) ∧ (1 ≤ Pt.boilI m p q pl ∧ Pt.boilI m p q ph ≤ 2000 ∧ Pt.boilI m p q pl ≤ Pt.boilI m p q ph) ∧ Pt.blE m p q pl ph = 0 := by
 obtain ⟨h1, h2, h3, h4⟩ := rdE_0 h
 have hv := va_iff.1 h3
 have hs := st_bd hv.1
 exact ⟨hv.2.1, h4, hv.2.2, ⟨hs.1.1, hs.2.1.2, hs.2.2.1⟩, hv.1⟩
theorem bd_le {c T lo hi : Int} {n : Nat} {a b u v : Nat → Int} {m : Nat} {p q : Nat → Int} {pl ph dl dh : Int} (h : rdE c T lo hi n a b u v m p q pl ph dl dh = 0) {k : Nat} (hk : (k : Int) ≤ c) : 0 ≤ bdL c T lo hi n a b u v m p q pl ph k ∧ bdL c T lo hi n a b u v m p q pl ph k ≤ bdH c T lo hi n a b u v m p q pl ph k ∧ bdH c T lo hi n a b u v m p q pl ph k ≤ 2000 := by
 obtain ⟨h1, h2, h3, h4, h5⟩ := rd_bd h
 have hb := tube_bd h1
 have ht := ht_bd h2 hk
 have m1 : 0 ≤ -(fwB c T lo hi n a b u v k 0) * Pt.boilI m p q pl := Int.mul_nonneg ht.1 (by omega)
 have m2 : -(fwB c T lo hi n a b u v k 0) * Pt.boilI m p q pl ≤ fwB c T lo hi n a b u v 0 k * Pt.boilI m p q ph := Int.mul_le_mul ht.2.1 h4.2.2 (by omega) (by omega)
 have m3 : fwB c T lo hi n a b u v 0 k * Pt.boilI m p q ph ≤ T * 2000 := Int.mul_le_mul ht.2.2 h4.2.1 (by omega) (by omega)
 have u1 := up_mono (d := T) (by omega) m3 (by omega)
 rw [up_mul (by omega) (by omega)] at u1
 unfold bdL bdH
 exact ⟨(dn_spec m1 (by omega)).2.2.1, dn_up m1 m2 (by omega), u1⟩
theorem ri_le {dl dh day : Int} (h : 0 ≤ dl ∧ dl ≤ dh ∧ dh ≤ 100) (hd : 0 ≤ day ∧ day ≤ 100000) : 0 ≤ dnI (dl * day) 100 ∧ dnI (dl * day) 100 ≤ upI (dh * day) 100 ∧ upI (dh * day) 100 ≤ 100000 := by
 have m1 : 0 ≤ dl * day := Int.mul_nonneg h.1 hd.1
 have m2 : dl * day ≤ dh * day := Int.mul_le_mul_of_nonneg_right h.2.1 hd.1
 have m3 : dh * day ≤ 100 * 100000 := Int.mul_le_mul h.2.2 hd.2 hd.1 (by omega)
 have u1 := up_mono (d := 100) (by omega) m3 (by omega)
 rw [up_mul (by omega) (by omega)] at u1
 exact ⟨(dn_spec m1 (by omega)).2.2.1, dn_up m1 m2 (by omega), u1⟩
theorem on_le {c T lo hi : Int} {n : Nat} {a b u v : Nat → Int} {m : Nat} {p q : Nat → Int} {pl ph dl dh : Int} {day : Int} (h : rdE c T lo hi n a b u v m p q pl ph dl dh = 0) (hd : 0 ≤ day ∧ day ≤ 100000) {k : Nat} (hk : (k : Int) ≤ c) : onL (wkA c T lo hi n a b u v m p q pl ph dl dh) k day ≤ onH (wkA c T lo hi n a b u v m p q pl ph dl dh) k day ∧ -100000 ≤ onL (wkA c T lo hi n a b u v m p q pl ph dl dh) k day ∧ onH (wkA c T lo hi n a b u v m p q pl ph dl dh) k day ≤ 2000 := by
 have h1 := bd_le h hk
 have h2 := ri_le (rd_bd h).2.2.1 hd
 rw [on_lo hk, on_hi hk]
 omega
theorem ke_iff {c T lo hi : Int} {n : Nat} {a b u v : Nat → Int} {m : Nat} {p q : Nat → Int} {pl ph dl dh : Int} {u0 u1 wi day : Int} (h : rdE c T lo hi n a b u v m p q pl ph dl dh = 0) (hd : 0 ≤ day ∧ day ≤ 100000) (hu : 0 ≤ u0 ∧ u1 ≤ c) : keB c (wkA c T lo hi n a b u v m p q pl ph dl dh) u0 u1 wi day = true ↔ ∀ k : Nat, u0 ≤ k → (k : Int) ≤ u1 → -wi ≤ onL (wkA c T lo hi n a b u v m p q pl ph dl dh) k day - teM c k ∧ onH (wkA c T lo hi n a b u v m p q pl ph dl dh) k day - teM c k ≤ wi := by
 unfold keB
 rw [allI_iff]
 constructor
 ·intro h1 k k1 k2
  have h2 := h1 (k - u0.toNat) (by omega)
  unfold keP at h2
  rw [insB_iff, show (u0 + ((k - u0.toNat : Nat) : Int)).toNat = k by omega] at h2
  exact ⟨h2.1, h2.2.2⟩
 ·intro h1 j hj
  have h2 := h1 (u0 + (j : Int)).toNat (by omega) (by omega)
  have h3 := on_le h hd (k := (u0 + (j : Int)).toNat) (by omega)
  unfold keP
  rw [insB_iff]
  omega
theorem InstrumentC_at (c T lo hi : Int) (n : Nat) (a b u v : Nat → Int) (m : Nat) (p q : Nat → Int) (pl ph dl dh : Int) (pre0 : n ≤ 100000) (pre1 : m ≤ 100000) : SoundCAt Tryz.prog 20 [.agg [i c, i T, i lo, i hi, rds n a b u v, Pt.scs m p q, i pl, i ph, i dl, i dh]] (.leaf (.agg [i c, i T, i lo, i hi, rds n a b u v, Pt.scs m p q, i pl, i ph, i dl, i dh])) := by
 refine soundCAt_fin (G := [(49, Bo.S_lTube), (50, Bo.S_lReadings), (69, Pt.S_lTable), (42, S_lto)]) (X := {}) (L := []) (SoundG.cons Bo.lTube_ok (SoundG.cons Bo.lReadings_ok (SoundG.cons Pt.lTable_ok (SoundG.cons lto_ok (SoundG.nil _))))) (SoundX.of (SoundRL.nil _) (SoundHL.nil _)) mixed Tryz.func20 (show Tryz.f20.body = some (bodyOf Tryz.f20) by kernel_rfl) noLoopsS (t := (need [isRec 4 n fun k => [Bo.i (a k), Bo.i (b k), Bo.i (u k), Bo.i (v k)], n ≤ 100000] (need [isRec 2 m fun k => [Pt.i (p k), Pt.i (q k)], m ≤ 100000] (leaf (agg [iI c, iI T, iI lo, iI hi, lst 4 n (rq4 a b u v), lst 2 m fun k => [iI (p k), iI (q k)], iI pl, iI ph, iI dl, iI dh]))))) (by kernel_rfl) ?_
 intro Q hQ
 simp only [Tree.sat, allP, fitP, fitL, valEq, true_and, and_true, decide_eq_true_eq, decide_eq_false_iff_not, bne_iff_ne, ne_eq, bne_eq_false_iff_eq, beq_iff_eq, beq_eq_false_iff_ne, Bool.not_eq_true', Bool.not_eq_false', not_true_eq_false, false_imp_iff, true_imp_iff] at hQ ⊢
 exact ⟨⟨Bo.isRec4 n a b u v, pre0⟩, ⟨Pt.isRec2 m p q, pre1⟩, .agg [i c, i T, i lo, i hi, rds n a b u v, Pt.scs m p q, i pl, i ph, i dl, i dh], ⟨⟨rfl, rfl⟩, ⟨rfl, rfl⟩, ⟨rfl, rfl⟩, ⟨rfl, rfl⟩, ⟨rfl, rfl, fun _ _ => rfl⟩, ⟨rfl, rfl, fun _ _ => rfl⟩, ⟨rfl, rfl⟩, ⟨rfl, rfl⟩, ⟨rfl, rfl⟩, ⟨rfl, rfl⟩, True.intro⟩, hQ⟩
noncomputable def C_Instrument : CSpec := fun l => match l with
 | [.agg [.x (.int .i64 c), .x (.int .i64 T), .x (.int .i64 lo), .x (.int .i64 hi), .lst 4 n fr, .lst 2 m ft, .x (.int .i64 pl), .x (.int .i64 ph), .x (.int .i64 dl), .x (.int .i64 dh)]] => some (.need [isRec 4 n fr, isRec 2 m ft, n ≤ 100000, m ≤ 100000] (.leaf (.agg [i c, i T, i lo, i hi, rds n (col 0 fr) (col 1 fr) (col 2 fr) (col 3 fr), Pt.scs m (Pt.col 0 ft) (Pt.col 1 ft), i pl, i ph, i dl, i dh])))
 | _ => none
theorem Instrument_okC : Sx.Enters Tryz.prog 20 ∧ ∀ avs t, C_Instrument avs = some t → SoundCAt Tryz.prog 20 avs t := by
 refine ⟨⟨_, Tryz.func20, by kernel_rfl, by kernel_rfl⟩, ?_⟩
 intro avs t h
 unfold C_Instrument at h
 split at h
 ·cases h
  intro Q hQ
  have hr : isRec 4 _ _ := allP_mem hQ.1 _ List.mem_cons_self
  have ht : isRec 2 _ _ := allP_mem hQ.1 _ (List.mem_cons_of_mem _ List.mem_cons_self)
  exact SoundCAt.same (InstrumentC_at _ _ _ _ _ _ _ _ _ _ _ _ _ _ _ _ (allP_mem hQ.1 _ (by simp)) (allP_mem hQ.1 _ (by simp))) (.cons (Sames.same (.cons (.refl _) (.cons (.refl _) (.cons (.refl _) (.cons (.refl _) (.cons (.lst 4 _ _ _ hr) (.cons (.lst 2 _ _ _ ht) (.cons (.refl _) (.cons (.refl _) (.cons (.refl _) (.cons (.refl _) .nil))))))))))) .nil) Q hQ.2
 ·cases h
theorem kp_ke {c T lo hi : Int} {n : Nat} {a b u v : Nat → Int} {m : Nat} {p q : Nat → Int} {pl ph dl dh : Int} {u0 u1 wi day : Int} (h : asE c T lo hi n a b u v m p q pl ph dl dh u0 u1 wi day = 0) : kpB c T lo hi n a b u v m p q pl ph dl dh u0 u1 wi day = keB c (wkA c T lo hi n a b u v m p q pl ph dl dh) u0 u1 wi day := by
 unfold kpB
 rw [decide_eq_true h]
 rfl
end Go.Proofs.YtlinbkmpkcmniaaGreat
namespace Go.Proofs.YtlinbkmpkcmniaaGreat
open Go Go.Sx Go.RowKit Bo Bo
open Go.Sx.Tree (need branch leaf)
open Go.Sx.AV (lst ptr agg roI tup top)
end Go.Proofs.YtlinbkmpkcmniaaGreat
namespace Go.Proofs.YtlinbkmpkcmniaaGreat
open Go Go.Sx Go.RowKit Bo
open Go.Sx.Tree (need branch leaf)
open Go.Sx.AV (lst ptr agg roI tup top)
end Go.Proofs.YtlinbkmpkcmniaaGreat
namespace Go.Proofs.YtlinbkmpkcmniaaGreat
open Go Go.Sx Go.RowKit Bo
open Go.Sx.Tree (need branch leaf)
open Go.Sx.AV (lst ptr agg roI tup top)
theorem TrulyC_at (c T lo hi : Int) (n : Nat) (a b u v : Nat → Int) (m : Nat) (p q : Nat → Int) (pl ph dl dh : Int) (nw : Nat) (w : Nat → Int) (nz : Nat) (z : Nat → Int) (pre0 : tubeB c T lo hi = true) (pre1 : nw ≤ 10000000000000000000) (pre2 : wOk nw w) (pre3 : nz ≤ 10000000000000000000) (pre4 : wOk nz z) : SoundCAt Tryz.prog 29 [.agg [i c, i T, i lo, i hi, rds n a b u v, Pt.scs m p q, i pl, i ph, i dl, i dh], wds nw w, wds nz z] (.leaf (.tup [.agg [i c, i T, i lo, i hi, rds (min nz 12) (yA c z) (yB c T lo hi nw w z) (yU c T lo hi nw w z) (yV c T lo hi nw w z), Pt.scs m p q, i pl, i ph, i dl, i dh], .lst 1 c.toNat (fun k => [i (trV c T lo hi nw w k)])])) := by
 refine soundCAt_fin (G := [(76, Bo.S_Truly), (77, Bo.S_Seen)]) (X := {}) (L := []) (SoundG.cons Bo.Truly_ok (SoundG.cons Bo.Seen_ok (SoundG.nil _))) (SoundX.of (SoundRL.nil _) (SoundHL.nil _)) mixed Tryz.func29 (show Tryz.f29.body = some (bodyOf Tryz.f29) by kernel_rfl) noLoopsS (t := (let z0 := (trV c T lo hi nw fun j => wAt [AV.x (Value.int IntKind.u16 (w j))]); (need [isW nw fun k => [AV.x (Value.int IntKind.u16 (w k))], tubeB c T lo hi = true, nw ≤ 10000000000000000000, wOk nw fun j => wAt [AV.x (Value.int IntKind.u16 (w j))]] (need [isRec 1 (Int.toNat c) fun k => [Bo.i (trV c T lo hi nw (fun j => wAt [AV.x (Value.int IntKind.u16 (w j))]) k)], isW nz fun k => [AV.x (Value.int IntKind.u16 (z k))], tubeB c T lo hi = true, (↑(Int.toNat c) : Int) = c, ∀ (j : Nat), j < Int.toNat c → lo ≤ trV c T lo hi nw (fun j => wAt [AV.x (Value.int IntKind.u16 (w j))]) j ∧ trV c T lo hi nw (fun j => wAt [AV.x (Value.int IntKind.u16 (w j))]) j ≤ hi, nz ≤ 10000000000000000000, wOk nz fun j => wAt [AV.x (Value.int IntKind.u16 (z j))]] (leaf (tup [agg [iI c, iI T, iI lo, iI hi, lst 4 (min nz 12) fun k => [iI (seA c (wAt [AV.x (Value.int IntKind.u16 (z k))])), iI (seB c T z0 (wAt [AV.x (Value.int IntKind.u16 (z k))])), iI (seU c T z0 (wAt [AV.x (Value.int IntKind.u16 (z k))])), iI (seV c T z0 (wAt [AV.x (Value.int IntKind.u16 (z k))]))], lst 2 m fun k => [iI (p k), iI (q k)], iI pl, iI ph, iI dl, iI dh], lst 1 (Int.toNat c) fun k => [iI (trV c T lo hi nw (fun j => wAt [AV.x (Value.int IntKind.u16 (w j))]) k)]])))))) (by kernel_rfl) ?_
 intro Q hQ
 have hb := tube_bd pre0
 have hv := trV_bd (n := nw) ⟨hb.2.1.1, hb.2.1.2.1⟩ hb.2.2 pre2
 simp only [Tree.sat, allP, fitP, fitL, valEq, true_and, and_true, decide_eq_true_eq, decide_eq_false_iff_not, bne_iff_ne, ne_eq, bne_eq_false_iff_eq, beq_iff_eq, beq_eq_false_iff_ne, Bool.not_eq_true', Bool.not_eq_false', not_true_eq_false, false_imp_iff, true_imp_iff] at hQ ⊢
 exact ⟨⟨isWn _ _, pre0, pre1, pre2⟩, ⟨isRec1 _ _, isWn _ _, pre0, by omega, fun j hj => ⟨(hv j (by omega)).1, (hv j (by omega)).2.1⟩, pre3, pre4⟩, .tup [.agg [i c, i T, i lo, i hi, rds (min nz 12) (yA c z) (yB c T lo hi nw w z) (yU c T lo hi nw w z) (yV c T lo hi nw w z), Pt.scs m p q, i pl, i ph, i dl, i dh], .lst 1 c.toNat (fun k => [i (trV c T lo hi nw w k)])], ⟨⟨⟨rfl, rfl⟩, ⟨rfl, rfl⟩, ⟨rfl, rfl⟩, ⟨rfl, rfl⟩, ⟨rfl, rfl, fun _ _ => rfl⟩, ⟨rfl, rfl, fun _ _ => rfl⟩, ⟨rfl, rfl⟩, ⟨rfl, rfl⟩, ⟨rfl, rfl⟩, ⟨rfl, rfl⟩, True.intro⟩, ⟨rfl, rfl, fun _ _ => rfl⟩, True.intro⟩, hQ⟩
noncomputable def C_Truly : CSpec := fun l => match l with
 | [.agg [.x (.int .i64 c), .x (.int .i64 T), .x (.int .i64 lo), .x (.int .i64 hi), .lst 4 n fr, .lst 2 m ft, .x (.int .i64 pl), .x (.int .i64 ph), .x (.int .i64 dl), .x (.int .i64 dh)], .lst 1 nw fw, .lst 1 nz fz] => some (.need [isRec 4 n fr, isRec 2 m ft, isW nw fw, isW nz fz, tubeB c T lo hi = true, nw ≤ 10000000000000000000, wOk nw (fun j => wAt (fw j)), nz ≤ 10000000000000000000, wOk nz (fun j => wAt (fz j))] (.leaf (.tup [.agg [i c, i T, i lo, i hi, rds (min nz 12) (yA c (fun j => wAt (fz j))) (yB c T lo hi nw (fun j => wAt (fw j)) (fun j => wAt (fz j))) (yU c T lo hi nw (fun j => wAt (fw j)) (fun j => wAt (fz j))) (yV c T lo hi nw (fun j => wAt (fw j)) (fun j => wAt (fz j))), Pt.scs m (Pt.col 0 ft) (Pt.col 1 ft), i pl, i ph, i dl, i dh], .lst 1 c.toNat (fun k => [i (trV c T lo hi nw (fun j => wAt (fw j)) k)])])))
 | _ => none
theorem Truly_okC : Sx.Enters Tryz.prog 29 ∧ ∀ avs t, C_Truly avs = some t → SoundCAt Tryz.prog 29 avs t := by
 refine ⟨⟨_, Tryz.func29, by kernel_rfl, by kernel_rfl⟩, ?_⟩
 intro avs t h
 unfold C_Truly at h
 split at h
 ·rename_i c T lo hi n fr m ft pl ph dl dh nw fw nz fz
  cases h
  intro Q hQ
  have hn := allP_mem hQ.1
  have hr : isRec 4 _ _ := hn _ List.mem_cons_self
  have ht : isRec 2 _ _ := hn _ (List.mem_cons_of_mem _ List.mem_cons_self)
  have hw : isW _ _ := hn _ (List.mem_cons_of_mem _ (List.mem_cons_of_mem _ List.mem_cons_self))
  have hz : isW _ _ := hn _ (List.mem_cons_of_mem _ (List.mem_cons_of_mem _ (List.mem_cons_of_mem _ List.mem_cons_self)))
  exact SoundCAt.same (TrulyC_at c T lo hi n (col 0 fr) (col 1 fr) (col 2 fr) (col 3 fr) m (Pt.col 0 ft) (Pt.col 1 ft) pl ph dl dh nw (fun j => wAt (fw j)) nz (fun j => wAt (fz j)) (hn _ (by simp)) (hn _ (by simp)) (hn _ (by simp)) (hn _ (by simp)) (hn _ (by simp))) (.cons (Sames.same (.cons (.refl _) (.cons (.refl _) (.cons (.refl _) (.cons (.refl _) (.cons (.lst 4 _ _ _ hr) (.cons (.lst 2 _ _ _ ht) (.cons (.refl _) (.cons (.refl _) (.cons (.refl _) (.cons (.refl _) .nil))))))))))) (.cons (.lst 1 _ _ _ hw) (.cons (.lst 1 _ _ _ hz) .nil))) Q hQ.2
 ·cases h
theorem ke_more {c T lo hi : Int} {n n' : Nat} {a b u v a' b' u' v' : Nat → Int} {m : Nat} {p q : Nat → Int} {pl ph dl dh u0 u1 wi day : Int} (h : rdE c T lo hi n a b u v m p q pl ph dl dh = 0) (h' : rdE c T lo hi n' a' b' u' v' m p q pl ph dl dh = 0) (hu : usB c u0 u1 wi = true) (hd : 0 ≤ day ∧ day ≤ 10000)
  (hx : ∀ k : Nat, (k : Int) ≤ c → -fwB c T lo hi n a b u v k 0 ≤ -fwB c T lo hi n' a' b' u' v' k 0 ∧ fwB c T lo hi n' a' b' u' v' 0 k ≤ fwB c T lo hi n a b u v 0 k) (hk : keB c (wkA c T lo hi n a b u v m p q pl ph dl dh) u0 u1 wi day = true) : keB c (wkA c T lo hi n' a' b' u' v' m p q pl ph dl dh) u0 u1 wi day = true := by
 have hu := usB_iff.1 hu
 have rb := rd_bd h
 have rb' := rd_bd h'
 have tb := tube_bd rb.1
 rw [ke_iff h ⟨by omega, by omega⟩ ⟨by omega, by omega⟩] at hk
 rw [ke_iff h' ⟨by omega, by omega⟩ ⟨by omega, by omega⟩]
 intro k k1 k2
 have h1 := hk k k1 k2
 have hc : (k : Int) ≤ c := by omega
 have h2 := hx k hc
 have t1 := ht_bd rb.2.1 hc
 have t2 := ht_bd rb'.2.1 hc
 rw [on_lo hc, on_hi hc] at h1 ⊢
 have e1 : bdL c T lo hi n a b u v m p q pl ph k ≤ bdL c T lo hi n' a' b' u' v' m p q pl ph k := dn_mono (Int.mul_nonneg t1.1 (by omega)) (Int.mul_le_mul_of_nonneg_right h2.1 (by omega)) (by omega)
 have e2 : bdH c T lo hi n' a' b' u' v' m p q pl ph k ≤ bdH c T lo hi n a b u v m p q pl ph k := up_mono (Int.mul_nonneg (by omega) (by omega)) (Int.mul_le_mul_of_nonneg_right h2.2 (by omega)) (by omega)
 omega
end Go.Proofs.YtlinbkmpkcmniaaGreat
namespace Go.Proofs.YtlinbkmpkcmniaaGreat
open Go Go.Sx Go.RowKit Bo
open Go.Sx.Tree (need branch leaf)
open Go.Sx.AV (lst ptr agg roI tup top)
end Go.Proofs.YtlinbkmpkcmniaaGreat
namespace Go.Proofs.YtlinbkmpkcmniaaGreat
open Go Go.Sx Go.RowKit Bo
open Go.Sx.Tree (need branch leaf)
open Go.Sx.AV (lst ptr agg roI tup top)
end Go.Proofs.YtlinbkmpkcmniaaGreat
namespace Go.Proofs.YtlinbkmpkcmniaaGreat
open Go Go.Sx Go.RowKit Bo
open Go.Sx.Tree (need branch leaf)
open Go.Sx.AV (lst ptr agg roI tup top)
end Go.Proofs.YtlinbkmpkcmniaaGreat
namespace Go.Proofs.YtlinbkmpkcmniaaGreat
open Go Go.Sx Go.RowKit Bo
open Go.Sx.Tree (need branch leaf)
open Go.Sx.AV (lst ptr agg roI tup top)
end Go.Proofs.YtlinbkmpkcmniaaGreat
namespace Go.Proofs.YtlinbkmpkcmniaaGreat
open Go Go.Sx Go.RowKit Bo
open Go.Sx.Tree (need branch leaf)
open Go.Sx.AV (lst ptr agg roI tup top)
end Go.Proofs.YtlinbkmpkcmniaaGreat
namespace Go.Proofs.YtlinbkmpkcmniaaGreat
open Go Go.Sx Go.RowKit Bo
open Go.Sx.Tree (need branch leaf)
open Go.Sx.AV (lst ptr agg roI tup top)
def firstO (f : Nat → Option (List Int)) : Nat → Nat → Option (List Int)
 | _, 0 => none
 | s, k + 1 => match f s with
  | some r => some r
  | none => firstO f (s + 1) k
def lvF (p : List Int → Bool) (n : Nat) : Nat → List Int → Nat → Option (List Int)
 | 0, out, _ => if p out then some out else none
 | m + 1, out, s => firstO (fun k => lvF p n m (out ++ [(k : Int)]) (k + 1)) s (n - s)
def lvG (p : List Int → Bool) (n m : Nat) (out : List Int) (s : Nat) : List Int := (lvF p n m out s).getD []
def noAka (m : Mem) : Mem := m.filter fun p => !isAka p.2
def keepN (k : Nat) (ids : List Nat) : Mem → List Prop
 | [] => []
 | (q, r) :: t => match ids.any (Nat.beq q) with
  | true => match r with
   | .row T sz n' f' => (T = 3 ∧ sz = 1 ∧ n' ≤ k ∧ isRec 1 n' f') :: keepN k ids t
   | .aka _ _ _ _ _ => keepN k ids t
   | _ => False :: keepN k ids t
  | false => keepN k ids t
def numsB : List (Nat × Nat) → Bool
 | [] => true
 | (x, y) :: t => match Nat.beq x y with
  | true => numsB t
  | false => false
def lvOut (m : Mem) : AV → Option (List Nat × Nat × (Nat → List AV))
 | .row q => match getM m q with
  | some (.row T sz k g) => match numsB [(T, 3), (sz, 1)] with
   | true => some ([q], k, g)
   | false => none
  | some (.aka r T sz k g) => match numsB [(T, 3), (sz, 1)] with
   | true => some ([q, r], k, g)
   | false => none
  | _ => none
 | .x (.slice none 0 0) => some ([], 0, fun _ => [])
 | _ => none
def outL (k : Nat) (g : Nat → List AV) : List Int := (List.range k).map (col 0 g)
def risF : Nat → Nat → List Int → Prop
 | _, _, [] => True
 | s, n, x :: t => (s : Int) ≤ x ∧ x < n ∧ risF (x.toNat + 1) n t
def lexL : List Int → List Int → Bool
 | x :: a, y :: b => if x = y then lexL a b else decide (x < y)
 | _, _ => false
def blR (p : List Int → Bool) (n : Nat) : List Int := (firstO (fun m => lvF p n m [] 0) 0 (n + 1)).getD []
def numsL (s : Nat) : Nat → List Int
 | 0 => []
 | k + 1 => (s : Int) :: numsL (s + 1) k
theorem nthJ_get : ∀ {l : List Int} {k : Nat} (h : k < l.length), nthJ l k = l[k]
 | x :: l, 0, h => rfl
 | x :: l, k + 1, h => nthJ_get (l := l) (k := k) (by simpa using h)
theorem nthJ_bang : ∀ (l : List Int) (j : Nat), j < l.length → l[j]? = some (nthJ l j) := fun l j hj => by rw [List.getElem?_eq_getElem hj, nthJ_get hj]
theorem outL_list {k : Nat} {g : Nat → List AV} {l : List Int} (hl : l.length = k) (h : ∀ j, j < k → g j = [i (nthJ l j)]) : outL k g = l := by
 unfold outL
 apply List.ext_getElem?
 intro j
 rcases Nat.lt_or_ge j k with hj | hj
 ·rw [List.getElem?_map, List.getElem?_range hj, List.getElem?_eq_getElem (by omega)]
  simp only [Option.map_some, Option.some.injEq]
  unfold col
  rw [h j hj, nthJ_get (by omega)]
  rfl
 ·rw [List.getElem?_eq_none (by simp; omega), List.getElem?_eq_none (by omega)]
theorem outL_app (l : List Int) (x : Int) : outL (l.length + 1) (catF l.length (fun j => [i (nthJ l j)]) (chunk 1 [i x])) = l ++ [x] := outL_list (by simp) fun j hj => catJ1 hj
theorem rec_app (l : List Int) (x : Int) : isRec 1 (l.length + 1) (catF l.length (fun j => [i (nthJ l j)]) (chunk 1 [i x])) := fun j hj => by
 rw [catJ1 hj]
 rfl
theorem firstO_none {f : Nat → Option (List Int)} : ∀ {k s : Nat}, firstO f s k = none ↔ ∀ j, s ≤ j → j < s + k → f j = none
 | 0, s => ⟨fun _ j h1 h2 => by omega, fun _ => rfl⟩
 | k + 1, s => by
  unfold firstO
  cases h : f s with
  | some r => exact ⟨fun h1 => (by cases h1), fun h1 => (by rw [h1 s (Nat.le_refl _) (by omega)] at h; cases h)⟩
  | none =>
   simp only
   rw [firstO_none]
   refine ⟨fun h1 j h2 h3 => ?_, fun h1 j h2 h3 => h1 j (by omega) (by omega)⟩
   rcases (show j = s ∨ s + 1 ≤ j by omega) with rfl | h4
   ·exact h
   ·exact h1 j h4 (by omega)
theorem firstO_some {f : Nat → Option (List Int)} {r : List Int} {q : Nat} (hq : f q = some r) : ∀ {k s : Nat}, s ≤ q → q < s + k → (∀ j, s ≤ j → j < q → f j = none) → firstO f s k = some r
 | 0, s, h1, h2, _ => by omega
 | k + 1, s, h1, h2, h3 => by
  unfold firstO
  rcases (show s = q ∨ s < q by omega) with rfl | h4
  ·rw [hq]
  ·rw [h3 s (Nat.le_refl _) h4]
   exact firstO_some hq h4 (by omega) (fun j h5 h6 => h3 j (by omega) h6)
theorem numsB_cons {x y : Nat} {t : List (Nat × Nat)} : numsB ((x, y) :: t) = true ↔ x = y ∧ numsB t = true := by
 show (match Nat.beq x y with | true => numsB t | false => false) = true ↔ _
 cases h : Nat.beq x y with
 | true => simp [Nat.eq_of_beq_eq_true h]
 | false =>
  simp only [Bool.false_eq_true, false_iff, not_and]
  intro he
  rw [he, Nat.beq_refl] at h
  cases h
theorem nbeq_ne {x y : Nat} (h : (!Nat.beq x y) = true) : x ≠ y := by
 rintro rfl
 rw [Nat.beq_refl] at h
 cases h
theorem keepN_spec {k : Nat} {ids : List Nat} : ∀ {m : Mem}, (∀ p ∈ keepN k ids m, p) → ∀ p ∈ m, p.1 ∈ ids → isAka p.2 = true ∨ ∃ n' f', p.2 = .row 3 1 n' f' ∧ n' ≤ k ∧ isRec 1 n' f'
 | [], _, p, hp, _ => by cases hp
 | (q, r) :: t, h, p, hp, hi => by
  unfold keepN at h
  rcases List.mem_cons.1 hp with rfl | hp
  ·have hany : ids.any (Nat.beq q) = true := List.any_eq_true.2 ⟨q, hi, Nat.beq_refl q⟩
   rw [hany] at h
   cases r with
   | row T sz n' f' =>
    obtain ⟨rfl, rfl, h1, h2⟩ := h _ List.mem_cons_self
    exact .inr ⟨n', f', rfl, h1, h2⟩
   | aka _ _ _ _ _ => exact .inl rfl
   | cells _ _ => exact (h _ List.mem_cons_self).elim
   | memo _ _ => exact (h _ List.mem_cons_self).elim
   | ints _ _ _ _ => exact (h _ List.mem_cons_self).elim
  ·refine keepN_spec (m := t) (fun x hx => h x ?_) p hp hi
   split
   ·split
    ·exact List.mem_cons_of_mem _ hx
    ·exact hx
    ·exact List.mem_cons_of_mem _ hx
   ·exact hx
theorem noAka_mem {m : Mem} {p : Nat × Res} (h : p ∈ noAka m) : p ∈ m ∧ isAka p.2 = false := by
 unfold noAka at h
 rw [List.mem_filter] at h
 exact ⟨h.1, by simpa using h.2⟩
theorem rowO_ex {e : Env} {w : World} {id o n : Nat} {f : Nat → List AV} (h : RowO e w id o 3 1 n f) (hr : isRec 1 n f) : w.ownsRow 0 3 1 (e.val id) n ((outL n f).map (Value.int .i64)) := by
 obtain ⟨h2, hf, xs, h3, h4⟩ := h
 have hx : xs = (outL n f).map (Value.int .i64) := by
  apply List.ext_getElem?
  intro j
  unfold outL
  have hl : xs.length = n * 1 := h3.1
  rcases Nat.lt_or_ge j n with hj | hj
  ·have hx : xs[j]? = some xs[j] := List.getElem?_eq_getElem (by omega)
   have e1 : (f j)[0]? = some (iI (col 0 f j)) := by
    rw [hr j hj]
    rfl
   have := h4 j 0 _ xs[j] hj e1 (by rw [show j * 1 + 0 = j by omega]; exact hx)
   rw [hx, this.x_inv]
   simp [hj]
  ·rw [List.getElem?_eq_none (by omega), List.getElem?_eq_none (by simp; omega)]
 subst hx
 exact h3
theorem row_ex2 {e : Env} {w : World} {id n : Nat} {f : Nat → List AV} (h : Holds e w id (.row 3 1 n f)) (hr : isRec 1 n f) : w.ownsRow 0 3 1 (e.val id) n ((outL n f).map (Value.int .i64)) := rowO_ex (o := id) h.2 hr
theorem lvOut_of {e : Env} {w : World} {m : Mem} {o : AV} {ids : List Nat} {k : Nat} {g : Nat → List AV} {ov : Value} (h : lvOut m o = some (ids, k, g)) (hm : MemOk e m w) (hr : isRec 1 k g) (r : Rep e w o ov) :
  (∃ a nn cc, ov = .slice a nn cc) ∧ w.ownsRow 0 3 1 ov k ((outL k g).map (Value.int .i64)) ∧ ∀ b, ov.ownBlock = some b → ∃ j, j ∈ ids ∧ e.own b = some j := by
 unfold lvOut at h
 split at h
 ·rename_i q
  have hv : ∃ a nn cc, ov = .slice a nn cc ∧ e.val q = ov := by
   cases r with
   | row _ a nn cc _ hv => exact ⟨a, nn, cc, rfl, hv⟩
  obtain ⟨a, nn, cc, h1, h2⟩ := hv
  split at h
  ·rename_i T sz k' g' hg
   split at h
   ·rename_i hb
    simp only [numsB_cons] at hb
    obtain ⟨rfl, rfl, _⟩ := hb
    cases h
    have hh := hm _ (getM_mem hg)
    have hx := row_ex2 hh hr
    simp only at hx
    rw [h2] at hx
    refine ⟨⟨a, nn, cc, h1⟩, hx, fun b hb => ⟨q, List.mem_singleton.2 rfl, hh.2.1 b ?_⟩⟩
    show (e.val q).ownBlock = some b
    rw [h2]
    exact hb
   ·cases h
  ·rename_i r' T sz k' g' hg
   split at h
   ·rename_i hb
    simp only [numsB_cons] at hb
    obtain ⟨rfl, rfl, _⟩ := hb
    cases h
    obtain ⟨g1, g2, o', hor, hO⟩ := hm _ (getM_mem hg)
    have hx := rowO_ex hO hr
    simp only at hx
    rw [h2] at hx
    refine ⟨⟨a, nn, cc, h1⟩, hx, fun b hb => ⟨o', ?_, hO.1 b ?_⟩⟩
    ·rcases hor with rfl | rfl
     ·exact List.mem_cons_self
     ·exact List.mem_cons_of_mem _ List.mem_cons_self
    ·show (e.val q).ownBlock = some b
     rw [h2]
     exact hb
   ·cases h
  ·cases h
 ·cases h
  cases r.x_inv
  exact ⟨⟨none, 0, 0, rfl⟩, World.ownsRow_nil _ _ _ _, fun b hb => by cases hb⟩
 ·cases h
theorem holds_lv {e e' : Env} {B : Nat} {w w1 : World} {bf bm k : Nat} {ov : Value} {xs : List Value} {ids : List Nat} {fo mp : Nat} (st : Step e e' w w1) (hown : ∀ b j, e.own b = some j → e'.own b = some j) (hE : EnvOk e B w)
  (hsame : ∀ b, b < w.heap.size → b ≠ bf → b ≠ bm → ov.ownBlock ≠ some b → w1.heap[b]? = w.heap[b]?) (hbf : e.own bf = some fo) (hbm : e.own bm = some mp) (hob : ∀ b, ov.ownBlock = some b → ∃ j, j ∈ ids ∧ e.own b = some j)
  (ho : w.ownsRow 0 3 1 ov k xs) (ho1 : w1.ownsRow 0 3 1 ov k xs) {p : Nat × Res} (hp : p.1 ≠ fo) (hp2 : p.1 ≠ mp) (hna : isAka p.2 = false) (hk : p.1 ∈ ids → isAka p.2 = true ∨ ∃ n' f', p.2 = .row 3 1 n' f' ∧ n' ≤ k ∧ isRec 1 n' f') (h : Holds e w p.1 p.2) : Holds e' w1 p.1 p.2 := by
 obtain ⟨q, r⟩ := p
 simp only at hp hp2 hna hk h ⊢
 have hb : ∀ b, e.own b = some q → b ≠ bf := fun b hb he => hp (by rw [he, hbf] at hb; exact (Option.some.inj hb).symm)
 have hb2 : ∀ b, e.own b = some q → b ≠ bm := fun b hb he => hp2 (by rw [he, hbm] at hb; exact (Option.some.inj hb).symm)
 have hout : ∀ b, e.own b = some q → (∀ n' f', r ≠ .row 3 1 n' f') → w1.heap[b]? = w.heap[b]? := by
  intro b hq hnr
  refine hsame b (hE.owned b q hq).2 (hb b hq) (hb2 b hq) fun he => ?_
  obtain ⟨j, hj, hj2⟩ := hob b he
  have : q = j := by rw [hq] at hj2; exact Option.some.inj hj2
  rcases hk (this ▸ hj) with h1 | ⟨n', f', h1, _⟩
  ·rw [hna] at h1; cases h1
  ·exact hnr n' f' h1
 cases r with
 | cells T l =>
  obtain ⟨h1, h2, vs, h3, h4⟩ := h
  obtain ⟨l1, l2, l3⟩ := st.live q h1
  refine ⟨l1, by rw [l2]; exact hown _ _ h2, vs, ?_, h4.step st⟩
  rw [l2, hout _ h2 (fun _ _ hh => by cases hh)]
  exact h3
 | ints T pre n f =>
  obtain ⟨h1, h2, vs, h3, h4⟩ := h
  obtain ⟨l1, l2, l3⟩ := st.live q h1
  refine ⟨l1, by rw [l2]; exact hown _ _ h2, vs, ?_, h4.step st⟩
  rw [l2, hout _ h2 (fun _ _ hh => by cases hh)]
  exact h3
 | memo g f =>
  obtain ⟨h1, h2, es, c, h3, h4⟩ := h
  obtain ⟨l1, l2, l3⟩ := st.live q h1
  refine ⟨l1, by rw [l2]; exact hown _ _ h2, es, c, ?_, h4⟩
  rw [l2, hout _ h2 (fun _ _ hh => by cases hh)]
  exact h3
 | aka _ _ _ _ _ => cases hna
 | row T sz n f =>
  have h' := h
  obtain ⟨h1, h2, hf, ys, h3, h4⟩ := h
  obtain ⟨l1, l2, l3⟩ := st.live q h1
  refine ⟨l1, fun b hb' => hown _ _ (h2 b (by rw [← l3]; exact hb')), hf, ys, ?_, fun i j a v hi ha hv => (h4 i j a v hi ha hv).step st⟩
  rw [l3]
  refine ⟨h3.1, h3.2.imp (fun h => h) ?_⟩
  rintro ⟨g', cap', cur', hv, hg, hh, r1, r2, r3, r4⟩
  have hq := h2 g' (by rw [hv]; rfl)
  rcases Classical.em (ov.ownBlock = some g') with he | he
  ·obtain ⟨j, hj, hj2⟩ := hob g' he
   have hqj : q = j := by rw [hq] at hj2; exact Option.some.inj hj2
   rcases hk (hqj ▸ hj) with h5 | ⟨n', f', h5, hle, hrec⟩
   ·cases h5
   ·cases h5
    rcases ho.2 with ⟨hv2, _⟩ | ⟨g2, cap2, cur2, hv2, _, hh2, s1, s2, s3, s4⟩
    ·rw [hv2] at he; cases he
    ·rcases ho1.2 with ⟨hv3, _⟩ | ⟨g3, cap3, cur3, hv3, _, hh3, t1, t2, t3, t4⟩
     ·rw [hv3] at he; cases he
     ·rw [hv2] at hv3
      injection hv3 with u1 u2 u3
      injection u1 with u1
      injection u1 with u1
      have hg2 : g2 = g' := by rw [hv2] at he; exact Option.some.inj he
      rw [hg2] at hh2
      rw [← u1, hg2] at hh3
      have hcc : cur' = cur2 := by
       rw [hh] at hh2
       injection hh2 with hh2
       injection hh2
      refine ⟨g', cap', cur3, hv, hg, hh3, r1, r2, by rw [t3, ← u3, ← s3, ← hcc]; exact r3, ?_⟩
      rw [← r4, hcc]
      have e1 := congrArg (List.take (n * 1)) s4
      have e2 := congrArg (List.take (n * 1)) t4
      rw [List.take_take, Nat.min_eq_left (by omega)] at e1 e2
      rw [e1, e2]
  ·exact ⟨g', cap', cur', hv, hg, (hsame g' (hE.owned g' q hq).2 (hb g' hq) (hb2 g' hq) he).trans hh, r1, r2, r3, r4⟩
theorem risF_len : ∀ {S : List Int} {s n : Nat}, risF s n S → S.length ≤ n - s
 | [], _, _, _ => Nat.zero_le _
 | x :: t, s, n, h => by
  obtain ⟨h1, h2, h3⟩ := h
  have := risF_len h3
  rw [List.length_cons]
  omega
theorem firstO_inv {f : Nat → Option (List Int)} {R : List Int} : ∀ {k s : Nat}, firstO f s k = some R → ∃ q, s ≤ q ∧ q < s + k ∧ f q = some R ∧ ∀ j, s ≤ j → j < q → f j = none
 | 0, _, h => by cases h
 | k + 1, s, h => by
  unfold firstO at h
  cases hf : f s with
  | some r =>
   rw [hf] at h
   cases h
   exact ⟨s, Nat.le_refl _, by omega, hf, fun j h1 h2 => by omega⟩
  | none =>
   rw [hf] at h
   obtain ⟨q, h1, h2, h3, h4⟩ := firstO_inv h
   refine ⟨q, by omega, by omega, h3, fun j h5 h6 => ?_⟩
   rcases (show j = s ∨ s + 1 ≤ j by omega) with rfl | h7
   ·exact hf
   ·exact h4 j h7 h6
theorem lvF_some {p : List Int → Bool} {n : Nat} : ∀ {S out : List Int} {s : Nat}, risF s n S → p (out ++ S) = true → (lvF p n S.length out s).isSome = true
 | [], out, s, _, hp => by
  rw [List.append_nil] at hp
  show (if p out then some out else none).isSome = true
  rw [if_pos hp]
  rfl
 | x :: t, out, s, h, hp => by
  obtain ⟨h1, h2, h3⟩ := h
  have ih := lvF_some (p := p) (out := out ++ [x]) h3 (by rw [List.append_assoc]; exact hp)
  show (firstO (fun k => lvF p n t.length (out ++ [(k : Int)]) (k + 1)) s (n - s)).isSome = true
  cases hf : firstO (fun k => lvF p n t.length (out ++ [(k : Int)]) (k + 1)) s (n - s) with
  | some r => rfl
  | none =>
   have := firstO_none.1 hf x.toNat (by omega) (by omega)
   have e : ((x.toNat : Nat) : Int) = x := by omega
   simp only [e] at this
   rw [this] at ih
   cases ih
theorem lvF_spec {p : List Int → Bool} {n : Nat} : ∀ {m : Nat} {out : List Int} {s : Nat} {R : List Int}, lvF p n m out s = some R → ∃ S, R = out ++ S ∧ S.length = m ∧ risF s n S ∧ p R = true ∧ ∀ S', S'.length = m → risF s n S' → p (out ++ S') = true → lexL S' S = false
 | 0, out, s, R, h => by
  have h : (if p out then some out else none) = some R := h
  split at h
  ·rename_i hp
   cases h
   exact ⟨[], by simp, rfl, trivial, hp, fun S' h1 _ _ => by rw [List.eq_nil_of_length_eq_zero h1]; rfl⟩
  ·cases h
 | m + 1, out, s, R, h => by
  obtain ⟨q, h1, h2, h3, h4⟩ := firstO_inv (f := fun k => lvF p n m (out ++ [(k : Int)]) (k + 1)) h
  obtain ⟨S, e1, e2, e3, e4, e5⟩ := lvF_spec h3
  refine ⟨(q : Int) :: S, by rw [e1, List.append_assoc]; rfl, by rw [List.length_cons, e2], ⟨by omega, by omega, by rw [Int.toNat_natCast]; exact e3⟩, e4, fun S' h5 h6 h7 => ?_⟩
  cases S' with
  | nil => cases h5
  | cons x t =>
   obtain ⟨g1, g2, g3⟩ := h6
   have ht : t.length = m := by simpa using h5
   show (if x = (q : Int) then lexL t S else decide (x < (q : Int))) = false
   by_cases hx : x = (q : Int)
   ·rw [if_pos hx]
    subst hx
    rw [Int.toNat_natCast] at g3
    exact e5 t ht g3 (by rw [List.append_assoc]; exact h7)
   ·rw [if_neg hx, decide_eq_false_iff_not]
    intro hlt
    have hn := h4 x.toNat (by omega) (by omega)
    have e : ((x.toNat : Nat) : Int) = x := by omega
    simp only [e] at hn
    have := lvF_some (p := p) (out := out ++ [x]) g3 (by rw [List.append_assoc]; exact h7)
    rw [ht, hn] at this
    cases this
theorem blR_spec {p : List Int → Bool} {n : Nat} {S0 : List Int} (h : risF 0 n S0) (hp : p S0 = true) : ∃ m, m ≤ n ∧ lvF p n m [] 0 = some (blR p n) ∧ (∀ j, j < m → lvF p n j [] 0 = none) ∧ risF 0 n (blR p n) ∧ p (blR p n) = true ∧ (blR p n).length = m ∧
  ∀ S, risF 0 n S → p S = true → m ≤ S.length ∧ (S.length = m → lexL S (blR p n) = false) := by
 have hl := risF_len h
 have h0 := lvF_some (p := p) (out := []) h hp
 cases hf : firstO (fun m => lvF p n m [] 0) 0 (n + 1) with
 | none =>
  have := firstO_none.1 hf S0.length (Nat.zero_le _) (by omega)
  rw [this] at h0
  cases h0
 | some R =>
  obtain ⟨m, _, h2, h3, h4⟩ := firstO_inv hf
  have eR : blR p n = R := by unfold blR; rw [hf]; rfl
  rw [eR]
  obtain ⟨S, e1, e2, e3, e4, e5⟩ := lvF_spec h3
  have e1 : R = S := e1
  subst e1
  refine ⟨m, by omega, h3, fun j hj => h4 j (Nat.zero_le _) hj, e3, e4, e2, fun S hS hpS => ⟨?_, fun hm => e5 S hm hS hpS⟩⟩
  rcases Nat.lt_or_ge S.length m with hlt | hge
  ·have h6 := lvF_some (p := p) (out := []) hS hpS
   rw [h4 S.length (Nat.zero_le _) hlt] at h6
   cases h6
  ·exact hge
theorem numsL_ris : ∀ {k s n : Nat}, s + k ≤ n → risF s n (numsL s k)
 | 0, _, _, _ => trivial
 | k + 1, s, n, h => ⟨Int.le_refl _, by omega, by rw [Int.toNat_natCast]; exact numsL_ris (by omega)⟩
theorem numsL_nth : ∀ {k s j : Nat}, j < k → nthJ (numsL s k) j = ((s + j : Nat) : Int)
 | k + 1, s, 0, _ => rfl
 | k + 1, s, j + 1, h => by
  have := numsL_nth (k := k) (s := s + 1) (j := j) (by omega)
  show nthJ (numsL (s + 1) k) j = _
  rw [this]
  congr 1
  omega
theorem numsL_len : ∀ {k s : Nat}, (numsL s k).length = k
 | 0, _ => rfl
 | k + 1, s => by rw [numsL, List.length_cons, numsL_len]
end Go.Proofs.YtlinbkmpkcmniaaGreat
namespace Go.Proofs.YtlinbkmpkcmniaaGreat
open Go Go.Sx Go.RowKit Bo
open Go.Sx.Tree (need branch leaf)
open Go.Sx.AV (lst ptr agg roI tup top)
def bitsL (out : List Int) : Int := out.foldl (fun b k => orI b (1 * 2 ^ k.toNat)) 0
def enL (c T lo hi : Int) (n : Nat) (a b u v : Nat → Int) (m : Nat) (p q : Nat → Int) (pl ph dl dh : Int) (u0 u1 wi day : Int) (out : List Int) : Bool := enB c T lo hi n a b u v m p q pl ph dl dh u0 u1 wi day (bitsL out)
noncomputable def TM (c T lo hi : Int) (n : Nat) (a b u v : Nat → Int) (m : Nat) (p q : Nat → Int) (pl ph dl dh : Int) (u0 u1 wi day : Int) (s1 : Option Addr) (a1 b1 : Nat) (s2 : Option Addr) (a2 b2 : Nat) (s3 : Option Addr) (a3 b3 : Nat) (s4 : Option Addr) (a4 b4 : Nat) (out : List Int) : Mem := [(0, .cells 158 [.ptr 4 0]), (1, .cells 64 [.top]), (2, .cells 47 [i c, i T, i lo, i hi, rds n a b u v, Pt.scs m p q, i pl, i ph, i dl, i dh]), (2, .cells 47 [i c, i T, i lo, i hi, .x (.slice s1 a1 b1), .x (.slice s2 a2 b2), i pl, i ph, i dl, i dh]), (3, .cells 164 [.fn (.func 95) [] [.ptr 0 0, .ptr 1 0, .ptr 2 0, .ptr 3 0]]), (4, .cells 200 [i c, i T, i lo, i hi, rds n a b u v, Pt.scs m p q, i pl, i ph, i dl, i dh, i u0, i u1, i wi, i day, .mp 5]), (4, .cells 200 [i c, i T, i lo, i hi, .x (.slice s3 a3 b3), .x (.slice s4 a4 b4), i pl, i ph, i dl, i dh, i u0, i u1, i wi, i day, .mp 5]), (5, .memo enH (enF c T lo hi n a b u v m p q pl ph dl dh u0 u1 wi day)), (6, .row 3 1 out.length (fun j => [i (nthJ out j)]))]
noncomputable def TT_ (c T lo hi : Int) (n : Nat) (a b u v : Nat → Int) (m : Nat) (p q : Nat → Int) (pl ph dl dh : Int) (u0 u1 wi day : Int) (s1 : Option Addr) (a1 b1 : Nat) (s2 : Option Addr) (a2 b2 : Nat) (s3 : Option Addr) (a3 b3 : Nat) (s4 : Option Addr) (a4 b4 : Nat) (out R : List Int) : St := { σ := [], m := [(900, .row 3 1 R.length (fun j => [i (nthJ R j)])), (0, .cells 158 [.ptr 4 0]), (1, .cells 64 [.row 900]), (2, .cells 47 [i c, i T, i lo, i hi, rds n a b u v, Pt.scs m p q, i pl, i ph, i dl, i dh]), (2, .cells 47 [i c, i T, i lo, i hi, .x (.slice s1 a1 b1), .x (.slice s2 a2 b2), i pl, i ph, i dl, i dh]), (3, .cells 164 [.fn (.func 95) [] [.ptr 0 0, .ptr 1 0, .ptr 2 0, .ptr 3 0]]), (4, .cells 200 [i c, i T, i lo, i hi, rds n a b u v, Pt.scs m p q, i pl, i ph, i dl, i dh, i u0, i u1, i wi, i day, .mp 5]), (4, .cells 200 [i c, i T, i lo, i hi, .x (.slice s3 a3 b3), .x (.slice s4 a4 b4), i pl, i ph, i dl, i dh, i u0, i u1, i wi, i day, .mp 5]), (5, .memo enH (enF c T lo hi n a b u v m p q pl ph dl dh u0 u1 wi day)), (6, .row 3 1 out.length (fun j => [i (nthJ out j)]))], nx := 901, sv := [[.ptr 0 0, .ptr 1 0, .ptr 2 0, .ptr 3 0, .row 6, .ptr 4 0, .mp 5]] }
noncomputable def TF_ (c T lo hi : Int) (n : Nat) (a b u v : Nat → Int) (m : Nat) (p q : Nat → Int) (pl ph dl dh : Int) (u0 u1 wi day : Int) (s1 : Option Addr) (a1 b1 : Nat) (s2 : Option Addr) (a2 b2 : Nat) (s3 : Option Addr) (a3 b3 : Nat) (s4 : Option Addr) (a4 b4 : Nat) (out : List Int) : St := { σ := [], m := [(0, .cells 158 [.ptr 4 0]), (1, .cells 64 [.top]), (2, .cells 47 [i c, i T, i lo, i hi, rds n a b u v, Pt.scs m p q, i pl, i ph, i dl, i dh]), (2, .cells 47 [i c, i T, i lo, i hi, .x (.slice s1 a1 b1), .x (.slice s2 a2 b2), i pl, i ph, i dl, i dh]), (3, .cells 164 [.fn (.func 95) [] [.ptr 0 0, .ptr 1 0, .ptr 2 0, .ptr 3 0]]), (4, .cells 200 [i c, i T, i lo, i hi, rds n a b u v, Pt.scs m p q, i pl, i ph, i dl, i dh, i u0, i u1, i wi, i day, .mp 5]), (4, .cells 200 [i c, i T, i lo, i hi, .x (.slice s3 a3 b3), .x (.slice s4 a4 b4), i pl, i ph, i dl, i dh, i u0, i u1, i wi, i day, .mp 5]), (5, .memo enH (enF c T lo hi n a b u v m p q pl ph dl dh u0 u1 wi day)), (6, .row 3 1 out.length (fun j => [i (nthJ out j)]))], nx := 901, sv := [[.ptr 0 0, .ptr 1 0, .ptr 2 0, .ptr 3 0, .row 6, .ptr 4 0, .mp 5]] }
def distB : List Nat → Bool
 | [] => true
 | x :: l => match l.all (fun y => !Nat.beq x y) with
  | true => distB l
  | false => false
noncomputable def H_tk (N : Nat) : HSpec := fun avs mem nx sv => match avs with
 | [o, .agg [.x (.int .i64 sb)], .x (.int .i64 s), .x (.int .i64 M), .ptr t z1, .ptr fo z2, .ptr x z3, .ptr le z4] => match getM mem t, getM mem fo, getM mem x, getM mem le, lvOut mem o with
  | some (.cells Tt [.ptr tr z5]), some (.cells Tf [_]), some (.cells Tx [.x (.int .i64 c), .x (.int .i64 T), .x (.int .i64 lo), .x (.int .i64 hi), .lst sl n fr, .lst sm m ft, .x (.int .i64 pl), .x (.int .i64 ph), .x (.int .i64 dl), .x (.int .i64 dh)]), some (.cells Te [.fn (.func fg) [] [.ptr t' y1, .ptr fo' y2, .ptr x' y3, .ptr le' y4]]), some (ids, k, g) => match getM mem tr with
   | some (.cells Tr [.x (.int .i64 c2), .x (.int .i64 T2), .x (.int .i64 lo2), .x (.int .i64 hi2), .lst sl2 n2 fr2, .lst sm2 m2 ft2, .x (.int .i64 pl2), .x (.int .i64 ph2), .x (.int .i64 dl2), .x (.int .i64 dh2), .x (.int .i64 u0), .x (.int .i64 u1), .x (.int .i64 wi), .x (.int .i64 day), .mp mp]) => match getM mem mp with
    | some (.memo eh F) => match numsB [(z1, 0), (z2, 0), (z3, 0), (z4, 0), (z5, 0), (y1, 0), (y2, 0), (y3, 0), (y4, 0), (Tt, 158), (Tf, 64), (Tx, 47), (Te, 164), (Tr, 200), (sl, 4), (sm, 2), (sl2, 4), (sm2, 2), (fg, 95), (t, t'), (fo, fo'), (x, x'), (le, le')] && distB [t, fo, x, le, tr, mp] with
     | true => some (.needT ([isRec 4 n fr, isRec 2 m ft, isRec 1 k g, n ≤ 12, usB c u0 u1 wi = true, 0 ≤ day ∧ day ≤ 10000, eh = enH, F = enF c T lo hi n (col 0 fr) (col 1 fr) (col 2 fr) (col 3 fr) m (Pt.col 0 ft) (Pt.col 1 ft) pl ph dl dh u0 u1 wi day, sb = bitsL (outL k g), M = (N : Int), 0 ≤ s ∧ s ≤ n, k + N ≤ 1000, c2 = c, T2 = T, lo2 = lo, hi2 = hi, n2 = n, fr2 = fr, m2 = m, ft2 = ft, pl2 = pl, ph2 = ph, dl2 = dl, dh2 = dh] ++ keepN k ids mem)
       (.branch (lvF (enL c T lo hi n (col 0 fr) (col 1 fr) (col 2 fr) (col 3 fr) m (Pt.col 0 ft) (Pt.col 1 ft) pl ph dl dh u0 u1 wi day) n N (outL k g) s.toNat).isSome
        (.leaf (.lit true, (nx, .row 3 1 (lvG (enL c T lo hi n (col 0 fr) (col 1 fr) (col 2 fr) (col 3 fr) m (Pt.col 0 ft) (Pt.col 1 ft) pl ph dl dh u0 u1 wi day) n N (outL k g) s.toNat).length (fun j => [i (nthJ (lvG (enL c T lo hi n (col 0 fr) (col 1 fr) (col 2 fr) (col 3 fr) m (Pt.col 0 ft) (Pt.col 1 ft) pl ph dl dh u0 u1 wi day) n N (outL k g) s.toNat) j)])) :: setM (setM (noAka mem) fo (.cells 64 [.row nx])) mp (.memo eh F), nx + 1, sv))
        (.leaf (.lit false, setM (setM (noAka mem) fo (.cells 64 [.top])) mp (.memo eh F), nx, sv))))
     | false => none
    | _ => none
   | _ => none
  | _, _, _, _, _ => none
 | _ => none
theorem clI_atF (n : Nat) (f : Nat → Int) (pre0 : n ≤ 100000) : SoundFAt Tryz.prog 96 [.lst 1 n (fun k => [i (f k)])] 3 1 (n) (fun k => [i (f k)]) := by
 refine soundFAt_fin (G := []) (X := {}) (L := []) (SoundG.nil _) (SoundX.of (SoundRL.nil _) (SoundHL.nil _)) mixed Tryz.func96 (show Tryz.f96.body = some (bodyOf Tryz.f96) by kernel_rfl) noLoopsS (t := (Tree.may (n = 0) (leaf none) (need [(0 + n) * 8 ≤ 140737488355328, ∀ (i : Nat), i < n → ∀ (a : AV), a ∈ [iI (f i)] → AV.one a = true] (leaf (some (3, 1, 0 + n, catF 0 (fun x => []) fun k => [iI (f k)])))))) (by kernel_rfl) ?_ (fun _ _ => rfl)
 simp only [Tree.sat, allP, fitF, true_and]
 refine ⟨fun h => h, ⟨by omega, fun k hk x hm => one_of (k := 0) (sz := 1) (l := [i (f k)]) (show x ∈ chunk 1 _ 0 from hm) (by simp [AV.one, Value.oneCell'])⟩, by omega, fun k hk => ⟨?_, ?_⟩⟩
 ·show mergeL (decide (k < 0)) [] [i (f (k - 0))] = _
  rw [show decide (k < 0) = false by simp]
  rfl
 ·intro x hm
  cases List.mem_singleton.1 hm
  exact True.intro
def F_clI : FSpec := fun l => match l with
 | [.lst 1 n f] => some ([isRec 1 n f, n ≤ 100000], 3, 1, n, fun j => [i (col 0 f j)])
 | _ => none
theorem SoundFAt.same {P : Program} {f : FuncId} {avs avs' : List AV} {T : TypeId} {sz n : Nat} {g : Nat → List AV} (h : SoundFAt P f avs' T sz n g) (k : Sames avs avs') : SoundFAt P f avs T sz n g := fun e w args hro hidf hr => h e w args hro (k.idf hidf) (k.rep hr)
theorem clI_okF : Sx.Enters Tryz.prog 96 ∧ ∀ avs ns T sz n g, F_clI avs = some (ns, T, sz, n, g) → (∀ q ∈ ns, q) → SoundFAt Tryz.prog 96 avs T sz n g := by
 refine ⟨⟨_, Tryz.func96, by kernel_rfl, by kernel_rfl⟩, ?_⟩
 intro avs ns T sz n g h hn
 unfold F_clI at h
 split at h
 ·rename_i n f
  cases h
  have hr : isRec 1 n f := hn _ (by simp)
  exact SoundFAt.same (clI_atF n (col 0 f) (hn _ (by simp))) (.cons (.lst 1 n _ _ hr) .nil)
 ·cases h
noncomputable def H_clI : HSpec := hOfF F_clI
theorem clI_okH : SoundHSpec Tryz.prog 96 H_clI := soundH_ofF clI_okF
noncomputable def E_et (c T lo hi : Int) (n : Nat) (a b u v : Nat → Int) (m : Nat) (p q : Nat → Int) (pl ph dl dh : Int) (u0 u1 wi day : Int) (s1 : Option Addr) (a1 b1 : Nat) (s2 : Option Addr) (a2 b2 : Nat) (s3 : Option Addr) (a3 b3 : Nat) (s4 : Option Addr) (a4 b4 : Nat) (out : List Int) (s : Nat) : St := (some { σ := [ptr 4 0, agg [iI (bitsL out)], top, ptr 13 0, AV.lit false, AV.x (Value.bool false), AV.lit false, ptr 21 0] ++ tpL 24 [lst 4 n fun k => [iI (a k), iI (b k), iI (u k), iI (v k)], iI (↑n : Int)] ++ tpL 44 [], m := [(950, Res.row 155 4 0 fun x => []), (21, Res.cells 47 [iI c, iI T, iI lo, iI hi, AV.row 950, lst 2 m fun k => [iI (p k), iI (q k)], iI pl, iI ph, iI dl, iI dh]), (13, Res.cells 160 [iI (bitsL out)]), (7, Res.cells 160 [iI (bitsL out)]), (0, Res.cells 158 [ptr 4 0]), (1, Res.cells 64 [top]), (2, Res.cells 47 [iI c, iI T, iI lo, iI hi, lst 4 n fun k => [iI (a k), iI (b k), iI (u k), iI (v k)], lst 2 m fun k => [iI (p k), iI (q k)], iI pl, iI ph, iI dl, iI dh]), (2, Res.cells 47 [iI c, iI T, iI lo, iI hi, AV.x (Value.slice s1 a1 b1), AV.x (Value.slice s2 a2 b2), iI pl, iI ph, iI dl, iI dh]), (3, Res.cells 164 [AV.fn (Fn.func 95) [] [ptr 0 0, ptr 1 0, ptr 2 0, ptr 3 0]]), (4, Res.cells 200 [iI c, iI T, iI lo, iI hi, lst 4 n fun k => [iI (a k), iI (b k), iI (u k), iI (v k)], lst 2 m fun k => [iI (p k), iI (q k)], iI pl, iI ph, iI dl, iI dh, iI u0, iI u1, iI wi, iI day, AV.mp 5]), (4, Res.cells 200 [iI c, iI T, iI lo, iI hi, AV.x (Value.slice s3 a3 b3), AV.x (Value.slice s4 a4 b4), iI pl, iI ph, iI dl, iI dh, iI u0, iI u1, iI wi, iI day, AV.mp 5]), (5, Res.memo (fun a => enH a) fun a_1 => Value.bool (enB c T lo hi n a b u v m p q pl ph dl dh u0 u1 wi day (keyI a_1))), (6, Res.row 3 1 (List.length out) fun j => [iI (nthJ out j)])], nx := 951, sv := [[AV.row 6, agg [iI (bitsL out)], iI (↑s : Int), iI (0 : Int), ptr 0 0, ptr 1 0, ptr 2 0, ptr 3 0, top, ptr 7 0, top, top, AV.lit false, top, iI (0 : Int), AV.lit true, ptr 4 0, agg [iI (bitsL out)], top, top, top, top, top, top, top, top, top, top, top, top, top, top, top, top, top, top, top, top, top, top, top, top, top, top, top], [ptr 0 0, ptr 1 0, ptr 2 0, ptr 3 0, AV.row 6, ptr 4 0, AV.mp 5]] } : Option St).getD { σ := [], m := [], nx := 0 }
noncomputable def B_et : Code := loopBody (loopAt (bodyOf Tryz.f94) 0)
noncomputable def inv_et (c T lo hi : Int) (n : Nat) (a b u v : Nat → Int) (m : Nat) (p q : Nat → Int) (pl ph dl dh : Int) (u0 u1 wi day : Int) (s1 : Option Addr) (a1 b1 : Nat) (s2 : Option Addr) (a2 b2 : Nat) (s3 : Option Addr) (a3 b3 : Nat) (s4 : Option Addr) (a4 b4 : Nat) (out : List Int) (s : Nat) (j : Nat) : St := { σ := ovrS [(34, i j)] (E_et c T lo hi n a b u v m p q pl ph dl dh u0 u1 wi day s1 a1 b1 s2 a2 b2 s3 a3 b3 s4 a4 b4 out s).σ, m := [(950, .row 155 4 (selL (bitsL out) j).length (fun q => [i (sg a (selL (bitsL out) j) q), i (sg b (selL (bitsL out) j) q), i (sg u (selL (bitsL out) j) q), i (sg v (selL (bitsL out) j) q)])), (21, .cells 47 [i c, i T, i lo, i hi, .row 950, Pt.scs m p q, i pl, i ph, i dl, i dh]), (13, .cells 160 [i (bitsL out)]), (7, .cells 160 [i (bitsL out)]), (0, .cells 158 [.ptr 4 0]), (1, .cells 64 [.top]), (2, .cells 47 [i c, i T, i lo, i hi, rds n a b u v, Pt.scs m p q, i pl, i ph, i dl, i dh]), (2, .cells 47 [i c, i T, i lo, i hi, .x (.slice s1 a1 b1), .x (.slice s2 a2 b2), i pl, i ph, i dl, i dh]), (3, .cells 164 [.fn (.func 95) [] [.ptr 0 0, .ptr 1 0, .ptr 2 0, .ptr 3 0]]), (4, .cells 200 [i c, i T, i lo, i hi, rds n a b u v, Pt.scs m p q, i pl, i ph, i dl, i dh, i u0, i u1, i wi, i day, .mp 5]), (4, .cells 200 [i c, i T, i lo, i hi, .x (.slice s3 a3 b3), .x (.slice s4 a4 b4), i pl, i ph, i dl, i dh, i u0, i u1, i wi, i day, .mp 5]), (5, .memo enH (enF c T lo hi n a b u v m p q pl ph dl dh u0 u1 wi day)), (6, .row 3 1 out.length (fun j => [i (nthJ out j)]))], nx := 951, sv := [mkS 45 [(0, .row 6), (1, .agg [i (bitsL out)]), (2, i s), (3, i 0), (4, .ptr 0 0), (5, .ptr 1 0), (6, .ptr 2 0), (7, .ptr 3 0), (9, .ptr 7 0), (12, .lit false), (14, i 0), (15, .lit true), (16, .ptr 4 0), (17, .agg [i (bitsL out)])], [.ptr 0 0, .ptr 1 0, .ptr 2 0, .ptr 3 0, .row 6, .ptr 4 0, .mp 5]] }
noncomputable def out_et (c T lo hi : Int) (n : Nat) (a b u v : Nat → Int) (m : Nat) (p q : Nat → Int) (pl ph dl dh : Int) (u0 u1 wi day : Int) (s1 : Option Addr) (a1 b1 : Nat) (s2 : Option Addr) (a2 b2 : Nat) (s3 : Option Addr) (a3 b3 : Nat) (s4 : Option Addr) (a4 b4 : Nat) (out : List Int) (s : Nat) (j : Nat) : AEx → Option St := fun ex => match ex with
 | .exit 0 => some { σ := ovrS [] (E_et c T lo hi n a b u v m p q pl ph dl dh u0 u1 wi day s1 a1 b1 s2 a2 b2 s3 a3 b3 s4 a4 b4 out s).σ, m := [(950, .row 155 4 (selL (bitsL out) n).length (fun q => [i (sg a (selL (bitsL out) n) q), i (sg b (selL (bitsL out) n) q), i (sg u (selL (bitsL out) n) q), i (sg v (selL (bitsL out) n) q)])), (21, .cells 47 [i c, i T, i lo, i hi, .row 950, Pt.scs m p q, i pl, i ph, i dl, i dh]), (13, .cells 160 [i (bitsL out)]), (7, .cells 160 [i (bitsL out)]), (0, .cells 158 [.ptr 4 0]), (1, .cells 64 [.top]), (2, .cells 47 [i c, i T, i lo, i hi, rds n a b u v, Pt.scs m p q, i pl, i ph, i dl, i dh]), (2, .cells 47 [i c, i T, i lo, i hi, .x (.slice s1 a1 b1), .x (.slice s2 a2 b2), i pl, i ph, i dl, i dh]), (3, .cells 164 [.fn (.func 95) [] [.ptr 0 0, .ptr 1 0, .ptr 2 0, .ptr 3 0]]), (4, .cells 200 [i c, i T, i lo, i hi, rds n a b u v, Pt.scs m p q, i pl, i ph, i dl, i dh, i u0, i u1, i wi, i day, .mp 5]), (4, .cells 200 [i c, i T, i lo, i hi, .x (.slice s3 a3 b3), .x (.slice s4 a4 b4), i pl, i ph, i dl, i dh, i u0, i u1, i wi, i day, .mp 5]), (5, .memo enH (enF c T lo hi n a b u v m p q pl ph dl dh u0 u1 wi day)), (6, .row 3 1 out.length (fun j => [i (nthJ out j)]))], nx := 951, sv := [mkS 45 [(0, .row 6), (1, .agg [i (bitsL out)]), (2, i s), (3, i 0), (4, .ptr 0 0), (5, .ptr 1 0), (6, .ptr 2 0), (7, .ptr 3 0), (9, .ptr 7 0), (12, .lit false), (14, i 0), (15, .lit true), (16, .ptr 4 0), (17, .agg [i (bitsL out)])], [.ptr 0 0, .ptr 1 0, .ptr 2 0, .ptr 3 0, .row 6, .ptr 4 0, .mp 5]] }
 | _ => none
noncomputable def T_et (c T lo hi : Int) (n : Nat) (a b u v : Nat → Int) (m : Nat) (p q : Nat → Int) (pl ph dl dh : Int) (u0 u1 wi day : Int) (s1 : Option Addr) (a1 b1 : Nat) (s2 : Option Addr) (a2 b2 : Nat) (s3 : Option Addr) (a3 b3 : Nat) (s4 : Option Addr) (a4 b4 : Nat) (out : List Int) (s : Nat) : CT := .leaf (.exit 0, ( out_et c T lo hi n a b u v m p q pl ph dl dh u0 u1 wi day s1 a1 b1 s2 a2 b2 s3 a3 b3 s4 a4 b4 out s 0 (.exit 0)).getD (E_et c T lo hi n a b u v m p q pl ph dl dh u0 u1 wi day s1 a1 b1 s2 a2 b2 s3 a3 b3 s4 a4 b4 out s))
noncomputable def LS_et (c T lo hi : Int) (n : Nat) (a b u v : Nat → Int) (m : Nat) (p q : Nat → Int) (pl ph dl dh : Int) (u0 u1 wi day : Int) (s1 : Option Addr) (a1 b1 : Nat) (s2 : Option Addr) (a2 b2 : Nat) (s3 : Option Addr) (a3 b3 : Nat) (s4 : Option Addr) (a4 b4 : Nat) (out : List Int) (s : Nat) : LSpec := normSp [(.cell 21 4, 950, 155, 4)] (sumL (inv_et c T lo hi n a b u v m p q pl ph dl dh u0 u1 wi day s1 a1 b1 s2 a2 b2 s3 a3 b3 s4 a4 b4 out s (0)) (T_et c T lo hi n a b u v m p q pl ph dl dh u0 u1 wi day s1 a1 b1 s2 a2 b2 s3 a3 b3 s4 a4 b4 out s))
theorem et_ls (c T lo hi : Int) (n : Nat) (a b u v : Nat → Int) (m : Nat) (p q : Nat → Int) (pl ph dl dh : Int) (u0 u1 wi day : Int) (s1 : Option Addr) (a1 b1 : Nat) (s2 : Option Addr) (a2 b2 : Nat) (s3 : Option Addr) (a3 b3 : Nat) (s4 : Option Addr) (a4 b4 : Nat) (out : List Int) (s : Nat) (pre0 : n ≤ 12) : LSound Tryz.prog (.loop B_et) (LS_et c T lo hi n a b u v m p q pl ph dl dh u0 u1 wi day s1 a1 b1 s2 a2 b2 s3 a3 b3 s4 a4 b4 out s) := by
 refine loop_roundsX [(.cell 21 4, 950, 155, 4)] (E := {}) (G := []) (L := []) (SoundG.nil _) (SoundX.of (SoundRL.nil _) (SoundHL.nil _)) mixed noLoops (X := Nat) (inv_et c T lo hi n a b u v m p q pl ph dl dh u0 u1 wi day s1 a1 b1 s2 a2 b2 s3 a3 b3 s4 a4 b4 out s) (fun j => j ≤ n) (fun j => n - j) (out_et c T lo hi n a b u v m p q pl ph dl dh u0 u1 wi day s1 a1 b1 s2 a2 b2 s3 a3 b3 s4 a4 b4 out s) (x0 := 0) (by simp) ?_ ?_ ?_
 ·rintro j
  kernel_rfl
 ·rintro j y E h
  unfold out_et at h
  split at h
  ·cases h; kernel_rfl
  ·cases h
 ·rintro Q hQ j hx
  refine ⟨(j + 1), ?_⟩
  have e : roundX Tryz.prog [] {} [] [(.cell 21 4, 950, 155, 4)] B_et (inv_et c T lo hi n a b u v m p q pl ph dl dh u0 u1 wi day s1 a1 b1 s2 a2 b2 s3 a3 b3 s4 a4 b4 out s j) (inv_et c T lo hi n a b u v m p q pl ph dl dh u0 u1 wi day s1 a1 b1 s2 a2 b2 s3 a3 b3 s4 a4 b4 out s ((j + 1))) (out_et c T lo hi n a b u v m p q pl ph dl dh u0 u1 wi day s1 a1 b1 s2 a2 b2 s3 a3 b3 s4 a4 b4 out s j) = (let z0 := enF c T lo hi n a b u v m p q pl ph dl dh u0 u1 wi day; let z1 := (selL (bitsL out) (j + 1)); let z2 := (agg [iI (bitsL out)]); let z3 := (AV.fn (Fn.func 95) [] [ptr 0 0, ptr 1 0, ptr 2 0, ptr 3 0]); let z4 := (lst 4 n (rq4 a b u v)); let z5 := (AV.x (Value.slice s1 a1 b1)); let z6 := (AV.x (Value.slice s2 a2 b2)); let z7 := (AV.x (Value.slice s3 a3 b3)); let z8 := (AV.x (Value.slice s4 a4 b4)); (branch (decide ((↑j : Int) < (↑n : Int))) (need [(0 : Int) ≤ (↑j : Int) ∧ (↑j : Int) < (↑n : Int)] (need [(0 : Int) ≤ (↑j : Int) ∧ (↑j : Int) ≤ 64] (branch (IntKind.wrap IntKind.i64 (↑(BitVec.toNat (BitVec.ofInt 64 (bitsL out / (2 : Int) ^ j) &&& BitVec.ofInt 64 (1 : Int))) : Int) == (1 : Int)) (need [(List.length (selL (bitsL out) j) + 1) * 32 ≤ 140737488355328, ∀ (i : Nat), i < 1 → ∀ (a_2 : AV), a_2 ∈ chunk 4 [iI (a j), iI (b j), iI (u j), iI (v j)] i → AV.one a_2 = true] (need [inI64 ((↑j : Int) + 1)] (need [Eq1 (ptr 4 0), Eq1 z2, Eq1 (ptr 13 0), Eq1 (AV.lit false), false = false, Eq1 (AV.lit false), Eq1 (ptr 21 0), z4 = lst 4 n (rq4 a b u v), Eq1 (↑n : Int), (↑j : Int) + 1 = (↑(j + 1) : Int), List.length (selL (bitsL out) j) + 1 = List.length z1, ∀ (i : Nat), i < List.length z1 → catF (List.length (selL (bitsL out) j)) (fun q => [iI (sg a (selL (bitsL out) j) q), iI (sg b (selL (bitsL out) j) q), iI (sg u (selL (bitsL out) j) q), iI (sg v (selL (bitsL out) j) q)]) (chunk 4 [iI (a j), iI (b j), iI (u j), iI (v j)]) i = [iI (sg a z1 i), iI (sg b z1 i), iI (sg u z1 i), iI (sg v z1 i)], c = c, T = T, lo = lo, hi = hi, Eq1 (AV.row 950), (lst 2 m fun k => [iI (p k), iI (q k)]) = lst 2 m fun k => [iI (p k), iI (q k)], pl = pl, ph = ph, dl = dl, dh = dh, Eq1 (bitsL out), Eq1 (bitsL out), Eq1 (ptr 4 0), c = c, T = T, lo = lo, hi = hi, z4 = lst 4 n (rq4 a b u v), (lst 2 m fun k => [iI (p k), iI (q k)]) = lst 2 m fun k => [iI (p k), iI (q k)], pl = pl, ph = ph, dl = dl, dh = dh, c = c, T = T, lo = lo, hi = hi, Eq1 z5, Eq1 z6, pl = pl, ph = ph, dl = dl, dh = dh, Eq1 z3, c = c, T = T, lo = lo, hi = hi, z4 = lst 4 n (rq4 a b u v), (lst 2 m fun k => [iI (p k), iI (q k)]) = lst 2 m fun k => [iI (p k), iI (q k)], pl = pl, ph = ph, dl = dl, dh = dh, u0 = u0, u1 = u1, wi = wi, day = day, Eq1 (AV.mp 5), c = c, T = T, lo = lo, hi = hi, Eq1 z7, Eq1 z8, pl = pl, ph = ph, dl = dl, dh = dh, u0 = u0, u1 = u1, wi = wi, day = day, Eq1 (AV.mp 5), ∀ (k : Value), enH k → enH k ∧ z0 k = z0 k, Eq1 (List.length out), ∀ (i : Nat), i < List.length out → [iI (nthJ out i)] = [iI (nthJ out i)], Eq1 (AV.row 6), Eq1 z2, Eq1 (↑s : Int), Eq1 (0 : Int), Eq1 (ptr 0 0), Eq1 (ptr 1 0), Eq1 (ptr 2 0), Eq1 (ptr 3 0), Eq1 (ptr 7 0), Eq1 (AV.lit false), Eq1 (0 : Int), Eq1 (AV.lit true), Eq1 (ptr 4 0), Eq1 z2, Eq1 (ptr 0 0), Eq1 (ptr 1 0), Eq1 (ptr 2 0), Eq1 (ptr 3 0), Eq1 (AV.row 6), Eq1 (ptr 4 0), Eq1 (AV.mp 5)] (leaf AEx.normal)))) (need [inI64 ((↑j : Int) + 1)] (need [Eq1 (ptr 4 0), Eq1 z2, Eq1 (ptr 13 0), Eq1 (AV.lit false), false = false, Eq1 (AV.lit false), Eq1 (ptr 21 0), z4 = lst 4 n (rq4 a b u v), Eq1 (↑n : Int), (↑j : Int) + 1 = (↑(j + 1) : Int), List.length (selL (bitsL out) j) = List.length z1, ∀ (i : Nat), i < List.length z1 → [iI (sg a (selL (bitsL out) j) i), iI (sg b (selL (bitsL out) j) i), iI (sg u (selL (bitsL out) j) i), iI (sg v (selL (bitsL out) j) i)] = [iI (sg a z1 i), iI (sg b z1 i), iI (sg u z1 i), iI (sg v z1 i)], c = c, T = T, lo = lo, hi = hi, Eq1 (AV.row 950), (lst 2 m fun k => [iI (p k), iI (q k)]) = lst 2 m fun k => [iI (p k), iI (q k)], pl = pl, ph = ph, dl = dl, dh = dh, Eq1 (bitsL out), Eq1 (bitsL out), Eq1 (ptr 4 0), c = c, T = T, lo = lo, hi = hi, z4 = lst 4 n (rq4 a b u v), (lst 2 m fun k => [iI (p k), iI (q k)]) = lst 2 m fun k => [iI (p k), iI (q k)], pl = pl, ph = ph, dl = dl, dh = dh, c = c, T = T, lo = lo, hi = hi, Eq1 z5, Eq1 z6, pl = pl, ph = ph, dl = dl, dh = dh, Eq1 z3, c = c, T = T, lo = lo, hi = hi, z4 = lst 4 n (rq4 a b u v), (lst 2 m fun k => [iI (p k), iI (q k)]) = lst 2 m fun k => [iI (p k), iI (q k)], pl = pl, ph = ph, dl = dl, dh = dh, u0 = u0, u1 = u1, wi = wi, day = day, Eq1 (AV.mp 5), c = c, T = T, lo = lo, hi = hi, Eq1 z7, Eq1 z8, pl = pl, ph = ph, dl = dl, dh = dh, u0 = u0, u1 = u1, wi = wi, day = day, Eq1 (AV.mp 5), ∀ (k : Value), enH k → enH k ∧ z0 k = z0 k, Eq1 (List.length out), ∀ (i : Nat), i < List.length out → [iI (nthJ out i)] = [iI (nthJ out i)], Eq1 (AV.row 6), Eq1 z2, Eq1 (↑s : Int), Eq1 (0 : Int), Eq1 (ptr 0 0), Eq1 (ptr 1 0), Eq1 (ptr 2 0), Eq1 (ptr 3 0), Eq1 (ptr 7 0), Eq1 (AV.lit false), Eq1 (0 : Int), Eq1 (AV.lit true), Eq1 (ptr 4 0), Eq1 z2, Eq1 (ptr 0 0), Eq1 (ptr 1 0), Eq1 (ptr 2 0), Eq1 (ptr 3 0), Eq1 (AV.row 6), Eq1 (ptr 4 0), Eq1 (AV.mp 5)] (leaf AEx.normal)))))) (need [Eq1 (ptr 4 0), Eq1 z2, Eq1 (ptr 13 0), Eq1 (AV.lit false), false = false, Eq1 (AV.lit false), Eq1 (ptr 21 0), z4 = lst 4 n (rq4 a b u v), Eq1 (↑n : Int), List.length (selL (bitsL out) j) = List.length (selL (bitsL out) n), ∀ (i : Nat), i < List.length (selL (bitsL out) n) → [iI (sg a (selL (bitsL out) j) i), iI (sg b (selL (bitsL out) j) i), iI (sg u (selL (bitsL out) j) i), iI (sg v (selL (bitsL out) j) i)] = [iI (sg a (selL (bitsL out) n) i), iI (sg b (selL (bitsL out) n) i), iI (sg u (selL (bitsL out) n) i), iI (sg v (selL (bitsL out) n) i)], c = c, T = T, lo = lo, hi = hi, Eq1 (AV.row 950), (lst 2 m fun k => [iI (p k), iI (q k)]) = lst 2 m fun k => [iI (p k), iI (q k)], pl = pl, ph = ph, dl = dl, dh = dh, Eq1 (bitsL out), Eq1 (bitsL out), Eq1 (ptr 4 0), c = c, T = T, lo = lo, hi = hi, z4 = lst 4 n (rq4 a b u v), (lst 2 m fun k => [iI (p k), iI (q k)]) = lst 2 m fun k => [iI (p k), iI (q k)], pl = pl, ph = ph, dl = dl, dh = dh, c = c, T = T, lo = lo, hi = hi, Eq1 z5, Eq1 z6, pl = pl, ph = ph, dl = dl, dh = dh, Eq1 z3, c = c, T = T, lo = lo, hi = hi, z4 = lst 4 n (rq4 a b u v), (lst 2 m fun k => [iI (p k), iI (q k)]) = lst 2 m fun k => [iI (p k), iI (q k)], pl = pl, ph = ph, dl = dl, dh = dh, u0 = u0, u1 = u1, wi = wi, day = day, Eq1 (AV.mp 5), c = c, T = T, lo = lo, hi = hi, Eq1 z7, Eq1 z8, pl = pl, ph = ph, dl = dl, dh = dh, u0 = u0, u1 = u1, wi = wi, day = day, Eq1 (AV.mp 5), ∀ (k : Value), enH k → enH k ∧ z0 k = z0 k, Eq1 (List.length out), ∀ (i : Nat), i < List.length out → [iI (nthJ out i)] = [iI (nthJ out i)], Eq1 (AV.row 6), Eq1 z2, Eq1 (↑s : Int), Eq1 (0 : Int), Eq1 (ptr 0 0), Eq1 (ptr 1 0), Eq1 (ptr 2 0), Eq1 (ptr 3 0), Eq1 (ptr 7 0), Eq1 (AV.lit false), Eq1 (0 : Int), Eq1 (AV.lit true), Eq1 (ptr 4 0), Eq1 z2, Eq1 (ptr 0 0), Eq1 (ptr 1 0), Eq1 (ptr 2 0), Eq1 (ptr 3 0), Eq1 (AV.row 6), Eq1 (ptr 4 0), Eq1 (AV.mp 5)] (leaf (AEx.exit 0))))) := by kernel_rfl
  rw [e]
  simp only [T_et, out_et, Tree.sat, Option.getD_some] at hQ
  have hl := selL_len (bitsL out) j
  have hs : selL (bitsL out) (j + 1) = if selB (bitsL out) j then selL (bitsL out) j ++ [j] else selL (bitsL out) j := rfl
  have hB : selB (bitsL out) j = (andI (bitsL out / 2 ^ j) 1 == 1) := rfl
  simp only [Tree.sat, allP, fitP, fitL, valEq, inI64, true_and, and_true, decide_eq_true_eq, decide_eq_false_iff_not, Int.toNat_natCast]
  clear e
  have hc4 : ∀ x1 x2 x3 x4 : Int, ∀ (q : Nat), q < 1 → ∀ y, y ∈ chunk 4 [iI x1, iI x2, iI x3, iI x4] q → AV.one y = true := fun _ _ _ _ q _ y hy => one_of hy (by simp [AV.one, Value.oneCell'])
  refine ⟨fun h => ⟨by omega, by omega, fun h2 => ?_, fun h2 => ?_⟩, fun h => ?_⟩
  ·have h3 : selB (bitsL out) j = true := h2
   rw [if_pos h3] at hs
   rw [hs, List.length_append]
   (repeat' first | with_reducible apply And.intro | with_reducible intro _)
   all_goals first | exact True.intro | omega | with_reducible rfl | exact hc4 _ _ _ _ _ (by assumption) _ (by assumption) | exact sg_cat (by assumption) | assumption | rfl
  ·have h3 : selB (bitsL out) j = false := h2
   rw [if_neg (by rw [h3]; simp)] at hs
   rw [hs]
   (repeat' first | with_reducible apply And.intro | with_reducible intro _)
   all_goals first | exact True.intro | omega | with_reducible rfl | assumption | rfl
  ·obtain rfl : j = n := by omega
   (repeat' first | with_reducible apply And.intro | with_reducible intro _)
   all_goals first | exact True.intro | omega | with_reducible rfl | (rename_i E hE; cases hE; exact hQ) | assumption | rfl
noncomputable def H_et (c T lo hi : Int) (n : Nat) (a b u v : Nat → Int) (m : Nat) (p q : Nat → Int) (pl ph dl dh : Int) (u0 u1 wi day : Int) (s1 : Option Addr) (a1 b1 : Nat) (s2 : Option Addr) (a2 b2 : Nat) (s3 : Option Addr) (a3 b3 : Nat) (s4 : Option Addr) (a4 b4 : Nat) (out : List Int) (s : Nat) : HSpec := inlH Tryz.prog [(82, S_kept)] { R := [], H := [], C := [(64, C_read)] } [needSp [n ≤ 12] (LS_et c T lo hi n a b u v m p q pl ph dl dh u0 u1 wi day s1 a1 b1 s2 a2 b2 s3 a3 b3 s4 a4 b4 out s)] Tryz.f94 (bodyOf Tryz.f94)
theorem et_okH (c T lo hi : Int) (n : Nat) (a b u v : Nat → Int) (m : Nat) (p q : Nat → Int) (pl ph dl dh : Int) (u0 u1 wi day : Int) (s1 : Option Addr) (a1 b1 : Nat) (s2 : Option Addr) (a2 b2 : Nat) (s3 : Option Addr) (a3 b3 : Nat) (s4 : Option Addr) (a4 b4 : Nat) (out : List Int) (s : Nat) : SoundHSpec Tryz.prog 94 (H_et c T lo hi n a b u v m p q pl ph dl dh u0 u1 wi day s1 a1 b1 s2 a2 b2 s3 a3 b3 s4 a4 b4 out s) :=
 inl_sound (G := [(82, S_kept)]) (X := { R := [], H := [], C := [(64, C_read)] }) (L := [needSp [n ≤ 12] (LS_et c T lo hi n a b u v m p q pl ph dl dh u0 u1 wi day s1 a1 b1 s2 a2 b2 s3 a3 b3 s4 a4 b4 out s)]) (SoundG.cons kept_ok (SoundG.nil _)) (SoundX.ofC (SoundRL.nil _) (SoundHL.nil _) (SoundCL.cons read_okC (SoundCL.nil _))) mixed ⟨_, Tryz.func94, by kernel_rfl, by kernel_rfl⟩ Tryz.func94 (show Tryz.f94.body = some (bodyOf Tryz.f94) by kernel_rfl) (one_loop (lpE (b := .loop B_et) (by kernel_rfl) <| needSp_sound (ps := [n ≤ 12]) (fun h => et_ls c T lo hi n a b u v m p q pl ph dl dh u0 u1 wi day s1 a1 b1 s2 a2 b2 s3 a3 b3 s4 a4 b4 out s h)))
theorem tk_zero (c T lo hi : Int) (n : Nat) (a b u v : Nat → Int) (m : Nat) (p q : Nat → Int) (pl ph dl dh : Int) (u0 u1 wi day : Int) (s1 : Option Addr) (a1 b1 : Nat) (s2 : Option Addr) (a2 b2 : Nat) (s3 : Option Addr) (a3 b3 : Nat) (s4 : Option Addr) (a4 b4 : Nat) (out : List Int) (s : Nat) (pre0 : n ≤ 12) (pre1 : usB c u0 u1 wi = true) (pre2 : 0 ≤ day ∧ day ≤ 10000) (pre3 : out.length ≤ 1000) : EndsTF Tryz.prog 95 [.row 6, .agg [i (bitsL out)], i s, i 0, .ptr 0 0, .ptr 1 0, .ptr 2 0, .ptr 3 0] (TM c T lo hi n a b u v m p q pl ph dl dh u0 u1 wi day s1 a1 b1 s2 a2 b2 s3 a3 b3 s4 a4 b4 out) 7 [[.ptr 0 0, .ptr 1 0, .ptr 2 0, .ptr 3 0, .row 6, .ptr 4 0, .mp 5]] (TT_ c T lo hi n a b u v m p q pl ph dl dh u0 u1 wi day s1 a1 b1 s2 a2 b2 s3 a3 b3 s4 a4 b4 out out) (TF_ c T lo hi n a b u v m p q pl ph dl dh u0 u1 wi day s1 a1 b1 s2 a2 b2 s3 a3 b3 s4 a4 b4 out) (enL c T lo hi n a b u v m p q pl ph dl dh u0 u1 wi day out) := by
 refine inl_ends (G := []) (X := { R := [], H := [(94, (H_et c T lo hi n a b u v m p q pl ph dl dh u0 u1 wi day s1 a1 b1 s2 a2 b2 s3 a3 b3 s4 a4 b4 out s)), (96, H_clI)] }) (L := []) (SoundG.nil _) (SoundX.of (SoundRL.nil _) (SoundHL.cons (et_okH c T lo hi n a b u v m p q pl ph dl dh u0 u1 wi day s1 a1 b1 s2 a2 b2 s3 a3 b3 s4 a4 b4 out s) (SoundHL.cons clI_okH (SoundHL.nil _)))) mixed ⟨_, Tryz.func95, by kernel_rfl, by kernel_rfl⟩ Tryz.func95 (show Tryz.f95.body = some (bodyOf Tryz.f95) by kernel_rfl) noLoops (N := [(.cell 1 0, 900, 3, 1)]) (t := (let z6 := (lst 4 n (rq4 a b u v)); let z9 := (AV.x (Value.slice s1 a1 b1)); let z10 := (AV.x (Value.slice s2 a2 b2)); let z5 := (AV.fn (Fn.func 95) [] [ptr 0 0, ptr 1 0, ptr 2 0, ptr 3 0]); let z11 := (AV.x (Value.slice s3 a3 b3)); let z12 := (AV.x (Value.slice s4 a4 b4)); let z4 := enF c T lo hi n a b u v m p q pl ph dl dh u0 u1 wi day; let z0 := (need [Eq1 (ptr 4 0), c = c, T = T, lo = lo, hi = hi, z6 = lst 4 n (rq4 a b u v), (lst 2 m fun k => [iI (p k), iI (q k)]) = lst 2 m fun k => [iI (p k), iI (q k)], pl = pl, ph = ph, dl = dl, dh = dh, c = c, T = T, lo = lo, hi = hi, Eq1 z9, Eq1 z10, pl = pl, ph = ph, dl = dl, dh = dh, Eq1 z5, c = c, T = T, lo = lo, hi = hi, z6 = lst 4 n (rq4 a b u v), (lst 2 m fun k => [iI (p k), iI (q k)]) = lst 2 m fun k => [iI (p k), iI (q k)], pl = pl, ph = ph, dl = dl, dh = dh, u0 = u0, u1 = u1, wi = wi, day = day, Eq1 (AV.mp 5), c = c, T = T, lo = lo, hi = hi, Eq1 z11, Eq1 z12, pl = pl, ph = ph, dl = dl, dh = dh, u0 = u0, u1 = u1, wi = wi, day = day, Eq1 (AV.mp 5), ∀ (k : Value), enH k → enH k ∧ z4 k = z4 k, Eq1 (List.length out), ∀ (i : Nat), i < List.length out → [iI (nthJ out i)] = [iI (nthJ out i)], Eq1 (ptr 0 0), Eq1 (ptr 1 0), Eq1 (ptr 2 0), Eq1 (ptr 3 0), Eq1 (AV.row 6), Eq1 (ptr 4 0), Eq1 (AV.mp 5)] (leaf false)); let z1 := (need [isRec 1 (List.length out) fun j => [i (nthJ out j)], List.length out ≤ 100000] (need [Eq1 (List.length out), ∀ (i : Nat), i < List.length out → [iI (nthJ out i)] = [iI (nthJ out i)], Eq1 (ptr 4 0), Eq1 (AV.row 900), c = c, T = T, lo = lo, hi = hi, z6 = lst 4 n (rq4 a b u v), (lst 2 m fun k => [iI (p k), iI (q k)]) = lst 2 m fun k => [iI (p k), iI (q k)], pl = pl, ph = ph, dl = dl, dh = dh, c = c, T = T, lo = lo, hi = hi, Eq1 z9, Eq1 z10, pl = pl, ph = ph, dl = dl, dh = dh, Eq1 z5, c = c, T = T, lo = lo, hi = hi, z6 = lst 4 n (rq4 a b u v), (lst 2 m fun k => [iI (p k), iI (q k)]) = lst 2 m fun k => [iI (p k), iI (q k)], pl = pl, ph = ph, dl = dl, dh = dh, u0 = u0, u1 = u1, wi = wi, day = day, Eq1 (AV.mp 5), c = c, T = T, lo = lo, hi = hi, Eq1 z11, Eq1 z12, pl = pl, ph = ph, dl = dl, dh = dh, u0 = u0, u1 = u1, wi = wi, day = day, Eq1 (AV.mp 5), ∀ (k : Value), enH k → enH k ∧ z4 k = z4 k, Eq1 (List.length out), ∀ (i : Nat), i < List.length out → [iI (nthJ out i)] = [iI (nthJ out i)], Eq1 (ptr 0 0), Eq1 (ptr 1 0), Eq1 (ptr 2 0), Eq1 (ptr 3 0), Eq1 (AV.row 6), Eq1 (ptr 4 0), Eq1 (AV.mp 5)] (leaf true))); let z8 := (List.length (selL (bitsL out) n)); let z13 := (sg a (selL (bitsL out) n)); let z14 := (sg b (selL (bitsL out) n)); let z15 := (sg u (selL (bitsL out) n)); let z16 := (sg v (selL (bitsL out) n)); let z2 := (wkA c T lo hi z8 z13 z14 z15 z16 m p q pl ph dl dh); let z3 := (Value.agg #[Value.int IntKind.i64 (bitsL out)]); let z7 := (need [MapKey Tryz.prog 198 enH z3 (Value.bool false), enH z3, Value.bool false = z4 z3] z0); let z17 := rdE c T lo hi z8 z13 z14 z15 z16 m p q pl ph dl dh; (branch ((0 : Int) == (0 : Int)) (need [MapKey Tryz.prog 198 enH z3 (Value.bool false)] (Tree.may (enH z3) (branch (enB c T lo hi n a b u v m p q pl ph dl dh u0 u1 wi day (keyI z3)) z1 z0) (need [n ≤ 12] (need [Eq1 (ptr 4 0), Eq1 (agg [iI (bitsL out)]), Eq1 (ptr 13 0), Eq1 (AV.lit false), false = false, Eq1 (AV.lit false), Eq1 (ptr 21 0), z6 = lst 4 n (rq4 a b u v), Eq1 (↑n : Int), (0 : Int) = (↑(0 : Nat) : Int), 0 = List.length (selL (bitsL out) 0), ∀ (i : Nat), i < List.length (selL (bitsL out) 0) → [] = [iI (sg a (selL (bitsL out) 0) i), iI (sg b (selL (bitsL out) 0) i), iI (sg u (selL (bitsL out) 0) i), iI (sg v (selL (bitsL out) 0) i)], c = c, T = T, lo = lo, hi = hi, Eq1 (AV.row 950), (lst 2 m fun k => [iI (p k), iI (q k)]) = lst 2 m fun k => [iI (p k), iI (q k)], pl = pl, ph = ph, dl = dl, dh = dh, Eq1 (bitsL out), Eq1 (bitsL out), Eq1 (ptr 4 0), c = c, T = T, lo = lo, hi = hi, z6 = lst 4 n (rq4 a b u v), (lst 2 m fun k => [iI (p k), iI (q k)]) = lst 2 m fun k => [iI (p k), iI (q k)], pl = pl, ph = ph, dl = dl, dh = dh, c = c, T = T, lo = lo, hi = hi, Eq1 z9, Eq1 z10, pl = pl, ph = ph, dl = dl, dh = dh, Eq1 z5, c = c, T = T, lo = lo, hi = hi, z6 = lst 4 n (rq4 a b u v), (lst 2 m fun k => [iI (p k), iI (q k)]) = lst 2 m fun k => [iI (p k), iI (q k)], pl = pl, ph = ph, dl = dl, dh = dh, u0 = u0, u1 = u1, wi = wi, day = day, Eq1 (AV.mp 5), c = c, T = T, lo = lo, hi = hi, Eq1 z11, Eq1 z12, pl = pl, ph = ph, dl = dl, dh = dh, u0 = u0, u1 = u1, wi = wi, day = day, Eq1 (AV.mp 5), ∀ (k : Value), enH k → enH k ∧ z4 k = z4 k, Eq1 (List.length out), ∀ (i : Nat), i < List.length out → [iI (nthJ out i)] = [iI (nthJ out i)], Eq1 (AV.row 6), Eq1 (agg [iI (bitsL out)]), Eq1 (↑s : Int), Eq1 (0 : Int), Eq1 (ptr 0 0), Eq1 (ptr 1 0), Eq1 (ptr 2 0), Eq1 (ptr 3 0), Eq1 (ptr 7 0), Eq1 (AV.lit false), Eq1 (0 : Int), Eq1 (AV.lit true), Eq1 (ptr 4 0), Eq1 (agg [iI (bitsL out)]), Eq1 (ptr 0 0), Eq1 (ptr 1 0), Eq1 (ptr 2 0), Eq1 (ptr 3 0), Eq1 (AV.row 6), Eq1 (ptr 4 0), Eq1 (AV.mp 5)] (need [isRec 4 z8 fun q => [i (sg a (selL (bitsL out) n) q), i (sg b (selL (bitsL out) n) q), i (sg u (selL (bitsL out) n) q), i (sg v (selL (bitsL out) n) q)], isRec 2 m fun k => [Pt.i (p k), Pt.i (q k)]] (branch (decide (z17 = (0 : Int))) (branch ((0 : Int) == (0 : Int)) (need [drB z2, bdB z2, (1 : Int) ≤ c ∧ c ≤ (10 : Int), (0 : Int) ≤ u0 ∧ u0 ≤ u1 ∧ u1 ≤ (10 : Int), (0 : Int) ≤ wi ∧ wi ≤ (1000000 : Int), (0 : Int) ≤ day ∧ day ≤ (100000 : Int)] (need [MapKey Tryz.prog 198 enH z3 (Value.bool false), enH z3, Value.bool (keB c z2 u0 u1 wi day) = z4 z3] (branch (keB c z2 u0 u1 wi day) z1 z0))) z7) (branch (z17 == (0 : Int)) Tree.fail z7))))))) Tree.fail))) (by kernel_rfl) (by kernel_rfl) rfl rfl (by kernel_rfl) ?_
 have ek : ∀ x : Int, keyI (Value.agg #[Value.int IntKind.i64 x]) = x := fun _ => rfl
 have hE : enB c T lo hi n a b u v m p q pl ph dl dh u0 u1 wi day (bitsL out) = (decide (rdE c T lo hi (selL (bitsL out) n).length (sg a (selL (bitsL out) n)) (sg b (selL (bitsL out) n)) (sg u (selL (bitsL out) n)) (sg v (selL (bitsL out) n)) m p q pl ph dl dh = 0) && keB c (wkA c T lo hi (selL (bitsL out) n).length (sg a (selL (bitsL out) n)) (sg b (selL (bitsL out) n)) (sg u (selL (bitsL out) n)) (sg v (selL (bitsL out) n)) m p q pl ph dl dh) u0 u1 wi day) := rfl
 have hF : enF c T lo hi n a b u v m p q pl ph dl dh u0 u1 wi day (Value.agg #[Value.int IntKind.i64 (bitsL out)]) = .bool (enB c T lo hi n a b u v m p q pl ph dl dh u0 u1 wi day (bitsL out)) := rfl
 have hH : enH (Value.agg #[Value.int IntKind.i64 (bitsL out)]) := ⟨_, rfl⟩
 have mk := mapKey_en (bitsL out)
 have hL : enL c T lo hi n a b u v m p q pl ph dl dh u0 u1 wi day out = enB c T lo hi n a b u v m p q pl ph dl dh u0 u1 wi day (bitsL out) := rfl
 have h00 : ((0 : Int) == 0) = true := rfl
 have s0 : selL (bitsL out) 0 = [] := rfl
 have hu := usB_iff.1 pre1
 simp only [Tree.sat, allP, fitP, fitL, valEq, inI64, true_and, and_true, decide_eq_true_eq, decide_eq_false_iff_not, Int.toNat_natCast, ek, hF, hL, h00, s0, true_implies, Bool.true_eq_false, false_implies, List.length_nil]
 generalize selL (bitsL out) n = L at hE ⊢
 generalize enB c T lo hi n a b u v m p q pl ph dl dh u0 u1 wi day (bitsL out) = B at hE ⊢
 refine ⟨mk, fun _ => ⟨fun h => ?_, fun h => ?_⟩, pre0, ?_, ⟨Bo.isRec4 _ _ _ _ _, Pt.isRec2 _ _ _⟩, fun h3 => ?_, fun h3 => ?_⟩
 ·subst h
  (repeat' first | with_reducible apply And.intro | with_reducible intro _)
  all_goals first | exact True.intro | exact isRec1 _ _ | omega | assumption | rfl | trace_state
 ·subst h
  (repeat' first | with_reducible apply And.intro | with_reducible intro _)
  all_goals first | exact True.intro | exact isRec1 _ _ | omega | assumption | rfl | trace_state
 ·(repeat' first | with_reducible apply And.intro | with_reducible intro _)
  all_goals first | exact True.intro | omega | assumption | rfl | (exfalso; omega) | trace_state
 ·rw [decide_eq_true h3, Bool.true_and] at hE
  have hw := wk_ok h3
  rw [← hE]
  (repeat' first | with_reducible apply And.intro | with_reducible intro _)
  all_goals first | exact True.intro | exact hw.1.1 | exact hw.1.2 | exact hw.2.1 | exact mk | exact hH | exact isRec1 _ _ | omega | assumption | rfl | (rename_i hb; exact hb.symm) | (rename_i hb _ _; exact hb.symm) | (simp_all; done) | trace_state
 ·rw [decide_eq_false h3, Bool.false_and] at hE
  subst hE
  (repeat' first | with_reducible apply And.intro | with_reducible intro _)
  all_goals first | exact True.intro | exact mk | exact hH | exact isRec1 _ _ | omega | assumption | rfl | (simp_all; done) | trace_state
end Go.Proofs.YtlinbkmpkcmniaaGreat
