/- Contracts of functions of the program, by the engine Sx: what each call comes to. Printed by a program of this repo (sxgen.py). -/
import Derived.Test.YtchcegfhamngkaaPtC
import Derived.Test.YtchcegfhamngkaaSxR
set_option linter.unusedSimpArgs false
set_option linter.unusedVariables false
namespace Go.Proofs.Ytchcegfhamngkaa
open Go Go.Sx Go.RowKit
def S_pall1 : Sx.Spec := fun l => match l with
  | [.agg [.x (.int .i64 a), .x (.int .i64 b)], .ro [.fn (.func 53) [] []]] => some ([], bl (!scB a b))
  | _ => none

set_option maxRecDepth 100000 in
theorem pall1_at (a b : Int) : SoundAt Try.prog 78 [.agg [i a, i b], .ro [.fn (.func 53) [] []]] (bl (!scB a b)) := by
  refine soundAt_fin (G := [(53, S_valid)]) (L := []) (SoundG.cons valid_ok (SoundG.nil _)) mixed Try.func78 (show Try.f78.body = some (bodyOf Try.f78) by kernel_rfl) noLoops (t := (Tree.leaf (RV.x (Value.bool !scB a b)))) (by kernel_rfl) ?_
  simp [Tree.sat, fitP, valEq]
theorem pall1_ok : SoundSpec Try.prog 78 S_pall1 := by
  refine ⟨⟨_, Try.func78, by kernel_rfl, by kernel_rfl⟩, ?_⟩
  intro avs ns res h hn
  unfold S_pall1 at h
  split at h
  · cases h
    exact pall1_at _ _
  · cases h


abbrev scs (n : Nat) (a b : Nat → Int) : AV := .lst 2 n (fun k => [i (a k), i (b k)])
def notS (a b : Nat → Int) (k : Nat) : Bool := !scB (a k) (b k)
def allS (n : Nat) (a b : Nat → Int) : Bool := allI (fun k => scB (a k) (b k)) n

noncomputable def E_xf (n : Nat) (a b : Nat → Int) : St := (some
  {
    σ :=
      [AV.lst (2 : Nat) n fun k => [AV.x (Value.int IntKind.i64 (a k)), AV.x (Value.int IntKind.i64 (b k))],
        AV.fn (Fn.func (78 : Nat)) [] [AV.ro [AV.fn (Fn.func (53 : Nat)) [] []]], AV.top, AV.top, AV.top, AV.top,
        AV.lst (2 : Nat) n fun k => [AV.x (Value.int IntKind.i64 (a k)), AV.x (Value.int IntKind.i64 (b k))],
        AV.x (Value.int IntKind.i64 (↑n : Int)), AV.top, AV.top, AV.top, AV.top, AV.top, AV.top, AV.top, AV.top, AV.top,
        AV.top, AV.top],
    m := [], nx := (4 : Nat) } : Option St).getD { σ := [], m := [], nx := 0 }
noncomputable def B_xf : Code := loopBody (loopAt (bodyOf Try.f88) 0)
noncomputable def inv_xf (n : Nat) (a b : Nat → Int) (k : Nat) : St := { σ := ovrS [(8, i k)] (E_xf n a b).σ, m := (E_xf n a b).m, nx := (E_xf n a b).nx }
noncomputable def out_xf (n : Nat) (a b : Nat → Int) (k : Nat) : AEx → Option St := fun ex => match ex with
  | .ret => some { σ := ovrS [(4, i (fstI (notS a b) n))] (E_xf n a b).σ, m := (E_xf n a b).m, nx := (E_xf n a b).nx }
  | .exit 0 => some { σ := ovrS [] (E_xf n a b).σ, m := (E_xf n a b).m, nx := (E_xf n a b).nx }
  | _ => none
noncomputable def T_xf (n : Nat) (a b : Nat → Int) : CT := .branch (decide (fstI (notS a b) n < n)) (.leaf (.ret, ( out_xf n a b 0 .ret).getD (E_xf n a b))) (.leaf (.exit 0, ( out_xf n a b 0 (.exit 0)).getD (E_xf n a b)))
noncomputable def LS_xf (n : Nat) (a b : Nat → Int) : LSpec := (sumL (inv_xf n a b (0)) (T_xf n a b))
set_option maxRecDepth 100000 in
theorem xf_ls (n : Nat) (a b : Nat → Int) (pre0 : n ≤ 100000) : LSound Try.prog (.loop B_xf) (LS_xf n a b) := by
  refine loop_rounds (G := [(78, S_pall1)]) (L := []) (SoundG.cons pall1_ok (SoundG.nil _)) mixed noLoops (X := Nat) (inv_xf n a b) (fun k => k ≤ n ∧ ∀ j, j < k → notS a b j = false) (fun k => n - k) (out_xf n a b) (x0 := 0) (by simp) ?_ ?_ ?_
  · rintro k
    kernel_rfl
  · rintro k y E h
    unfold out_xf at h
    split at h
    · cases h; kernel_rfl
    · cases h; kernel_rfl
    · cases h
  · rintro Q hQ k hx
    refine ⟨(k + 1), ?_⟩
    have e : roundT Try.prog [(78, S_pall1)] [] B_xf (inv_xf n a b k) (inv_xf n a b ((k + 1))) (out_xf n a b k) = (Tree.branch (decide ((↑k : Int) < (↑n : Int))) (Tree.need [(0 : Int) ≤ (↑k : Int) ∧ (↑k : Int) < (↑n : Int)] (Tree.branch (!scB (a (Int.toNat (↑k : Int))) (b (Int.toNat (↑k : Int)))) (Tree.need [(AV.lst 2 n fun k => [iI (a k), iI (b k)]) = AV.lst 2 n fun k => [iI (a k), iI (b k)], AV.fn (Fn.func 78) [] [AV.ro [AV.fn (Fn.func 53) [] []]] = AV.fn (Fn.func 78) [] [AV.ro [AV.fn (Fn.func 53) [] []]], (↑k : Int) = (↑(fstI (notS a b) n) : Int), (AV.lst 2 n fun k => [iI (a k), iI (b k)]) = AV.lst 2 n fun k => [iI (a k), iI (b k)], (↑n : Int) = (↑n : Int)] (Tree.leaf AEx.ret)) (Tree.need [inI64 ((↑k : Int) + (1 : Int))] (Tree.need [(AV.lst 2 n fun k => [iI (a k), iI (b k)]) = AV.lst 2 n fun k => [iI (a k), iI (b k)], AV.fn (Fn.func 78) [] [AV.ro [AV.fn (Fn.func 53) [] []]] = AV.fn (Fn.func 78) [] [AV.ro [AV.fn (Fn.func 53) [] []]], (AV.lst 2 n fun k => [iI (a k), iI (b k)]) = AV.lst 2 n fun k => [iI (a k), iI (b k)], (↑n : Int) = (↑n : Int), (↑k : Int) + (1 : Int) = (↑(k + 1) : Int)] (Tree.leaf AEx.normal))))) (Tree.need [(AV.lst 2 n fun k => [iI (a k), iI (b k)]) = AV.lst 2 n fun k => [iI (a k), iI (b k)], AV.fn (Fn.func 78) [] [AV.ro [AV.fn (Fn.func 53) [] []]] = AV.fn (Fn.func 78) [] [AV.ro [AV.fn (Fn.func 53) [] []]], (AV.lst 2 n fun k => [iI (a k), iI (b k)]) = AV.lst 2 n fun k => [iI (a k), iI (b k)], (↑n : Int) = (↑n : Int)] (Tree.leaf (AEx.exit 0)))) := by kernel_rfl
    rw [e]
    simp only [T_xf, out_xf, Tree.sat, Option.getD_some, decide_eq_true_eq, decide_eq_false_iff_not] at hQ
    simp only [Tree.sat, allP, true_and, and_true, decide_eq_true_eq, decide_eq_false_iff_not, inI64, out_xf, Int.toNat_natCast]
    refine ⟨fun h => ⟨by omega, fun hb => ?_, fun hb => ?_⟩, fun h => ?_⟩
    · have hf : fstI (notS a b) n = k := fstI_eq (by omega) hb hx.2
      refine ⟨by omega, fun E hE => ?_⟩
      cases hE
      exact hQ.1 (by omega)
    · refine ⟨by omega, by omega, ⟨by omega, fun j hj => ?_⟩, by omega⟩
      rcases (show j < k ∨ j = k by omega) with h1 | rfl
      · exact hx.2 j h1
      · exact hb
    · have hf : fstI (notS a b) n = n := fstI_none (fun j hj => hx.2 j (by omega))
      intro E hE
      cases hE
      exact hQ.2 (by omega)

set_option maxRecDepth 100000 in
theorem xf_at (n : Nat) (a b : Nat → Int) (pre0 : n ≤ 100000) : SoundAt Try.prog 88 [scs n a b, .fn (.func 78) [] [.ro [.fn (.func 53) [] []]]] (i (if fstI (notS a b) n < n then (fstI (notS a b) n : Int) else -1)) := by
  refine soundAt_fin (G := [(78, S_pall1)]) (L := [LS_xf n a b]) (SoundG.cons pall1_ok (SoundG.nil _)) mixed Try.func88 (show Try.f88.body = some (bodyOf Try.f88) by kernel_rfl) (one_loop (fun cj hcj => by
    have e : loopAt (bodyOf Try.f88) 0 = some (.loop B_xf) := by kernel_rfl
    rw [e] at hcj; cases hcj
    exact xf_ls n a b pre0)) (t := (Tree.need [(AV.lst 2 n fun k => [iI (a k), iI (b k)]) = AV.lst 2 n fun k => [iI (a k), iI (b k)], AV.fn (Fn.func 78) [] [AV.ro [AV.fn (Fn.func 53) [] []]] = AV.fn (Fn.func 78) [] [AV.ro [AV.fn (Fn.func 53) [] []]], (AV.lst 2 n fun k => [iI (a k), iI (b k)]) = AV.lst 2 n fun k => [iI (a k), iI (b k)], (↑n : Int) = (↑n : Int), (0 : Int) = (↑(0 : Nat) : Int)] (Tree.branch (decide (fstI (notS a b) n < n)) (Tree.leaf (RV.x (Value.int IntKind.i64 (↑(fstI (notS a b) n) : Int)))) (Tree.leaf (RV.x (Value.int IntKind.i64 (-1 : Int))))))) (by kernel_rfl) ?_
  simp only [Tree.sat, allP, fitP, valEq, true_and, and_true, decide_eq_true_eq, decide_eq_false_iff_not]
  simp +contextual


theorem isRec2 (n : Nat) (a b : Nat → Int) : isRec 2 n (fun k => [i (a k), i (b k)]) := fun _ _ => rfl
def col (j : Nat) (f : Nat → List AV) : Nat → Int := fun k => intAt (f k) j
def S_xf : Sx.Spec := fun l => match l with
  | [.lst 2 n f, .fn (.func 78) [] [.ro [.fn (.func 53) [] []]]] => some ([isRec 2 n f, n ≤ 100000], i (if fstI (notS (col 0 f) (col 1 f)) n < n then (fstI (notS (col 0 f) (col 1 f)) n : Int) else -1))
  | _ => none
def S_cf : Sx.Spec := fun l => match l with
  | [.lst 2 n f, .fn (.func 78) [] [.ro [.fn (.func 53) [] []]]] => some ([isRec 2 n f, n ≤ 100000], bl (!allS n (col 0 f) (col 1 f)))
  | _ => none
def S_pall : Sx.Spec := fun l => match l with
  | [.lst 2 n f, .fn (.func 53) [] []] => some ([isRec 2 n f, n ≤ 100000], bl (allS n (col 0 f) (col 1 f)))
  | _ => none


theorem xf_ok : SoundSpec Try.prog 88 S_xf := by
  refine ⟨⟨_, Try.func88, by kernel_rfl, by kernel_rfl⟩, ?_⟩
  intro avs ns res h hn
  unfold S_xf at h
  split at h
  · rename_i n f
    cases h
    have hr : isRec 2 n f := hn _ (by simp)
    exact (xf_at n (col 0 f) (col 1 f) (hn _ (by simp))).same (.cons (.lst 2 n _ _ hr) (.cons (.refl _) .nil))
  · cases h

set_option maxRecDepth 100000 in
theorem cf_at (n : Nat) (a b : Nat → Int) (pre0 : n ≤ 100000) : SoundAt Try.prog 77 [scs n a b, .fn (.func 78) [] [.ro [.fn (.func 53) [] []]]] (bl (!allS n a b)) := by
  refine soundAt_fin (G := [(88, S_xf)]) (L := []) (SoundG.cons xf_ok (SoundG.nil _)) mixed Try.func77 (show Try.f77.body = some (bodyOf Try.f77) by kernel_rfl) noLoops (t := (Tree.need [isRec 2 n fun k => [i (a k), i (b k)], n ≤ 100000] (Tree.leaf (RV.x (Value.bool (decide ((if fstI (notS (col 0 fun k => [i (a k), i (b k)]) (col 1 fun k => [i (a k), i (b k)])) n < n then (↑(fstI (notS (col 0 fun k => [i (a k), i (b k)]) (col 1 fun k => [i (a k), i (b k)])) n) : Int) else (-1 : Int)) ≥ (0 : Int)))))))) (by kernel_rfl) ?_
  simp only [Tree.sat, allP, fitP, valEq, true_and, and_true]
  refine ⟨⟨isRec2 n _ _, pre0⟩, ?_⟩
  unfold allS
  rw [allI_fst]
  have := fstI_spec (notS a b) n
  have e : (fun k => !(fun k => scB (a k) (b k)) k) = notS a b := rfl
  rw [e]
  have e3 : notS (col 0 (fun k => [i (a k), i (b k)])) (col 1 (fun k => [i (a k), i (b k)])) = notS a b := rfl
  rw [e3]
  split <;> simp <;> omega


theorem cf_ok : SoundSpec Try.prog 77 S_cf := by
  refine ⟨⟨_, Try.func77, by kernel_rfl, by kernel_rfl⟩, ?_⟩
  intro avs ns res h hn
  unfold S_cf at h
  split at h
  · rename_i n f
    cases h
    have hr : isRec 2 n f := hn _ (by simp)
    exact (cf_at n (col 0 f) (col 1 f) (hn _ (by simp))).same (.cons (.lst 2 n _ _ hr) (.cons (.refl _) .nil))
  · cases h

set_option maxRecDepth 100000 in
theorem pall_at (n : Nat) (a b : Nat → Int) (pre0 : n ≤ 100000) : SoundAt Try.prog 52 [scs n a b, .fn (.func 53) [] []] (bl (allS n a b)) := by
  refine soundAt_fin (G := [(77, S_cf)]) (L := []) (SoundG.cons cf_ok (SoundG.nil _)) mixed Try.func52 (show Try.f52.body = some (bodyOf Try.f52) by kernel_rfl) noLoops (t := (Tree.need [isRec 2 n fun k => [i (a k), i (b k)], n ≤ 100000] (Tree.leaf (RV.x (Value.bool !!allS n (col 0 fun k => [i (a k), i (b k)]) (col 1 fun k => [i (a k), i (b k)])))))) (by kernel_rfl) ?_
  simp only [Tree.sat, allP, fitP, valEq, true_and, and_true]
  refine ⟨⟨isRec2 n _ _, pre0⟩, ?_⟩
  have e3 : allS n (col 0 (fun k => [i (a k), i (b k)])) (col 1 (fun k => [i (a k), i (b k)])) = allS n a b := rfl
  simp [e3]


theorem pall_ok : SoundSpec Try.prog 52 S_pall := by
  refine ⟨⟨_, Try.func52, by kernel_rfl, by kernel_rfl⟩, ?_⟩
  intro avs ns res h hn
  unfold S_pall at h
  split at h
  · rename_i n f
    cases h
    have hr : isRec 2 n f := hn _ (by simp)
    exact (pall_at n (col 0 f) (col 1 f) (hn _ (by simp))).same (.cons (.lst 2 n _ _ hr) (.cons (.refl _) .nil))
  · cases h

end Go.Proofs.Ytchcegfhamngkaa
