/- Texts of this claim, put together: BoV, BoW, BoX, BoY, BoZ, BpA, BpB, BpC, BpD -/
import Derived.Test.YtmdeoobmeokmeaaMk
/- Contracts of functions of the program, by the engine Sx: what each call comes to. Printed by a program of this repo (sxgen.py). -/
set_option linter.unusedSimpArgs false
set_option linter.unusedVariables false
namespace Go.Proofs.Ytmdeoobmeokmeaa
open Go Go.Sx Go.RowKit
noncomputable def E_fa (c T lo hi : Int) (n : Nat) (a b u v : Nat → Int) : St := (some
  {
    σ :=
      [AV.agg
          [AV.x (Value.int IntKind.i64 c), AV.x (Value.int IntKind.i64 T), AV.x (Value.int IntKind.i64 lo),
            AV.x (Value.int IntKind.i64 hi)],
        AV.lst (4 : Nat) n fun k =>
          [AV.x (Value.int IntKind.i64 (a k)), AV.x (Value.int IntKind.i64 (b k)), AV.x (Value.int IntKind.i64 (u k)),
            AV.x (Value.int IntKind.i64 (v k))],
        AV.ptr (0 : Nat) (0 : Nat), AV.top, AV.top, AV.top, AV.top, AV.top, AV.top, AV.top, AV.top, AV.top, AV.top,
        AV.top, AV.top, AV.top, AV.top, AV.top, AV.top, AV.top, AV.top, AV.top, AV.top, AV.top, AV.top, AV.top, AV.top,
        AV.top, AV.top, AV.top, AV.top, AV.top, AV.top, AV.top, AV.top, AV.top, AV.top, AV.top, AV.top, AV.top, AV.top,
        AV.top, AV.top, AV.top, AV.top, AV.top],
    m :=
      [((0 : Nat),
          Res.cells (25 : Nat)
            [AV.x (Value.int IntKind.i64 c), AV.x (Value.int IntKind.i64 T), AV.x (Value.int IntKind.i64 lo),
              AV.x (Value.int IntKind.i64 hi)])],
    nx := (9 : Nat) } : Option St).getD { σ := [], m := [], nx := 0 }
noncomputable def B_fa : Code := loopBody (loopAt (bodyOf Try.f63) 0)
noncomputable def inv_fa (c T lo hi : Int) (n : Nat) (a b u v : Nat → Int) (k : Nat) : St := { σ := ovrS [(5, i k)] (E_fa c T lo hi n a b u v).σ, m := (E_fa c T lo hi n a b u v).m, nx := (E_fa c T lo hi n a b u v).nx }
noncomputable def out_fa (c T lo hi : Int) (n : Nat) (a b u v : Nat → Int) (k : Nat) : AEx → Option St := fun ex => match ex with
  | .exit 0 => some { σ := ovrS [] (E_fa c T lo hi n a b u v).σ, m := (E_fa c T lo hi n a b u v).m, nx := (E_fa c T lo hi n a b u v).nx }
  | .ret => some { σ := ovrS [(4, i 2)] (E_fa c T lo hi n a b u v).σ, m := (E_fa c T lo hi n a b u v).m, nx := (E_fa c T lo hi n a b u v).nx }
  | _ => none
noncomputable def T_fa (c T lo hi : Int) (n : Nat) (a b u v : Nat → Int) : CT := .branch (allI ((fun k => rdB c (a k) (b k) (u k) (v k))) n) (.leaf (.exit 0, ( out_fa c T lo hi n a b u v 0 (.exit 0)).getD (E_fa c T lo hi n a b u v))) (.leaf (.ret, ( out_fa c T lo hi n a b u v 0 .ret).getD (E_fa c T lo hi n a b u v)))
noncomputable def LS_fa (c T lo hi : Int) (n : Nat) (a b u v : Nat → Int) : LSpec := (sumL (inv_fa c T lo hi n a b u v (0)) (T_fa c T lo hi n a b u v))
set_option maxRecDepth 100000 in
theorem fa_ls (c T lo hi : Int) (n : Nat) (a b u v : Nat → Int) (pre0 : n ≤ 100000) (pre1 : 1 ≤ c ∧ c ≤ 10) : LSound Try.prog (.loop B_fa) (LS_fa c T lo hi n a b u v) := by
  refine loop_rounds (G := [(42, S_rIn), (26, S_rSpan), (31, S_rIsTube)]) (L := []) (SoundG.cons rIn_ok (SoundG.cons rSpan_ok (SoundG.cons rIsTube_ok (SoundG.nil _)))) mixed noLoops (X := Nat) (inv_fa c T lo hi n a b u v) (fun k => k ≤ n ∧ ∀ j, j < k → ((fun k => rdB c (a k) (b k) (u k) (v k))) j = true) (fun k => n - k) (out_fa c T lo hi n a b u v) (x0 := 0) ⟨by omega, fun j hj => by omega⟩ ?_ ?_ ?_
  · rintro k
    kernel_rfl
  · rintro k y E h
    unfold out_fa at h
    split at h
    · cases h; kernel_rfl
    · cases h; kernel_rfl
    · cases h
  · rintro Q hQ k hx
    refine ⟨(k + 1), ?_⟩
    have e : roundT Try.prog [(42, S_rIn), (26, S_rSpan), (31, S_rIsTube)] [] B_fa (inv_fa c T lo hi n a b u v k) (inv_fa c T lo hi n a b u v ((k + 1))) (out_fa c T lo hi n a b u v k) = (Tree.branch (decide ((↑k : Int) < (↑n : Int))) (Tree.need [(0 : Int) ≤ (↑k : Int) ∧ (↑k : Int) < (↑n : Int)] (Tree.need [inI64 (c - (1 : Int))] (Tree.branch (!bt (0 : Int) (a k) (c - (1 : Int))) (Tree.need [AV.agg [iI c, iI T, iI lo, iI hi] = AV.agg [iI c, iI T, iI lo, iI hi], (AV.lst 4 n fun k => [iI (a k), iI (b k), iI (u k), iI (v k)]) = AV.lst 4 n fun k => [iI (a k), iI (b k), iI (u k), iI (v k)], AV.ptr 0 0 = AV.ptr 0 0, (2 : Int) = (2 : Int), c = c, T = T, lo = lo, hi = hi] (Tree.leaf AEx.ret)) (Tree.branch (!bt (a k) (b k) c) (Tree.need [AV.agg [iI c, iI T, iI lo, iI hi] = AV.agg [iI c, iI T, iI lo, iI hi], (AV.lst 4 n fun k => [iI (a k), iI (b k), iI (u k), iI (v k)]) = AV.lst 4 n fun k => [iI (a k), iI (b k), iI (u k), iI (v k)], AV.ptr 0 0 = AV.ptr 0 0, (2 : Int) = (2 : Int), c = c, T = T, lo = lo, hi = hi] (Tree.leaf AEx.ret)) (Tree.branch (!insB (0 : Int) (u k) (v k) (2000 : Int)) (Tree.need [AV.agg [iI c, iI T, iI lo, iI hi] = AV.agg [iI c, iI T, iI lo, iI hi], (AV.lst 4 n fun k => [iI (a k), iI (b k), iI (u k), iI (v k)]) = AV.lst 4 n fun k => [iI (a k), iI (b k), iI (u k), iI (v k)], AV.ptr 0 0 = AV.ptr 0 0, (2 : Int) = (2 : Int), c = c, T = T, lo = lo, hi = hi] (Tree.leaf AEx.ret)) (Tree.need [inI64 ((↑k : Int) + (1 : Int))] (Tree.need [AV.agg [iI c, iI T, iI lo, iI hi] = AV.agg [iI c, iI T, iI lo, iI hi], (AV.lst 4 n fun k => [iI (a k), iI (b k), iI (u k), iI (v k)]) = AV.lst 4 n fun k => [iI (a k), iI (b k), iI (u k), iI (v k)], AV.ptr 0 0 = AV.ptr 0 0, (↑k : Int) + (1 : Int) = (↑(k + 1) : Int), c = c, T = T, lo = lo, hi = hi] (Tree.leaf AEx.normal)))))))) (Tree.need [AV.agg [iI c, iI T, iI lo, iI hi] = AV.agg [iI c, iI T, iI lo, iI hi], (AV.lst 4 n fun k => [iI (a k), iI (b k), iI (u k), iI (v k)]) = AV.lst 4 n fun k => [iI (a k), iI (b k), iI (u k), iI (v k)], AV.ptr 0 0 = AV.ptr 0 0, c = c, T = T, lo = lo, hi = hi] (Tree.leaf (AEx.exit 0)))) := by kernel_rfl
    rw [e]
    simp only [T_fa, out_fa, Tree.sat, Option.getD_some] at hQ
    have hbad : k < n → ((fun k => rdB c (a k) (b k) (u k) (v k))) k = false → allI ((fun k => rdB c (a k) (b k) (u k) (v k))) n = false := by
      intro h1 h2
      rw [← Bool.not_eq_true]
      intro h3
      have := allI_iff.1 h3 k h1
      exact Bool.noConfusion (h2.symm.trans this)
    have hgood : ((fun k => rdB c (a k) (b k) (u k) (v k))) k = true → ∀ j, j < k + 1 → ((fun k => rdB c (a k) (b k) (u k) (v k))) j = true := by
      intro h1 j hj
      rcases (show j < k ∨ j = k by omega) with h | rfl
      · exact hx.2 j h
      · exact h1
    have hend : ¬ k < n → allI ((fun k => rdB c (a k) (b k) (u k) (v k))) n = true := fun h => allI_iff.2 (fun j hj => hx.2 j (by omega))
    have hQ1 : ∀ E, out_fa c T lo hi n a b u v k .ret = some E → allI ((fun k => rdB c (a k) (b k) (u k) (v k))) n = false → Q (.ret, E) := by
      intro E hE hf
      cases hE
      exact hQ.2 hf
    have hQ2 : ∀ E, out_fa c T lo hi n a b u v k (.exit 0) = some E → allI ((fun k => rdB c (a k) (b k) (u k) (v k))) n = true → Q (.exit 0, E) := by
      intro E hE hf
      cases hE
      exact hQ.1 hf
    simp only [Tree.sat, allP, true_and, and_true, decide_eq_true_eq, decide_eq_false_iff_not, inI64, Int.toNat_natCast]
    
    clear e
    repeat' first | with_reducible apply And.intro | with_reducible intro _
    all_goals first | exact True.intro | omega | exact hQ1 _ (by assumption) (hbad (by omega) (by simp_all [rdB])) | exact hQ2 _ (by assumption) (hend (by omega)) | exact hgood (by simp_all [rdB]) _ (by assumption)

set_option maxRecDepth 100000 in
theorem rFault_at (c T lo hi : Int) (n : Nat) (a b u v : Nat → Int) : SoundAt Try.prog 63 [.agg [i c, i T, i lo, i hi], rds n a b u v] (i (flt c T lo hi n a b u v)) := by
  refine soundAt_fin (G := [(42, S_rIn), (26, S_rSpan), (31, S_rIsTube)]) (L := [needSp [n ≤ 100000, 1 ≤ c ∧ c ≤ 10] (LS_fa c T lo hi n a b u v)]) (SoundG.cons rIn_ok (SoundG.cons rSpan_ok (SoundG.cons rIsTube_ok (SoundG.nil _)))) mixed Try.func63 (show Try.f63.body = some (bodyOf Try.f63) by kernel_rfl) (one_loop (fun cj hcj => by
    have e : loopAt (bodyOf Try.f63) 0 = some (.loop B_fa) := by kernel_rfl
    rw [e] at hcj; cases hcj
    exact needSp_sound (fun h => fa_ls c T lo hi n a b u v h.1 h.2))) (t := (Tree.branch (!tubeB c T lo hi) (Tree.leaf (RV.x (Value.int IntKind.i64 (1 : Int)))) (Tree.branch (decide ((↑n : Int) > (12 : Int))) (Tree.leaf (RV.x (Value.int IntKind.i64 (3 : Int)))) (Tree.need [n ≤ 100000, (1 : Int) ≤ c ∧ c ≤ (10 : Int)] (Tree.need [AV.agg [iI c, iI T, iI lo, iI hi] = AV.agg [iI c, iI T, iI lo, iI hi], (AV.lst 4 n fun k => [iI (a k), iI (b k), iI (u k), iI (v k)]) = AV.lst 4 n fun k => [iI (a k), iI (b k), iI (u k), iI (v k)], AV.ptr 0 0 = AV.ptr 0 0, (0 : Int) = (↑(0 : Nat) : Int), c = c, T = T, lo = lo, hi = hi] (Tree.branch (allI (fun k => rdB c (a k) (b k) (u k) (v k)) n) (Tree.leaf (RV.x (Value.int IntKind.i64 (0 : Int)))) (Tree.leaf (RV.x (Value.int IntKind.i64 (2 : Int)))))))))) (by kernel_rfl) ?_
  simp only [Tree.sat, allP, fitP, fitL, valEq, inI64, true_and, and_true, Bool.not_eq_true', Bool.not_eq_false', decide_eq_true_eq, decide_eq_false_iff_not]
  unfold flt allR
  refine ⟨fun h1 => ?_, fun h1 => ⟨fun h2 => ?_, fun h2 => ⟨?_, rfl, fun h3 => ?_, fun h3 => ?_⟩⟩⟩
  · rw [h1]; rfl
  · rw [h1]; simp; omega
  · have hb := tube_bd h1
    omega
  · rw [h1, h3]; simp; omega
  · rw [h1, h3]; simp; omega

def S_rFault : Sx.Spec := fun l => match l with
  | [.agg [.x (.int .i64 c), .x (.int .i64 T), .x (.int .i64 lo), .x (.int .i64 hi)], .lst 4 n f] => some ([isRec 4 n f], i (flt c T lo hi n (col 0 f) (col 1 f) (col 2 f) (col 3 f)))
  | _ => none

theorem rFault_ok : SoundSpec Try.prog 63 S_rFault := by
  refine ⟨⟨_, Try.func63, by kernel_rfl, by kernel_rfl⟩, ?_⟩
  intro avs ns res h hn
  unfold S_rFault at h
  split at h
  · rename_i c T lo hi n f
    cases h
    have hr0 : isRec 4 n f := hn _ (by simp)
    exact (rFault_at c T lo hi n (col 0 f) (col 1 f) (col 2 f) (col 3 f)).same (.cons (.refl _) (.cons (.lst 4 n _ _ hr0) .nil))
  · cases h

set_option maxRecDepth 100000 in
theorem fault_at (c T lo hi : Int) (n : Nat) (a b u v : Nat → Int) : SoundAt Try.prog 47 [.agg [i c, i T, i lo, i hi], rds n a b u v] (i (flt c T lo hi n a b u v)) := by
  refine soundAt_fin (G := [(63, S_rFault)]) (L := []) (SoundG.cons rFault_ok (SoundG.nil _)) mixed Try.func47 (show Try.f47.body = some (bodyOf Try.f47) by kernel_rfl) noLoops (t := (Tree.need [isRec 4 n fun k => [i (a k), i (b k), i (u k), i (v k)]] (Tree.leaf (RV.x (Value.int IntKind.i64 (flt c T lo hi n a b u v)))))) (by kernel_rfl) ?_
  simp only [Tree.sat, allP, fitP, fitL, valEq, inI64, true_and, and_true]
  exact isRec4 n a b u v

def S_fault : Sx.Spec := fun l => match l with
  | [.agg [.x (.int .i64 c), .x (.int .i64 T), .x (.int .i64 lo), .x (.int .i64 hi)], .lst 4 n f] => some ([isRec 4 n f], i (flt c T lo hi n (col 0 f) (col 1 f) (col 2 f) (col 3 f)))
  | _ => none

theorem fault_ok : SoundSpec Try.prog 47 S_fault := by
  refine ⟨⟨_, Try.func47, by kernel_rfl, by kernel_rfl⟩, ?_⟩
  intro avs ns res h hn
  unfold S_fault at h
  split at h
  · rename_i c T lo hi n f
    cases h
    have hr0 : isRec 4 n f := hn _ (by simp)
    exact (fault_at c T lo hi n (col 0 f) (col 1 f) (col 2 f) (col 3 f)).same (.cons (.refl _) (.cons (.lst 4 n _ _ hr0) .nil))
  · cases h

noncomputable def E_he (n : Nat) (f : Nat → Int) (k : Int) : St := (some
  {
    σ :=
      [AV.lst (1 : Nat) n fun k => [AV.x (Value.int IntKind.i64 (f k))], AV.x (Value.int IntKind.i64 k), AV.top, AV.top,
        AV.x (Value.int IntKind.i64 (0 : Int)), AV.top, AV.top, AV.top, AV.top, AV.top, AV.top, AV.top, AV.top, AV.top,
        AV.top, AV.top, AV.top, AV.top, AV.top],
    m := [], nx := (3 : Nat) } : Option St).getD { σ := [], m := [], nx := 0 }
noncomputable def B_he : Code := loopBody (loopAt (bodyOf Try.f40) 0)
noncomputable def inv_he (n : Nat) (f : Nat → Int) (k : Int) (j : Nat) : St := { σ := ovrS [(6, i j), (5, i (sumF f j))] (E_he n f k).σ, m := (E_he n f k).m, nx := (E_he n f k).nx }
noncomputable def out_he (n : Nat) (f : Nat → Int) (k : Int) (j : Nat) : AEx → Option St := fun ex => match ex with
  | .exit 0 => some { σ := ovrS [(6, i k.toNat), (5, i (sumF f k.toNat))] (E_he n f k).σ, m := (E_he n f k).m, nx := (E_he n f k).nx }
  | _ => none
noncomputable def T_he (n : Nat) (f : Nat → Int) (k : Int) : CT := .leaf (.exit 0, ( out_he n f k 0 (.exit 0)).getD (E_he n f k))
noncomputable def LS_he (n : Nat) (f : Nat → Int) (k : Int) : LSpec := normSp [] (sumL (inv_he n f k (0)) (T_he n f k))
set_option maxRecDepth 100000 in
theorem he_ls (n : Nat) (f : Nat → Int) (k : Int) (pre0 : k ≤ n) (pre1 : n ≤ 100) (pre2 : ∀ k, k < n → -1000000 ≤ f k ∧ f k ≤ 1000000) : LSound Try.prog (.loop B_he) (LS_he n f k) := by
  refine loop_roundsX [] (E := { R := [], H := [] }) (G := []) (L := []) (SoundG.nil _) (SoundX.of (SoundRL.nil _) (SoundHL.nil _)) mixed noLoops (X := Nat) (inv_he n f k) (fun j => j ≤ k.toNat) (fun j => k.toNat - j) (out_he n f k) (x0 := 0) (by simp) ?_ ?_ ?_
  · rintro j
    kernel_rfl
  · rintro j y E h
    unfold out_he at h
    split at h
    · cases h; kernel_rfl
    · cases h
  · rintro Q hQ j hx
    refine ⟨(j + 1), ?_⟩
    have e : roundX Try.prog [] { R := [], H := [] } [] [] B_he (inv_he n f k j) (inv_he n f k ((j + 1))) (out_he n f k j) = (Tree.branch (decide ((↑j : Int) < k)) (Tree.need [(0 : Int) ≤ (↑j : Int) ∧ (↑j : Int) < (↑n : Int)] (Tree.need [inI64 (sumF f j + f j)] (Tree.need [inI64 ((↑j : Int) + (1 : Int))] (Tree.need [(AV.lst 1 n fun k => [iI (f k)]) = AV.lst 1 n fun k => [iI (f k)], k = k, (0 : Int) = (0 : Int), sumF f j + f j = sumF f (j + 1), (↑j : Int) + (1 : Int) = (↑(j + 1) : Int)] (Tree.leaf AEx.normal))))) (Tree.need [(AV.lst 1 n fun k => [iI (f k)]) = AV.lst 1 n fun k => [iI (f k)], k = k, (0 : Int) = (0 : Int), sumF f j = sumF f (Int.toNat k), (↑j : Int) = (↑(Int.toNat k) : Int)] (Tree.leaf (AEx.exit 0)))) := by kernel_rfl
    rw [e]
    simp only [T_he, out_he, Tree.sat, Option.getD_some] at hQ
    simp only [Tree.sat, allP, fitP, fitL, valEq, inI64, true_and, and_true, decide_eq_true_eq, decide_eq_false_iff_not, Int.natCast_zero, Int.toNat_natCast, List.length_cons, List.length_nil, updL_one, out_he]
    clear e
    have hf := pre2 j
    have hs := sumF_bd (f := f) (n := n) (N := 1000000) (by omega) pre2 j (by omega)
    have hs2 := sumF_bd (f := f) (n := n) (N := 1000000) (by omega) pre2 (j + 1)
    have he : sumF f (j + 1) = sumF f j + f j := rfl
    refine ⟨fun h => ?_, fun h => ?_⟩
    · (repeat' first | with_reducible apply And.intro | with_reducible intro _)
      all_goals first | exact True.intro | omega | with_reducible rfl | exact one_of (by assumption) (by simp [AV.one, Value.oneCell']) | exact catF4 (by assumption) rfl rfl rfl rfl | exact catF2 (by assumption) rfl rfl | (rename_i E hE; cases hE; exact hQ) | rfl | assumption
    · obtain rfl : j = k.toNat := by omega
      (repeat' first | with_reducible apply And.intro | with_reducible intro _)
      all_goals first | exact True.intro | omega | with_reducible rfl | exact one_of (by assumption) (by simp [AV.one, Value.oneCell']) | exact catF4 (by assumption) rfl rfl rfl rfl | exact catF2 (by assumption) rfl rfl | (rename_i E hE; cases hE; exact hQ) | rfl | assumption

set_option maxRecDepth 100000 in
theorem rHeight_at (n : Nat) (f : Nat → Int) (k : Int) (pre0 : k ≤ n) (pre1 : n ≤ 100) (pre2 : ∀ k, k < n → -1000000 ≤ f k ∧ f k ≤ 1000000) : SoundAt Try.prog 40 [.lst 1 n (fun k => [i (f k)]), i k] (i (sumF f k.toNat)) := by
  refine soundAt_fin (G := []) (L := [LS_he n f k]) (SoundG.nil _) mixed Try.func40 (show Try.f40.body = some (bodyOf Try.f40) by kernel_rfl) (one_loop (fun cj hcj => by
    have e : loopAt (bodyOf Try.f40) 0 = some (.loop B_he) := by kernel_rfl
    rw [e] at hcj; cases hcj
    exact he_ls n f k pre0 pre1 pre2)) (t := (Tree.need [(AV.lst 1 n fun k => [iI (f k)]) = AV.lst 1 n fun k => [iI (f k)], k = k, (0 : Int) = (0 : Int), (0 : Int) = sumF f 0, (0 : Int) = (↑(0 : Nat) : Int)] (Tree.leaf (RV.x (Value.int IntKind.i64 (sumF f (Int.toNat k))))))) (by kernel_rfl) ?_
  simp only [Tree.sat, allP, fitP, fitL, valEq, inI64, true_and, and_true]
  (repeat' first | with_reducible apply And.intro | with_reducible intro _)
  all_goals first | exact True.intro | omega | with_reducible rfl | rfl

def S_rHeight : Sx.Spec := fun l => match l with
  | [.lst 1 n f, .x (.int .i64 k)] => some ([isRec 1 n f, k ≤ n, n ≤ 100, ∀ k, k < n → -1000000 ≤ col 0 f k ∧ col 0 f k ≤ 1000000], i (sumF (col 0 f) k.toNat))
  | _ => none

theorem rHeight_ok : SoundSpec Try.prog 40 S_rHeight := by
  refine ⟨⟨_, Try.func40, by kernel_rfl, by kernel_rfl⟩, ?_⟩
  intro avs ns res h hn
  unfold S_rHeight at h
  split at h
  · rename_i n f k
    cases h
    have hr0 : isRec 1 n f := hn _ (by simp)
    exact (rHeight_at n (col 0 f) k (hn _ (by simp)) (hn _ (by simp)) (hn _ (by simp))).same (.cons (.lst 1 n _ _ hr0) (.cons (.refl _) .nil))
  · cases h


/-- Whether a reading is right, by heights. -/
def rrB (c : Int) (h : Nat → Int) (a b u v : Int) : Bool := decide (max u (h b.toNat - h a.toNat) ≤ if b < c then min v (h (b + 1).toNat - h a.toNat - 1) else v)

set_option maxRecDepth 100000 in
theorem rRight_at (c T lo hi a b u v : Int) (n : Nat) (f : Nat → Int) (pre0 : (n : Int) = c) (pre1 : 1 ≤ c ∧ c ≤ 10) (pre2 : 0 ≤ a ∧ a ≤ c - 1 ∧ a ≤ b ∧ b ≤ c) (pre3 : 0 ≤ u ∧ u ≤ v ∧ v ≤ 2000) (pre4 : ∀ k, k < n → -1000000 ≤ f k ∧ f k ≤ 1000000) : SoundAt Try.prog 78 [.agg [i c, i T, i lo, i hi], .agg [i a, i b, i u, i v], .lst 1 n (fun k => [i (f k)])] (bl (rrB c (sumF f) a b u v)) := by
  refine soundAt_fin (G := [(40, S_rHeight)]) (L := []) (SoundG.cons rHeight_ok (SoundG.nil _)) mixed Try.func78 (show Try.f78.body = some (bodyOf Try.f78) by kernel_rfl) noLoops (t := (Tree.need [isRec 1 n fun k => [i (f k)], a ≤ (↑n : Int), n ≤ 100, ∀ (k : Nat), k < n → (-1000000 : Int) ≤ f k ∧ f k ≤ (1000000 : Int)] (Tree.need [isRec 1 n fun k => [i (f k)], b ≤ (↑n : Int), n ≤ 100, ∀ (k : Nat), k < n → (-1000000 : Int) ≤ f k ∧ f k ≤ (1000000 : Int)] (Tree.need [inI64 (sumF f (Int.toNat b) - sumF f (Int.toNat a))] (Tree.branch (decide (b < c)) (Tree.need [inI64 (b + (1 : Int))] (Tree.need [isRec 1 n fun k => [i (f k)], b + (1 : Int) ≤ (↑n : Int), n ≤ 100, ∀ (k : Nat), k < n → (-1000000 : Int) ≤ f k ∧ f k ≤ (1000000 : Int)] (Tree.need [inI64 (sumF f (Int.toNat (b + (1 : Int))) - sumF f (Int.toNat a))] (Tree.need [inI64 (sumF f (Int.toNat (b + (1 : Int))) - sumF f (Int.toNat a) - (1 : Int))] (Tree.leaf (RV.x (Value.bool (decide (max u (sumF f (Int.toNat b) - sumF f (Int.toNat a)) ≤ min v (sumF f (Int.toNat (b + (1 : Int))) - sumF f (Int.toNat a) - (1 : Int))))))))))) (Tree.leaf (RV.x (Value.bool (decide (max u (sumF f (Int.toNat b) - sumF f (Int.toNat a)) ≤ v)))))))))) (by kernel_rfl) ?_
  have hs : ∀ j, j ≤ n → -10000000 ≤ sumF f j ∧ sumF f j ≤ 10000000 := fun j hj => by
    have := sumF_bd (f := f) (n := n) (N := 1000000) (by omega) pre4 j hj
    omega
  have h1 := hs a.toNat (by omega)
  have h2 := hs b.toNat (by omega)
  have h3 := fun h => hs (b + 1).toNat h
  simp only [Tree.sat, allP, fitP, fitL, valEq, inI64, true_and, and_true, decide_eq_true_eq, decide_eq_false_iff_not]
  refine ⟨⟨isRec1 _ _, by omega, by omega, pre4⟩, ⟨isRec1 _ _, by omega, by omega, pre4⟩, by omega, fun hb => ⟨by omega, ⟨isRec1 _ _, by omega, by omega, pre4⟩, by have := h3 (by omega); omega, by have := h3 (by omega); omega, ?_⟩, fun hb => ?_⟩
  · unfold rrB
    rw [if_pos hb]
  · unfold rrB
    rw [if_neg hb]

def S_rRight : Sx.Spec := fun l => match l with
  | [.agg [.x (.int .i64 c), .x (.int .i64 T), .x (.int .i64 lo), .x (.int .i64 hi)], .agg [.x (.int .i64 a), .x (.int .i64 b), .x (.int .i64 u), .x (.int .i64 v)], .lst 1 n f] => some ([isRec 1 n f, (n : Int) = c, 1 ≤ c ∧ c ≤ 10, 0 ≤ a ∧ a ≤ c - 1 ∧ a ≤ b ∧ b ≤ c, 0 ≤ u ∧ u ≤ v ∧ v ≤ 2000, ∀ k, k < n → -1000000 ≤ col 0 f k ∧ col 0 f k ≤ 1000000], bl (rrB c (sumF (col 0 f)) a b u v))
  | _ => none

theorem rRight_ok : SoundSpec Try.prog 78 S_rRight := by
  refine ⟨⟨_, Try.func78, by kernel_rfl, by kernel_rfl⟩, ?_⟩
  intro avs ns res h hn
  unfold S_rRight at h
  split at h
  · rename_i c T lo hi a b u v n f
    cases h
    have hr0 : isRec 1 n f := hn _ (by simp)
    exact (rRight_at c T lo hi a b u v n (col 0 f) (hn _ (by simp)) (hn _ (by simp)) (hn _ (by simp)) (hn _ (by simp)) (hn _ (by simp))).same (.cons (.refl _) (.cons (.refl _) (.cons (.lst 1 n _ _ hr0) .nil)))
  · cases h


/-- Whether volumes are a truth, as the reference says. -/
def itB (c T lo hi : Int) (n : Nat) (a b u v : Nat → Int) (m : Nat) (f : Nat → Int) : Bool := cellsB c lo hi m f && allI (fun j => rrB c (sumF f) (a j) (b j) (u j) (v j)) n && decide (sumF f c.toNat = T)

noncomputable def E_i1 (c T lo hi : Int) (n : Nat) (a b u v : Nat → Int) (m : Nat) (f : Nat → Int) : St := (some
  {
    σ :=
      [AV.agg
          [AV.x (Value.int IntKind.i64 c), AV.x (Value.int IntKind.i64 T), AV.x (Value.int IntKind.i64 lo),
            AV.x (Value.int IntKind.i64 hi)],
        AV.lst (4 : Nat) n fun k =>
          [AV.x (Value.int IntKind.i64 (a k)), AV.x (Value.int IntKind.i64 (b k)), AV.x (Value.int IntKind.i64 (u k)),
            AV.x (Value.int IntKind.i64 (v k))],
        AV.lst (1 : Nat) m fun k => [AV.x (Value.int IntKind.i64 (f k))], AV.ptr (0 : Nat) (0 : Nat), AV.top, AV.top,
        AV.top, AV.top, AV.top, AV.top, AV.top, AV.top, AV.top, AV.top, AV.top, AV.top, AV.top, AV.top, AV.top, AV.top,
        AV.top, AV.top, AV.top, AV.top, AV.top, AV.top, AV.top, AV.top, AV.top, AV.top, AV.top, AV.top, AV.top, AV.top,
        AV.top, AV.top, AV.top, AV.top, AV.top, AV.top, AV.top, AV.top, AV.top, AV.top, AV.top, AV.top, AV.top, AV.top,
        AV.top, AV.top, AV.top, AV.top, AV.top],
    m :=
      [((0 : Nat),
          Res.cells (25 : Nat)
            [AV.x (Value.int IntKind.i64 c), AV.x (Value.int IntKind.i64 T), AV.x (Value.int IntKind.i64 lo),
              AV.x (Value.int IntKind.i64 hi)])],
    nx := (8 : Nat) } : Option St).getD { σ := [], m := [], nx := 0 }
noncomputable def B_i1 : Code := loopBody (loopAt (bodyOf Try.f43) 0)
noncomputable def inv_i1 (c T lo hi : Int) (n : Nat) (a b u v : Nat → Int) (m : Nat) (f : Nat → Int) (k : Nat) : St := { σ := ovrS [(7, i k)] (E_i1 c T lo hi n a b u v m f).σ, m := (E_i1 c T lo hi n a b u v m f).m, nx := (E_i1 c T lo hi n a b u v m f).nx }
noncomputable def out_i1 (c T lo hi : Int) (n : Nat) (a b u v : Nat → Int) (m : Nat) (f : Nat → Int) (k : Nat) : AEx → Option St := fun ex => match ex with
  | .exit 0 => some { σ := ovrS [] (E_i1 c T lo hi n a b u v m f).σ, m := (E_i1 c T lo hi n a b u v m f).m, nx := (E_i1 c T lo hi n a b u v m f).nx }
  | .ret => some { σ := ovrS [(6, .lit false)] (E_i1 c T lo hi n a b u v m f).σ, m := (E_i1 c T lo hi n a b u v m f).m, nx := (E_i1 c T lo hi n a b u v m f).nx }
  | _ => none
noncomputable def T_i1 (c T lo hi : Int) (n : Nat) (a b u v : Nat → Int) (m : Nat) (f : Nat → Int) : CT := .branch (allI ((fun k => bt lo (f k) hi)) m) (.leaf (.exit 0, ( out_i1 c T lo hi n a b u v m f 0 (.exit 0)).getD (E_i1 c T lo hi n a b u v m f))) (.leaf (.ret, ( out_i1 c T lo hi n a b u v m f 0 .ret).getD (E_i1 c T lo hi n a b u v m f)))
noncomputable def LS_i1 (c T lo hi : Int) (n : Nat) (a b u v : Nat → Int) (m : Nat) (f : Nat → Int) : LSpec := (sumL (inv_i1 c T lo hi n a b u v m f (0)) (T_i1 c T lo hi n a b u v m f))
set_option maxRecDepth 100000 in
theorem i1_ls (c T lo hi : Int) (n : Nat) (a b u v : Nat → Int) (m : Nat) (f : Nat → Int) (pre0 : m ≤ 100000) : LSound Try.prog (.loop B_i1) (LS_i1 c T lo hi n a b u v m f) := by
  refine loop_rounds (G := [(42, S_rIn)]) (L := []) (SoundG.cons rIn_ok (SoundG.nil _)) mixed noLoops (X := Nat) (inv_i1 c T lo hi n a b u v m f) (fun k => k ≤ m ∧ ∀ j, j < k → ((fun k => bt lo (f k) hi)) j = true) (fun k => m - k) (out_i1 c T lo hi n a b u v m f) (x0 := 0) ⟨by omega, fun j hj => by omega⟩ ?_ ?_ ?_
  · rintro k
    kernel_rfl
  · rintro k y E h
    unfold out_i1 at h
    split at h
    · cases h; kernel_rfl
    · cases h; kernel_rfl
    · cases h
  · rintro Q hQ k hx
    refine ⟨(k + 1), ?_⟩
    have e : roundT Try.prog [(42, S_rIn)] [] B_i1 (inv_i1 c T lo hi n a b u v m f k) (inv_i1 c T lo hi n a b u v m f ((k + 1))) (out_i1 c T lo hi n a b u v m f k) = (Tree.branch (decide ((↑k : Int) < (↑m : Int))) (Tree.need [(0 : Int) ≤ (↑k : Int) ∧ (↑k : Int) < (↑m : Int)] (Tree.branch (!bt lo (f k) hi) (Tree.need [AV.agg [iI c, iI T, iI lo, iI hi] = AV.agg [iI c, iI T, iI lo, iI hi], (AV.lst 4 n fun k => [iI (a k), iI (b k), iI (u k), iI (v k)]) = AV.lst 4 n fun k => [iI (a k), iI (b k), iI (u k), iI (v k)], (AV.lst 1 m fun k => [iI (f k)]) = AV.lst 1 m fun k => [iI (f k)], AV.ptr 0 0 = AV.ptr 0 0, AV.lit false = AV.lit false, c = c, T = T, lo = lo, hi = hi] (Tree.leaf AEx.ret)) (Tree.need [inI64 ((↑k : Int) + (1 : Int))] (Tree.need [AV.agg [iI c, iI T, iI lo, iI hi] = AV.agg [iI c, iI T, iI lo, iI hi], (AV.lst 4 n fun k => [iI (a k), iI (b k), iI (u k), iI (v k)]) = AV.lst 4 n fun k => [iI (a k), iI (b k), iI (u k), iI (v k)], (AV.lst 1 m fun k => [iI (f k)]) = AV.lst 1 m fun k => [iI (f k)], AV.ptr 0 0 = AV.ptr 0 0, (↑k : Int) + (1 : Int) = (↑(k + 1) : Int), c = c, T = T, lo = lo, hi = hi] (Tree.leaf AEx.normal))))) (Tree.need [AV.agg [iI c, iI T, iI lo, iI hi] = AV.agg [iI c, iI T, iI lo, iI hi], (AV.lst 4 n fun k => [iI (a k), iI (b k), iI (u k), iI (v k)]) = AV.lst 4 n fun k => [iI (a k), iI (b k), iI (u k), iI (v k)], (AV.lst 1 m fun k => [iI (f k)]) = AV.lst 1 m fun k => [iI (f k)], AV.ptr 0 0 = AV.ptr 0 0, c = c, T = T, lo = lo, hi = hi] (Tree.leaf (AEx.exit 0)))) := by kernel_rfl
    rw [e]
    simp only [T_i1, out_i1, Tree.sat, Option.getD_some] at hQ
    have hbad : k < m → ((fun k => bt lo (f k) hi)) k = false → allI ((fun k => bt lo (f k) hi)) m = false := by
      intro h1 h2
      rw [← Bool.not_eq_true]
      intro h3
      have := allI_iff.1 h3 k h1
      exact Bool.noConfusion (h2.symm.trans this)
    have hgood : ((fun k => bt lo (f k) hi)) k = true → ∀ j, j < k + 1 → ((fun k => bt lo (f k) hi)) j = true := by
      intro h1 j hj
      rcases (show j < k ∨ j = k by omega) with h | rfl
      · exact hx.2 j h
      · exact h1
    have hend : ¬ k < m → allI ((fun k => bt lo (f k) hi)) m = true := fun h => allI_iff.2 (fun j hj => hx.2 j (by omega))
    have hQ1 : ∀ E, out_i1 c T lo hi n a b u v m f k .ret = some E → allI ((fun k => bt lo (f k) hi)) m = false → Q (.ret, E) := by
      intro E hE hf
      cases hE
      exact hQ.2 hf
    have hQ2 : ∀ E, out_i1 c T lo hi n a b u v m f k (.exit 0) = some E → allI ((fun k => bt lo (f k) hi)) m = true → Q (.exit 0, E) := by
      intro E hE hf
      cases hE
      exact hQ.1 hf
    simp only [Tree.sat, allP, true_and, and_true, decide_eq_true_eq, decide_eq_false_iff_not, inI64, Int.toNat_natCast]
    
    clear e
    repeat' first | with_reducible apply And.intro | with_reducible intro _
    all_goals first | exact True.intro | omega | exact hQ1 _ (by assumption) (hbad (by omega) (by simp_all)) | exact hQ2 _ (by assumption) (hend (by omega)) | exact hgood (by simp_all) _ (by assumption)

noncomputable def E_i2 (c T lo hi : Int) (n : Nat) (a b u v : Nat → Int) (m : Nat) (f : Nat → Int) : St := (some
  {
    σ :=
      [AV.agg
          [AV.x (Value.int IntKind.i64 c), AV.x (Value.int IntKind.i64 T), AV.x (Value.int IntKind.i64 lo),
            AV.x (Value.int IntKind.i64 hi)],
        AV.lst (4 : Nat) n fun k =>
          [AV.x (Value.int IntKind.i64 (a k)), AV.x (Value.int IntKind.i64 (b k)), AV.x (Value.int IntKind.i64 (u k)),
            AV.x (Value.int IntKind.i64 (v k))],
        AV.lst (1 : Nat) m fun k => [AV.x (Value.int IntKind.i64 (f k))], AV.ptr (0 : Nat) (0 : Nat), AV.top, AV.top,
        AV.top, AV.top, AV.top, AV.top, AV.top, AV.top, AV.top, AV.top, AV.top, AV.top, AV.top, AV.top, AV.top, AV.top,
        AV.top, AV.top, AV.top, AV.top, AV.top, AV.top, AV.top, AV.top, AV.top, AV.top, AV.top, AV.top, AV.top, AV.top,
        AV.top, AV.top, AV.top, AV.top, AV.top, AV.top, AV.top, AV.top, AV.top, AV.top, AV.top, AV.top, AV.top, AV.top,
        AV.top, AV.top, AV.top, AV.top, AV.top],
    m :=
      [((0 : Nat),
          Res.cells (25 : Nat)
            [AV.x (Value.int IntKind.i64 c), AV.x (Value.int IntKind.i64 T), AV.x (Value.int IntKind.i64 lo),
              AV.x (Value.int IntKind.i64 hi)])],
    nx := (9 : Nat) } : Option St).getD { σ := [], m := [], nx := 0 }
noncomputable def B_i2 : Code := loopBody (loopAt (bodyOf Try.f43) 1)
noncomputable def inv_i2 (c T lo hi : Int) (n : Nat) (a b u v : Nat → Int) (m : Nat) (f : Nat → Int) (k : Nat) : St := { σ := ovrS [(8, i k)] (E_i2 c T lo hi n a b u v m f).σ, m := (E_i2 c T lo hi n a b u v m f).m, nx := (E_i2 c T lo hi n a b u v m f).nx }
noncomputable def out_i2 (c T lo hi : Int) (n : Nat) (a b u v : Nat → Int) (m : Nat) (f : Nat → Int) (k : Nat) : AEx → Option St := fun ex => match ex with
  | .exit 2 => some { σ := ovrS [] (E_i2 c T lo hi n a b u v m f).σ, m := (E_i2 c T lo hi n a b u v m f).m, nx := (E_i2 c T lo hi n a b u v m f).nx }
  | .ret => some { σ := ovrS [(6, .lit false)] (E_i2 c T lo hi n a b u v m f).σ, m := (E_i2 c T lo hi n a b u v m f).m, nx := (E_i2 c T lo hi n a b u v m f).nx }
  | _ => none
noncomputable def T_i2 (c T lo hi : Int) (n : Nat) (a b u v : Nat → Int) (m : Nat) (f : Nat → Int) : CT := .branch (allI ((fun j => rrB c (sumF f) (a j) (b j) (u j) (v j))) n) (.leaf (.exit 2, ( out_i2 c T lo hi n a b u v m f 0 (.exit 2)).getD (E_i2 c T lo hi n a b u v m f))) (.leaf (.ret, ( out_i2 c T lo hi n a b u v m f 0 .ret).getD (E_i2 c T lo hi n a b u v m f)))
noncomputable def LS_i2 (c T lo hi : Int) (n : Nat) (a b u v : Nat → Int) (m : Nat) (f : Nat → Int) : LSpec := (sumL (inv_i2 c T lo hi n a b u v m f (0)) (T_i2 c T lo hi n a b u v m f))
set_option maxRecDepth 100000 in
theorem i2_ls (c T lo hi : Int) (n : Nat) (a b u v : Nat → Int) (m : Nat) (f : Nat → Int) (pre0 : n ≤ 100000) (pre1 : cellsB c lo hi m f = true) (pre2 : flt c T lo hi n a b u v = 0) : LSound Try.prog (.loop B_i2) (LS_i2 c T lo hi n a b u v m f) := by
  refine loop_rounds (G := [(42, S_rIn), (78, S_rRight)]) (L := []) (SoundG.cons rIn_ok (SoundG.cons rRight_ok (SoundG.nil _))) mixed noLoops (X := Nat) (inv_i2 c T lo hi n a b u v m f) (fun k => k ≤ n ∧ ∀ j, j < k → ((fun j => rrB c (sumF f) (a j) (b j) (u j) (v j))) j = true) (fun k => n - k) (out_i2 c T lo hi n a b u v m f) (x0 := 0) ⟨by omega, fun j hj => by omega⟩ ?_ ?_ ?_
  · rintro k
    kernel_rfl
  · rintro k y E h
    unfold out_i2 at h
    split at h
    · cases h; kernel_rfl
    · cases h; kernel_rfl
    · cases h
  · rintro Q hQ k hx
    refine ⟨(k + 1), ?_⟩
    have e : roundT Try.prog [(42, S_rIn), (78, S_rRight)] [] B_i2 (inv_i2 c T lo hi n a b u v m f k) (inv_i2 c T lo hi n a b u v m f ((k + 1))) (out_i2 c T lo hi n a b u v m f k) = (Tree.branch (decide ((↑k : Int) < (↑n : Int))) (Tree.need [(0 : Int) ≤ (↑k : Int) ∧ (↑k : Int) < (↑n : Int)] (Tree.need [isRec 1 m fun k => [iI (f k)], (↑m : Int) = c, (1 : Int) ≤ c ∧ c ≤ (10 : Int), (0 : Int) ≤ a k ∧ a k ≤ c - (1 : Int) ∧ a k ≤ b k ∧ b k ≤ c, (0 : Int) ≤ u k ∧ u k ≤ v k ∧ v k ≤ (2000 : Int), ∀ (k : Nat), k < m → (-1000000 : Int) ≤ f k ∧ f k ≤ (1000000 : Int)] (Tree.branch (!rrB c (sumF f) (a k) (b k) (u k) (v k)) (Tree.need [AV.agg [iI c, iI T, iI lo, iI hi] = AV.agg [iI c, iI T, iI lo, iI hi], (AV.lst 4 n fun k => [iI (a k), iI (b k), iI (u k), iI (v k)]) = AV.lst 4 n fun k => [iI (a k), iI (b k), iI (u k), iI (v k)], (AV.lst 1 m fun k => [iI (f k)]) = AV.lst 1 m fun k => [iI (f k)], AV.ptr 0 0 = AV.ptr 0 0, AV.lit false = AV.lit false, c = c, T = T, lo = lo, hi = hi] (Tree.leaf AEx.ret)) (Tree.need [inI64 ((↑k : Int) + (1 : Int))] (Tree.need [AV.agg [iI c, iI T, iI lo, iI hi] = AV.agg [iI c, iI T, iI lo, iI hi], (AV.lst 4 n fun k => [iI (a k), iI (b k), iI (u k), iI (v k)]) = AV.lst 4 n fun k => [iI (a k), iI (b k), iI (u k), iI (v k)], (AV.lst 1 m fun k => [iI (f k)]) = AV.lst 1 m fun k => [iI (f k)], AV.ptr 0 0 = AV.ptr 0 0, (↑k : Int) + (1 : Int) = (↑(k + 1) : Int), c = c, T = T, lo = lo, hi = hi] (Tree.leaf AEx.normal)))))) (Tree.need [AV.agg [iI c, iI T, iI lo, iI hi] = AV.agg [iI c, iI T, iI lo, iI hi], (AV.lst 4 n fun k => [iI (a k), iI (b k), iI (u k), iI (v k)]) = AV.lst 4 n fun k => [iI (a k), iI (b k), iI (u k), iI (v k)], (AV.lst 1 m fun k => [iI (f k)]) = AV.lst 1 m fun k => [iI (f k)], AV.ptr 0 0 = AV.ptr 0 0, c = c, T = T, lo = lo, hi = hi] (Tree.leaf (AEx.exit 2)))) := by kernel_rfl
    rw [e]
    simp only [T_i2, out_i2, Tree.sat, Option.getD_some] at hQ
    have hbad : k < n → ((fun j => rrB c (sumF f) (a j) (b j) (u j) (v j))) k = false → allI ((fun j => rrB c (sumF f) (a j) (b j) (u j) (v j))) n = false := by
      intro h1 h2
      rw [← Bool.not_eq_true]
      intro h3
      have := allI_iff.1 h3 k h1
      exact Bool.noConfusion (h2.symm.trans this)
    have hgood : ((fun j => rrB c (sumF f) (a j) (b j) (u j) (v j))) k = true → ∀ j, j < k + 1 → ((fun j => rrB c (sumF f) (a j) (b j) (u j) (v j))) j = true := by
      intro h1 j hj
      rcases (show j < k ∨ j = k by omega) with h | rfl
      · exact hx.2 j h
      · exact h1
    have hend : ¬ k < n → allI ((fun j => rrB c (sumF f) (a j) (b j) (u j) (v j))) n = true := fun h => allI_iff.2 (fun j hj => hx.2 j (by omega))
    have hQ1 : ∀ E, out_i2 c T lo hi n a b u v m f k .ret = some E → allI ((fun j => rrB c (sumF f) (a j) (b j) (u j) (v j))) n = false → Q (.ret, E) := by
      intro E hE hf
      cases hE
      exact hQ.2 hf
    have hQ2 : ∀ E, out_i2 c T lo hi n a b u v m f k (.exit 2) = some E → allI ((fun j => rrB c (sumF f) (a j) (b j) (u j) (v j))) n = true → Q (.exit 2, E) := by
      intro E hE hf
      cases hE
      exact hQ.1 hf
    simp only [Tree.sat, allP, true_and, and_true, decide_eq_true_eq, decide_eq_false_iff_not, inI64, Int.toNat_natCast]
    have hf := flt_iff.1 pre2
    have hb := tube_bd hf.1
    have hcell := cellsB_iff.1 pre1
    have hk := fun (h : k < n) => rdB_v (allI_iff.1 hf.2.2 k h)
    have hfb : ∀ k, k < m → -1000000 ≤ f k ∧ f k ≤ 1000000 := fun k hk => by have := hcell.2 k hk; omega
    have hrec := isRec1 m f
    clear e
    repeat' first | with_reducible apply And.intro | with_reducible intro _
    all_goals first | exact True.intro | omega | exact hQ1 _ (by assumption) (hbad (by omega) (by simp_all)) | exact hQ2 _ (by assumption) (hend (by omega)) | exact hgood (by simp_all) _ (by assumption) | (have := hk (by omega); omega) | exact hrec | (have := hfb _ (by assumption); omega)

set_option maxRecDepth 100000 in
theorem rIsTruth_at (c T lo hi : Int) (n : Nat) (a b u v : Nat → Int) (m : Nat) (f : Nat → Int) (pre0 : m ≤ 100000) (pre1 : flt c T lo hi n a b u v = 0) : SoundAt Try.prog 43 [.agg [i c, i T, i lo, i hi], rds n a b u v, .lst 1 m (fun k => [i (f k)])] (bl (itB c T lo hi n a b u v m f)) := by
  refine soundAt_fin (G := [(42, S_rIn), (78, S_rRight), (40, S_rHeight)]) (L := [needSp [m ≤ 100000] (LS_i1 c T lo hi n a b u v m f), needSp [n ≤ 100000, cellsB c lo hi m f = true, flt c T lo hi n a b u v = 0] (LS_i2 c T lo hi n a b u v m f)]) (SoundG.cons rIn_ok (SoundG.cons rRight_ok (SoundG.cons rHeight_ok (SoundG.nil _)))) mixed Try.func43 (show Try.f43.body = some (bodyOf Try.f43) by kernel_rfl) (two_loops (fun cj hcj => by
    have e : loopAt (bodyOf Try.f43) 0 = some (.loop B_i1) := by kernel_rfl
    rw [e] at hcj; cases hcj
    exact needSp_sound (fun h => i1_ls c T lo hi n a b u v m f h)) (fun cj hcj => by
    have e : loopAt (bodyOf Try.f43) 1 = some (.loop B_i2) := by kernel_rfl
    rw [e] at hcj; cases hcj
    exact needSp_sound (fun h => i2_ls c T lo hi n a b u v m f h.1 h.2.1 h.2.2))) (t := (Tree.branch ((↑m : Int) != c) (Tree.leaf (RV.x (Value.bool false))) (Tree.need [m ≤ 100000] (Tree.need [AV.agg [iI c, iI T, iI lo, iI hi] = AV.agg [iI c, iI T, iI lo, iI hi], (AV.lst 4 n fun k => [iI (a k), iI (b k), iI (u k), iI (v k)]) = AV.lst 4 n fun k => [iI (a k), iI (b k), iI (u k), iI (v k)], (AV.lst 1 m fun k => [iI (f k)]) = AV.lst 1 m fun k => [iI (f k)], AV.ptr 0 0 = AV.ptr 0 0, (0 : Int) = (↑(0 : Nat) : Int), c = c, T = T, lo = lo, hi = hi] (Tree.branch (allI (fun k => bt lo (f k) hi) m) (Tree.need [n ≤ 100000, cellsB c lo hi m f = true, flt c T lo hi n a b u v = (0 : Int)] (Tree.need [AV.agg [iI c, iI T, iI lo, iI hi] = AV.agg [iI c, iI T, iI lo, iI hi], (AV.lst 4 n fun k => [iI (a k), iI (b k), iI (u k), iI (v k)]) = AV.lst 4 n fun k => [iI (a k), iI (b k), iI (u k), iI (v k)], (AV.lst 1 m fun k => [iI (f k)]) = AV.lst 1 m fun k => [iI (f k)], AV.ptr 0 0 = AV.ptr 0 0, (0 : Int) = (↑(0 : Nat) : Int), c = c, T = T, lo = lo, hi = hi] (Tree.branch (allI (fun j => rrB c (sumF f) (a j) (b j) (u j) (v j)) n) (Tree.need [isRec 1 m fun k => [iI (f k)], c ≤ (↑m : Int), m ≤ 100, ∀ (k : Nat), k < m → (-1000000 : Int) ≤ f k ∧ f k ≤ (1000000 : Int)] (Tree.leaf (RV.x (Value.bool (sumF f (Int.toNat c) == T))))) (Tree.leaf (RV.x (Value.bool false)))))) (Tree.leaf (RV.x (Value.bool false)))))))) (by kernel_rfl) ?_
  simp only [Tree.sat, allP, fitP, fitL, valEq, true_and, and_true, bne_iff_ne, ne_eq, bne_eq_false_iff_eq, decide_eq_true_eq, decide_eq_false_iff_not]
  have hf := flt_iff.1 pre1
  have hb := tube_bd hf.1
  refine ⟨fun h2 => ?_, fun h2 => ⟨pre0, rfl, fun h3 => ?_, fun h3 => ?_⟩⟩
  · simp [itB, cellsB, h2]
  · have hcell : cellsB c lo hi m f = true := by simp [cellsB, h2, h3]
    have hc2 := cellsB_iff.1 hcell
    have e0 : itB c T lo hi n a b u v m f = (allI (fun j => rrB c (sumF f) (a j) (b j) (u j) (v j)) n && decide (sumF f c.toNat = T)) := by simp [itB, hcell]
    rw [e0]
    refine ⟨⟨by omega, hcell, pre1⟩, rfl, fun h4 => ⟨⟨isRec1 _ _, by omega, by omega, fun k hk => by have := hc2.2 k hk; omega⟩, ?_⟩, fun h4 => ?_⟩
    · rw [h4]
      rfl
    · rw [h4]
      rfl
  · simp [itB, cellsB, h3]

def S_rIsTruth : Sx.Spec := fun l => match l with
  | [.agg [.x (.int .i64 c), .x (.int .i64 T), .x (.int .i64 lo), .x (.int .i64 hi)], .lst 4 n f, .lst 1 m g] => some ([isRec 4 n f, isRec 1 m g, m ≤ 100000, flt c T lo hi n (col 0 f) (col 1 f) (col 2 f) (col 3 f) = 0], bl (itB c T lo hi n (col 0 f) (col 1 f) (col 2 f) (col 3 f) m (col 0 g)))
  | _ => none

theorem rIsTruth_ok : SoundSpec Try.prog 43 S_rIsTruth := by
  refine ⟨⟨_, Try.func43, by kernel_rfl, by kernel_rfl⟩, ?_⟩
  intro avs ns res h hn
  unfold S_rIsTruth at h
  split at h
  · rename_i c T lo hi n f m g
    cases h
    have hr0 : isRec 4 n f := hn _ (by simp)
    have hr1 : isRec 1 m g := hn _ (by simp)
    exact (rIsTruth_at c T lo hi n (col 0 f) (col 1 f) (col 2 f) (col 3 f) m (col 0 g) (hn _ (by simp)) (hn _ (by simp))).same (.cons (.refl _) (.cons (.lst 4 n _ _ hr0) (.cons (.lst 1 m _ _ hr1) .nil)))
  · cases h


theorem hgA_in {f : Nat → Int} {m j : Nat} (h : j ≤ m) : hgA f m j = sumF f j := if_pos h
theorem rr_ok {c lo hi : Int} {m : Nat} {f : Nat → Int} {a b u v : Int} (hl : 1 ≤ lo) (hm : (m : Int) = c) (hf : ∀ j, j < m → lo ≤ f j ∧ f j ≤ hi) (hr : (0 ≤ a ∧ a ≤ c - 1) ∧ (a ≤ b ∧ b ≤ c) ∧ 0 ≤ u ∧ u ≤ v ∧ v ≤ 2000) : rrB c (sumF f) a b u v = okH c (hgA f m) a b u v := by
  rw [Bool.eq_iff_iff, okH_iff]
  unfold rrB
  rw [decide_eq_true_eq, hgA_in (show b.toNat ≤ m by omega), hgA_in (show a.toNat ≤ m by omega)]
  by_cases hb : b < c
  · rw [if_pos hb, hgA_in (show (b + 1).toNat ≤ m by omega)]
    have e : (b + 1).toNat = b.toNat + 1 := by omega
    have h1 : sumF f (b.toNat + 1) = sumF f b.toNat + f b.toNat := rfl
    have h2 := hf b.toNat (by omega)
    rw [e]
    omega
  · rw [if_neg hb]
    omega
theorem it_pt {c T lo hi : Int} {n : Nat} {a b u v : Nat → Int} {m : Nat} {f : Nat → Int} (h : flt c T lo hi n a b u v = 0) : itB c T lo hi n a b u v m f = ptB c T lo hi n a b u v m f := by
  have hf := flt_iff.1 h
  have hb := tube_bd hf.1
  unfold itB ptB
  rw [decide_eq_true h, Bool.true_and]
  cases hc : cellsB c lo hi m f with
  | false => rfl
  | true =>
    have hc2 := cellsB_iff.1 hc
    have e1 : allI (fun j => rrB c (sumF f) (a j) (b j) (u j) (v j)) n = allI (fun j => okH c (hgA f m) (a j) (b j) (u j) (v j)) n := by
      rw [Bool.eq_iff_iff, allI_iff, allI_iff]
      constructor
      · intro k j hj
        rw [← rr_ok hb.2.1.1 hc2.1 hc2.2 (rdB_v (allI_iff.1 hf.2.2 j hj))]
        exact k j hj
      · intro k j hj
        rw [rr_ok hb.2.1.1 hc2.1 hc2.2 (rdB_v (allI_iff.1 hf.2.2 j hj))]
        exact k j hj
    rw [e1, hgA_in (show c.toNat ≤ m by omega)]


theorem c40 (a b u v : Nat → Int) : col 0 (fun k => [i (a k), i (b k), i (u k), i (v k)]) = a := rfl
theorem c41 (a b u v : Nat → Int) : col 1 (fun k => [i (a k), i (b k), i (u k), i (v k)]) = b := rfl
theorem c42 (a b u v : Nat → Int) : col 2 (fun k => [i (a k), i (b k), i (u k), i (v k)]) = u := rfl
theorem c43 (a b u v : Nat → Int) : col 3 (fun k => [i (a k), i (b k), i (u k), i (v k)]) = v := rfl
theorem c10 (a : Nat → Int) : col 0 (fun k => [i (a k)]) = a := rfl
theorem flt_tube {c T lo hi : Int} {n : Nat} {a b u v : Nat → Int} (h : tubeB c T lo hi = false) : flt c T lo hi n a b u v = 1 := by
  unfold flt
  rw [h]
  rfl
theorem pt_flt {c T lo hi : Int} {n : Nat} {a b u v : Nat → Int} {m : Nat} {f : Nat → Int} (h : flt c T lo hi n a b u v ≠ 0) : ptB c T lo hi n a b u v m f = false := by simp [ptB, h]

set_option maxRecDepth 100000 in
theorem BoreProves_at (c T lo hi : Int) (n : Nat) (a b u v : Nat → Int) (m : Nat) (f : Nat → Int) : SoundAt Try.prog 11 [.agg [i c, i T, i lo, i hi], rds n a b u v, .lst 1 m (fun k => [i (f k)])] (bl true) := by
  refine soundAt_fin (G := [(44, S_CheckTube), (22, S_lTube), (23, S_lReadings), (45, S_ProveTruth), (46, S_llist), (31, S_rIsTube), (47, S_fault), (43, S_rIsTruth), (20, S_wakes)]) (L := []) (SoundG.cons CheckTube_ok (SoundG.cons lTube_ok (SoundG.cons lReadings_ok (SoundG.cons ProveTruth_ok (SoundG.cons llist_ok (SoundG.cons rIsTube_ok (SoundG.cons fault_ok (SoundG.cons rIsTruth_ok (SoundG.cons wakes_ok (SoundG.nil _)))))))))) mixed Try.func11 (show Try.f11.body = some (bodyOf Try.f11) by kernel_rfl) noLoops (t := (Tree.branch (decide ((↑n : Int) > (15 : Int))) (Tree.leaf (RV.x (Value.bool true))) (Tree.branch (decide ((↑m : Int) > (15 : Int))) (Tree.leaf (RV.x (Value.bool true))) (Tree.need [isRec 4 n fun k => [i (a k), i (b k), i (u k), i (v k)], n ≤ 100000] (Tree.need [isRec 1 m fun k => [i (f k)], m ≤ 100000] (Tree.need [isRec 4 n fun k => [i (a k), i (b k), i (u k), i (v k)], isRec 1 m fun k => [i (f k)], m ≤ 100000] (Tree.branch (!tubeB c T lo hi) (Tree.branch ((if tubeB c T lo hi = true then (0 : Int) else (1 : Int)) == (1 : Int)) (Tree.need [isRec 4 n fun k => [i (a k), i (b k), i (u k), i (v k)]] (Tree.branch (flt c T lo hi n a b u v == (0 : Int)) (Tree.need [isRec 4 n fun k => [i (a k), i (b k), i (u k), i (v k)], isRec 1 m fun k => [i (f k)], m ≤ 100000, flt c T lo hi n a b u v = (0 : Int)] (Tree.branch (ptB c T lo hi n a b u v m f == itB c T lo hi n a b u v m f) (Tree.leaf (RV.x (Value.bool true))) (Tree.leaf (RV.x (Value.bool false))))) (Tree.branch (ptB c T lo hi n a b u v m f == false) (Tree.leaf (RV.x (Value.bool true))) (Tree.leaf (RV.x (Value.bool false)))))) (Tree.leaf (RV.x (Value.bool false)))) (Tree.branch ((if tubeB c T lo hi = true then (0 : Int) else (1 : Int)) == (0 : Int)) (Tree.need [isRec 4 n fun k => [i (a k), i (b k), i (u k), i (v k)]] (Tree.branch (flt c T lo hi n a b u v == (0 : Int)) (Tree.need [isRec 4 n fun k => [i (a k), i (b k), i (u k), i (v k)], isRec 1 m fun k => [i (f k)], m ≤ 100000, flt c T lo hi n a b u v = (0 : Int)] (Tree.branch (ptB c T lo hi n a b u v m f == itB c T lo hi n a b u v m f) (Tree.leaf (RV.x (Value.bool true))) (Tree.leaf (RV.x (Value.bool false))))) (Tree.branch (ptB c T lo hi n a b u v m f == false) (Tree.leaf (RV.x (Value.bool true))) (Tree.leaf (RV.x (Value.bool false)))))) (Tree.leaf (RV.x (Value.bool false))))))))))) (by kernel_rfl) ?_
  simp only [Tree.sat, allP, fitP, fitL, valEq, inI64, true_and, and_true, decide_eq_true_eq, decide_eq_false_iff_not, Bool.not_eq_true', Bool.not_eq_false', bne_iff_ne, ne_eq, bne_eq_false_iff_eq, beq_iff_eq, beq_eq_false_iff_ne, c40, c41, c42, c43, c10]
  
  (repeat' first | with_reducible apply And.intro | with_reducible intro _)
  all_goals first | exact True.intro | with_reducible rfl | omega | exact isRec4 _ _ _ _ _ | exact isRec1 _ _ | assumption | (rename_i h6; exact absurd (it_pt (by assumption)).symm h6) | (rename_i h; exact absurd (pt_flt (by assumption)) h) | (simp_all; done)

end Go.Proofs.Ytmdeoobmeokmeaa
/- Contracts of functions of the program, by the engine Sx: what each call comes to. Printed by a program of this repo (sxgen.py). -/
set_option linter.unusedSimpArgs false
set_option linter.unusedVariables false
namespace Go.Proofs.Ytmdeoobmeokmeaa
open Go Go.Sx Go.RowKit

theorem catF1 {k j : Nat} {a : Nat → Int} {x : Int} (h : j < k + 1) (hx : x = a k) : catF k (fun k => [i (a k)]) (chunk 1 [i x]) j = [i (a j)] := by
  have e : j - k = 0 := by omega
  show mergeL (decide (j < k)) [i (a j)] (chunk 1 [i x] (j - k)) = _
  rw [e]
  by_cases hj : j < k
  · rw [show decide (j < k) = true by simp [hj]]
    rfl
  · have hk : j = k := by omega
    rw [show decide (j < k) = false by simp [hj], hk, hx]
    rfl


/-- The volumes of a truth that is as high, or as low, as it can be. -/
def shV (c T lo hi : Int) (n : Nat) (a b u v : Nat → Int) (h : Bool) (k : Nat) : Int := if h then fwB c T lo hi n a b u v 0 (k + 1) - fwB c T lo hi n a b u v 0 k else -(fwB c T lo hi n a b u v (k + 1) 0) - -(fwB c T lo hi n a b u v k 0)
def shE (c T lo hi : Int) (n : Nat) (a b u v : Nat → Int) (mk : Int) : Int := fltB c T lo hi n a b u v (bt 0 mk c)
def shL (c T lo hi : Int) (n : Nat) (a b u v : Nat → Int) (mk : Int) : Nat := if shE c T lo hi n a b u v mk = 0 then c.toNat else 0

noncomputable def E_shh (c T lo hi : Int) (n : Nat) (a b u v : Nat → Int) (mk : Int) : St := (some { σ := [.agg [i c, i T, i lo, i hi], rds n a b u v, i mk, .lit true, .ptr 0 0, .top, .top, .top, .x (.slice none 0 0), i 0, siteB c T lo hi n a b u v, i 0, .ptr 18 0, .x (.slice none 0 0), .top, .top, .top, .top, .top, .top, .top, .top, .top, .top, .top, .top, .top, .top, .top, .top, .top, .top, i c, .top, .top, .top, .top, .top, .top, .top, .top, .top, .top, .top, .top, .top, .top, .top, .top, .top, .top, .top, .top], m := [(901, .row 3 1 0 (fun _ => [])), (18, .cells 113 [.fn (.func 98) [] []]), (0, .cells 34 [i c, i T, i lo, i hi])], nx := 902 } : Option St).getD { σ := [], m := [], nx := 0 }
noncomputable def B_shh : Code := loopBody (loopAt (bodyOf Try.f41) 0)
noncomputable def inv_shh (c T lo hi : Int) (n : Nat) (a b u v : Nat → Int) (mk : Int) (k : Nat) : St := { σ := ovrS [(13, .row 901), (33, i k)] (E_shh c T lo hi n a b u v mk).σ, m := [(901, .row 3 1 (k) (fun k => [i (shV c T lo hi n a b u v true k)])), (18, .cells 113 [.fn (.func 98) [] []]), (0, .cells 34 [i c, i T, i lo, i hi])], nx := (E_shh c T lo hi n a b u v mk).nx }
noncomputable def out_shh (c T lo hi : Int) (n : Nat) (a b u v : Nat → Int) (mk : Int) (k : Nat) : AEx → Option St := fun ex => match ex with
  | .exit 0 => some { σ := ovrS [(13, .row 901), (33, i c)] (E_shh c T lo hi n a b u v mk).σ, m := [(901, .row 3 1 (c.toNat) (fun k => [i (shV c T lo hi n a b u v true k)])), (18, .cells 113 [.fn (.func 98) [] []]), (0, .cells 34 [i c, i T, i lo, i hi])], nx := (E_shh c T lo hi n a b u v mk).nx }
  | _ => none
noncomputable def T_shh (c T lo hi : Int) (n : Nat) (a b u v : Nat → Int) (mk : Int) : CT := .leaf (.exit 0, ( out_shh c T lo hi n a b u v mk 0 (.exit 0)).getD (E_shh c T lo hi n a b u v mk))
noncomputable def LS_shh (c T lo hi : Int) (n : Nat) (a b u v : Nat → Int) (mk : Int) : LSpec := normSp [(.slot 13, 901, 3, 1)] (sumL (inv_shh c T lo hi n a b u v mk (0)) (T_shh c T lo hi n a b u v mk))
set_option maxRecDepth 100000 in
theorem shh_ls (c T lo hi : Int) (n : Nat) (a b u v : Nat → Int) (mk : Int) (pre0 : flt c T lo hi n a b u v = 0) : LSound Try.prog (.loop B_shh) (LS_shh c T lo hi n a b u v mk) := by
  refine loop_roundsX [(.slot 13, 901, 3, 1)] (E := { R := [], H := [] }) (G := [(97, S_low), (98, S_high)]) (L := []) (SoundG.cons low_ok (SoundG.cons high_ok (SoundG.nil _))) (SoundX.of (SoundRL.nil _) (SoundHL.nil _)) mixed noLoops (X := Nat) (inv_shh c T lo hi n a b u v mk) (fun k => k ≤ c.toNat) (fun k => c.toNat - k) (out_shh c T lo hi n a b u v mk) (x0 := 0) (by simp) ?_ ?_ ?_
  · rintro k
    kernel_rfl
  · rintro k y E h
    unfold out_shh at h
    split at h
    · cases h; kernel_rfl
    · cases h
  · rintro Q hQ k hx
    refine ⟨(k + 1), ?_⟩
    have e : roundX Try.prog [(97, S_low), (98, S_high)] { R := [], H := [] } [] [(.slot 13, 901, 3, 1)] B_shh (inv_shh c T lo hi n a b u v mk k) (inv_shh c T lo hi n a b u v mk ((k + 1))) (out_shh c T lo hi n a b u v mk k) = (Tree.branch (decide ((↑k : Int) < c)) (Tree.need [inI64 ((↑k : Int) + (1 : Int))] (Tree.need [(0 : Int) ≤ (↑k : Int) + (1 : Int) ∧ (↑k : Int) + (1 : Int) ≤ (10 : Int), (-1000000000000 : Int) ≤ siteF (↑(Int.toNat c) : Int) T lo hi (fwM (Int.toNat c) T lo hi n a b u v) (Int.toNat ((↑k : Int) + (1 : Int)) * 11 + 4) ∧ siteF (↑(Int.toNat c) : Int) T lo hi (fwM (Int.toNat c) T lo hi n a b u v) (Int.toNat ((↑k : Int) + (1 : Int)) * 11 + 4) ≤ (1000000000000 : Int)] (Tree.need [(0 : Int) ≤ (↑k : Int) ∧ (↑k : Int) ≤ (10 : Int), (-1000000000000 : Int) ≤ siteF (↑(Int.toNat c) : Int) T lo hi (fwM (Int.toNat c) T lo hi n a b u v) (k * 11 + 4) ∧ siteF (↑(Int.toNat c) : Int) T lo hi (fwM (Int.toNat c) T lo hi n a b u v) (k * 11 + 4) ≤ (1000000000000 : Int)] (Tree.need [inI64 (siteF (↑(Int.toNat c) : Int) T lo hi (fwM (Int.toNat c) T lo hi n a b u v) (Int.toNat ((↑k : Int) + (1 : Int)) + 4) - siteF (↑(Int.toNat c) : Int) T lo hi (fwM (Int.toNat c) T lo hi n a b u v) (k + 4))] (Tree.need [(k + 1) * 8 ≤ 140737488355328, ∀ (i : Nat), i < 1 → ∀ (a_2 : AV), a_2 ∈ chunk 1 [iI (siteF (↑(Int.toNat c) : Int) T lo hi (fwM (Int.toNat c) T lo hi n a b u v) (Int.toNat ((↑k : Int) + (1 : Int)) + 4) - siteF (↑(Int.toNat c) : Int) T lo hi (fwM (Int.toNat c) T lo hi n a b u v) (k + 4))] i → AV.one a_2 = true] (Tree.need [inI64 ((↑k : Int) + (1 : Int))] (Tree.need [AV.agg [iI c, iI T, iI lo, iI hi] = AV.agg [iI c, iI T, iI lo, iI hi], (AV.lst 4 n fun k => [iI (a k), iI (b k), iI (u k), iI (v k)]) = AV.lst 4 n fun k => [iI (a k), iI (b k), iI (u k), iI (v k)], mk = mk, AV.lit true = AV.lit true, AV.ptr 0 0 = AV.ptr 0 0, AV.x (Value.slice none 0 0) = AV.x (Value.slice none 0 0), (0 : Int) = (0 : Int), AV.roI [] 125 (fun k => siteF (↑(Int.toNat c) : Int) T lo hi (fwM (Int.toNat c) T lo hi n a b u v) k) 0 = AV.roI [] 125 (fun k => siteF (↑(Int.toNat c) : Int) T lo hi (fwM (Int.toNat c) T lo hi n a b u v) k) 0, (0 : Int) = (0 : Int), AV.ptr 18 0 = AV.ptr 18 0, AV.row 901 = AV.row 901, c = c, (↑k : Int) + (1 : Int) = (↑(k + 1) : Int), k + 1 = k + 1, ∀ (i : Nat), i < k + 1 → catF k (fun k => [Ytmdeoobmeokmeaa.i (shV c T lo hi n a b u v true k)]) (chunk 1 [iI (siteF (↑(Int.toNat c) : Int) T lo hi (fwM (Int.toNat c) T lo hi n a b u v) (Int.toNat ((↑k : Int) + (1 : Int)) + 4) - siteF (↑(Int.toNat c) : Int) T lo hi (fwM (Int.toNat c) T lo hi n a b u v) (k + 4))]) i = [Ytmdeoobmeokmeaa.i (shV c T lo hi n a b u v true i)], AV.fn (Fn.func 98) [] [] = AV.fn (Fn.func 98) [] [], c = c, T = T, lo = lo, hi = hi] (Tree.leaf AEx.normal)))))))) (Tree.need [AV.agg [iI c, iI T, iI lo, iI hi] = AV.agg [iI c, iI T, iI lo, iI hi], (AV.lst 4 n fun k => [iI (a k), iI (b k), iI (u k), iI (v k)]) = AV.lst 4 n fun k => [iI (a k), iI (b k), iI (u k), iI (v k)], mk = mk, AV.lit true = AV.lit true, AV.ptr 0 0 = AV.ptr 0 0, AV.x (Value.slice none 0 0) = AV.x (Value.slice none 0 0), (0 : Int) = (0 : Int), AV.roI [] 125 (fun k => siteF (↑(Int.toNat c) : Int) T lo hi (fwM (Int.toNat c) T lo hi n a b u v) k) 0 = AV.roI [] 125 (fun k => siteF (↑(Int.toNat c) : Int) T lo hi (fwM (Int.toNat c) T lo hi n a b u v) k) 0, (0 : Int) = (0 : Int), AV.ptr 18 0 = AV.ptr 18 0, AV.row 901 = AV.row 901, c = c, (↑k : Int) = c, k = Int.toNat c, ∀ (i : Nat), i < Int.toNat c → [Ytmdeoobmeokmeaa.i (shV c T lo hi n a b u v true i)] = [Ytmdeoobmeokmeaa.i (shV c T lo hi n a b u v true i)], AV.fn (Fn.func 98) [] [] = AV.fn (Fn.func 98) [] [], c = c, T = T, lo = lo, hi = hi] (Tree.leaf (AEx.exit 0)))) := by kernel_rfl
    rw [e]
    simp only [T_shh, out_shh, Tree.sat, Option.getD_some] at hQ
    have hf := flt_iff.1 pre0
    have hb := tube_bd hf.1
    have eq : ∀ k, siteF c.toNat T lo hi (fwM c.toNat T lo hi n a b u v) k = sfB c T lo hi n a b u v k := fun _ => rfl
    have e1 : ((k : Int) + 1).toNat = k + 1 := by omega
    simp only [Tree.sat, allP, fitP, fitL, valEq, inI64, true_and, and_true, decide_eq_true_eq, decide_eq_false_iff_not, Int.natCast_zero, Int.toNat_natCast, out_shh, eq, e1]
    clear e
    refine ⟨fun h => ?_, fun h => ?_⟩
    · have h2 := fwM_bd pre0 k 0
      have h3 := fwM_bd pre0 0 k
      have h4 := fwM_bd pre0 (k + 1) 0
      have h5 := fwM_bd pre0 0 (k + 1)
      have g2 := sfB_low c T lo hi n a b u v k
      have g3 := sfB_high c T lo hi n a b u v (k := k) (by omega)
      have g4 := sfB_low c T lo hi n a b u v (k + 1)
      have g5 := sfB_high c T lo hi n a b u v (k := k + 1) (by omega)
      simp only [g2, g3, g4, g5]
      (repeat' first | with_reducible apply And.intro | with_reducible intro _)
      all_goals first | exact True.intro | omega | with_reducible rfl | exact one_of (by assumption) (by simp [AV.one, Value.oneCell']) | exact catF1 (by assumption) rfl | rfl
    · obtain rfl : k = c.toNat := by omega
      (repeat' first | with_reducible apply And.intro | with_reducible intro _)
      all_goals first | exact True.intro | omega | with_reducible rfl | (rename_i E hE; cases hE; exact hQ) | rfl

noncomputable def E_shl (c T lo hi : Int) (n : Nat) (a b u v : Nat → Int) (mk : Int) : St := (some { σ := [.agg [i c, i T, i lo, i hi], rds n a b u v, i mk, .lit false, .ptr 0 0, .top, .top, .top, .x (.slice none 0 0), i 0, siteB c T lo hi n a b u v, i 0, .ptr 18 0, .x (.slice none 0 0), .top, .top, .top, .top, .top, .top, .top, .top, .top, .top, .top, .top, .top, .top, .top, .top, .top, .top, i c, .top, .top, .top, .top, .top, .top, .top, .top, .top, .top, .top, .top, .top, .top, .top, .top, .top, .top, .top, .top], m := [(901, .row 3 1 0 (fun _ => [])), (18, .cells 113 [.fn (.func 97) [] []]), (0, .cells 34 [i c, i T, i lo, i hi])], nx := 902 } : Option St).getD { σ := [], m := [], nx := 0 }
noncomputable def B_shl : Code := loopBody (loopAt (bodyOf Try.f41) 0)
noncomputable def inv_shl (c T lo hi : Int) (n : Nat) (a b u v : Nat → Int) (mk : Int) (k : Nat) : St := { σ := ovrS [(13, .row 901), (33, i k)] (E_shl c T lo hi n a b u v mk).σ, m := [(901, .row 3 1 (k) (fun k => [i (shV c T lo hi n a b u v false k)])), (18, .cells 113 [.fn (.func 97) [] []]), (0, .cells 34 [i c, i T, i lo, i hi])], nx := (E_shl c T lo hi n a b u v mk).nx }
noncomputable def out_shl (c T lo hi : Int) (n : Nat) (a b u v : Nat → Int) (mk : Int) (k : Nat) : AEx → Option St := fun ex => match ex with
  | .exit 0 => some { σ := ovrS [(13, .row 901), (33, i c)] (E_shl c T lo hi n a b u v mk).σ, m := [(901, .row 3 1 (c.toNat) (fun k => [i (shV c T lo hi n a b u v false k)])), (18, .cells 113 [.fn (.func 97) [] []]), (0, .cells 34 [i c, i T, i lo, i hi])], nx := (E_shl c T lo hi n a b u v mk).nx }
  | _ => none
noncomputable def T_shl (c T lo hi : Int) (n : Nat) (a b u v : Nat → Int) (mk : Int) : CT := .leaf (.exit 0, ( out_shl c T lo hi n a b u v mk 0 (.exit 0)).getD (E_shl c T lo hi n a b u v mk))
noncomputable def LS_shl (c T lo hi : Int) (n : Nat) (a b u v : Nat → Int) (mk : Int) : LSpec := normSp [(.slot 13, 901, 3, 1)] (sumL (inv_shl c T lo hi n a b u v mk (0)) (T_shl c T lo hi n a b u v mk))
set_option maxRecDepth 100000 in
theorem shl_ls (c T lo hi : Int) (n : Nat) (a b u v : Nat → Int) (mk : Int) (pre0 : flt c T lo hi n a b u v = 0) : LSound Try.prog (.loop B_shl) (LS_shl c T lo hi n a b u v mk) := by
  refine loop_roundsX [(.slot 13, 901, 3, 1)] (E := { R := [], H := [] }) (G := [(97, S_low), (98, S_high)]) (L := []) (SoundG.cons low_ok (SoundG.cons high_ok (SoundG.nil _))) (SoundX.of (SoundRL.nil _) (SoundHL.nil _)) mixed noLoops (X := Nat) (inv_shl c T lo hi n a b u v mk) (fun k => k ≤ c.toNat) (fun k => c.toNat - k) (out_shl c T lo hi n a b u v mk) (x0 := 0) (by simp) ?_ ?_ ?_
  · rintro k
    kernel_rfl
  · rintro k y E h
    unfold out_shl at h
    split at h
    · cases h; kernel_rfl
    · cases h
  · rintro Q hQ k hx
    refine ⟨(k + 1), ?_⟩
    have e : roundX Try.prog [(97, S_low), (98, S_high)] { R := [], H := [] } [] [(.slot 13, 901, 3, 1)] B_shl (inv_shl c T lo hi n a b u v mk k) (inv_shl c T lo hi n a b u v mk ((k + 1))) (out_shl c T lo hi n a b u v mk k) = (Tree.branch (decide ((↑k : Int) < c)) (Tree.need [inI64 ((↑k : Int) + (1 : Int))] (Tree.need [(0 : Int) ≤ (↑k : Int) + (1 : Int) ∧ (↑k : Int) + (1 : Int) ≤ (10 : Int), (-1000000000000 : Int) ≤ siteF (↑(Int.toNat c) : Int) T lo hi (fwM (Int.toNat c) T lo hi n a b u v) (Int.toNat ((↑k : Int) + (1 : Int)) * 11 + 4) ∧ siteF (↑(Int.toNat c) : Int) T lo hi (fwM (Int.toNat c) T lo hi n a b u v) (Int.toNat ((↑k : Int) + (1 : Int)) * 11 + 4) ≤ (1000000000000 : Int)] (Tree.need [(0 : Int) ≤ (↑k : Int) ∧ (↑k : Int) ≤ (10 : Int), (-1000000000000 : Int) ≤ siteF (↑(Int.toNat c) : Int) T lo hi (fwM (Int.toNat c) T lo hi n a b u v) (k * 11 + 4) ∧ siteF (↑(Int.toNat c) : Int) T lo hi (fwM (Int.toNat c) T lo hi n a b u v) (k * 11 + 4) ≤ (1000000000000 : Int)] (Tree.need [inI64 (-siteF (↑(Int.toNat c) : Int) T lo hi (fwM (Int.toNat c) T lo hi n a b u v) (Int.toNat ((↑k : Int) + (1 : Int)) * 11 + 4) - -siteF (↑(Int.toNat c) : Int) T lo hi (fwM (Int.toNat c) T lo hi n a b u v) (k * 11 + 4))] (Tree.need [(k + 1) * 8 ≤ 140737488355328, ∀ (i : Nat), i < 1 → ∀ (a_2 : AV), a_2 ∈ chunk 1 [iI (-siteF (↑(Int.toNat c) : Int) T lo hi (fwM (Int.toNat c) T lo hi n a b u v) (Int.toNat ((↑k : Int) + (1 : Int)) * 11 + 4) - -siteF (↑(Int.toNat c) : Int) T lo hi (fwM (Int.toNat c) T lo hi n a b u v) (k * 11 + 4))] i → AV.one a_2 = true] (Tree.need [inI64 ((↑k : Int) + (1 : Int))] (Tree.need [AV.agg [iI c, iI T, iI lo, iI hi] = AV.agg [iI c, iI T, iI lo, iI hi], (AV.lst 4 n fun k => [iI (a k), iI (b k), iI (u k), iI (v k)]) = AV.lst 4 n fun k => [iI (a k), iI (b k), iI (u k), iI (v k)], mk = mk, AV.lit false = AV.lit false, AV.ptr 0 0 = AV.ptr 0 0, AV.x (Value.slice none 0 0) = AV.x (Value.slice none 0 0), (0 : Int) = (0 : Int), AV.roI [] 125 (fun k => siteF (↑(Int.toNat c) : Int) T lo hi (fwM (Int.toNat c) T lo hi n a b u v) k) 0 = AV.roI [] 125 (fun k => siteF (↑(Int.toNat c) : Int) T lo hi (fwM (Int.toNat c) T lo hi n a b u v) k) 0, (0 : Int) = (0 : Int), AV.ptr 18 0 = AV.ptr 18 0, AV.row 901 = AV.row 901, c = c, (↑k : Int) + (1 : Int) = (↑(k + 1) : Int), k + 1 = k + 1, ∀ (i : Nat), i < k + 1 → catF k (fun k => [Ytmdeoobmeokmeaa.i (shV c T lo hi n a b u v false k)]) (chunk 1 [iI (-siteF (↑(Int.toNat c) : Int) T lo hi (fwM (Int.toNat c) T lo hi n a b u v) (Int.toNat ((↑k : Int) + (1 : Int)) * 11 + 4) - -siteF (↑(Int.toNat c) : Int) T lo hi (fwM (Int.toNat c) T lo hi n a b u v) (k * 11 + 4))]) i = [Ytmdeoobmeokmeaa.i (shV c T lo hi n a b u v false i)], AV.fn (Fn.func 97) [] [] = AV.fn (Fn.func 97) [] [], c = c, T = T, lo = lo, hi = hi] (Tree.leaf AEx.normal)))))))) (Tree.need [AV.agg [iI c, iI T, iI lo, iI hi] = AV.agg [iI c, iI T, iI lo, iI hi], (AV.lst 4 n fun k => [iI (a k), iI (b k), iI (u k), iI (v k)]) = AV.lst 4 n fun k => [iI (a k), iI (b k), iI (u k), iI (v k)], mk = mk, AV.lit false = AV.lit false, AV.ptr 0 0 = AV.ptr 0 0, AV.x (Value.slice none 0 0) = AV.x (Value.slice none 0 0), (0 : Int) = (0 : Int), AV.roI [] 125 (fun k => siteF (↑(Int.toNat c) : Int) T lo hi (fwM (Int.toNat c) T lo hi n a b u v) k) 0 = AV.roI [] 125 (fun k => siteF (↑(Int.toNat c) : Int) T lo hi (fwM (Int.toNat c) T lo hi n a b u v) k) 0, (0 : Int) = (0 : Int), AV.ptr 18 0 = AV.ptr 18 0, AV.row 901 = AV.row 901, c = c, (↑k : Int) = c, k = Int.toNat c, ∀ (i : Nat), i < Int.toNat c → [Ytmdeoobmeokmeaa.i (shV c T lo hi n a b u v false i)] = [Ytmdeoobmeokmeaa.i (shV c T lo hi n a b u v false i)], AV.fn (Fn.func 97) [] [] = AV.fn (Fn.func 97) [] [], c = c, T = T, lo = lo, hi = hi] (Tree.leaf (AEx.exit 0)))) := by kernel_rfl
    rw [e]
    simp only [T_shl, out_shl, Tree.sat, Option.getD_some] at hQ
    have hf := flt_iff.1 pre0
    have hb := tube_bd hf.1
    have eq : ∀ k, siteF c.toNat T lo hi (fwM c.toNat T lo hi n a b u v) k = sfB c T lo hi n a b u v k := fun _ => rfl
    have e1 : ((k : Int) + 1).toNat = k + 1 := by omega
    simp only [Tree.sat, allP, fitP, fitL, valEq, inI64, true_and, and_true, decide_eq_true_eq, decide_eq_false_iff_not, Int.natCast_zero, Int.toNat_natCast, out_shl, eq, e1]
    clear e
    refine ⟨fun h => ?_, fun h => ?_⟩
    · have h2 := fwM_bd pre0 k 0
      have h3 := fwM_bd pre0 0 k
      have h4 := fwM_bd pre0 (k + 1) 0
      have h5 := fwM_bd pre0 0 (k + 1)
      have g2 := sfB_low c T lo hi n a b u v k
      have g3 := sfB_high c T lo hi n a b u v (k := k) (by omega)
      have g4 := sfB_low c T lo hi n a b u v (k + 1)
      have g5 := sfB_high c T lo hi n a b u v (k := k + 1) (by omega)
      simp only [g2, g3, g4, g5]
      (repeat' first | with_reducible apply And.intro | with_reducible intro _)
      all_goals first | exact True.intro | omega | with_reducible rfl | exact one_of (by assumption) (by simp [AV.one, Value.oneCell']) | exact catF1 (by assumption) rfl | rfl
    · obtain rfl : k = c.toNat := by omega
      (repeat' first | with_reducible apply And.intro | with_reducible intro _)
      all_goals first | exact True.intro | omega | with_reducible rfl | (rename_i E hE; cases hE; exact hQ) | rfl

set_option maxRecDepth 100000 in
theorem Shows1h (c T lo hi : Int) (n : Nat) (a b u v : Nat → Int) (mk : Int) (pre0 : fltB c T lo hi n a b u v (bt 0 mk c) = 0) (pre1 : flt c T lo hi n a b u v = 0) : SoundAt Try.prog 41 [.agg [i c, i T, i lo, i hi], rds n a b u v, i mk, .lit true] (.tup [.lst 1 (shL c T lo hi n a b u v mk) (fun k => [i (shV c T lo hi n a b u v true k)]), i (shE c T lo hi n a b u v mk)]) := by
  refine soundAt_finG (G := [(75, S_within), (97, S_low), (98, S_high), (76, S_lowest), (77, S_highest)]) (X := { R := [], H := [], C := [(64, C_tried)] }) (L := [LS_shh c T lo hi n a b u v mk]) (Gd.go true (Gd.go false Gd.rest)) (SoundG.cons within_ok (SoundG.cons low_ok (SoundG.cons high_ok (SoundG.cons lowest_ok (SoundG.cons highest_ok (SoundG.nil _)))))) (SoundX.ofC (SoundRL.nil _) (SoundHL.nil _) (SoundCL.cons tried_okC (SoundCL.nil _))) mixed Try.func41 (show Try.f41.body = some (bodyOf Try.f41) by kernel_rfl) (one_loop (fun cj hcj => by
    have e : loopAt (bodyOf Try.f41) 0 = some (.loop B_shh) := by kernel_rfl
    rw [e] at hcj; cases hcj
    exact (shh_ls c T lo hi n a b u v mk pre1).N)) (t := (Tree.need [isRec 4 n fun k => [i (a k), i (b k), i (u k), i (v k)]] (Tree.need [decide (fltB c T lo hi n a b u v (bt (0 : Int) mk c) = (0 : Int)) = true] (Tree.need [((0 : Int) != (0 : Int)) = false] (Tree.need [AV.agg [iI c, iI T, iI lo, iI hi] = AV.agg [iI c, iI T, iI lo, iI hi], (AV.lst 4 n fun k => [iI (a k), iI (b k), iI (u k), iI (v k)]) = AV.lst 4 n fun k => [iI (a k), iI (b k), iI (u k), iI (v k)], mk = mk, AV.lit true = AV.lit true, AV.ptr 0 0 = AV.ptr 0 0, AV.x (Value.slice none 0 0) = AV.x (Value.slice none 0 0), (0 : Int) = (0 : Int), AV.roI [] 125 (fun k => siteF (↑(Int.toNat c) : Int) T lo hi (fwM (Int.toNat c) T lo hi n a b u v) k) 0 = AV.roI [] 125 (fun k => siteF (↑(Int.toNat c) : Int) T lo hi (fwM (Int.toNat c) T lo hi n a b u v) k) 0, (0 : Int) = (0 : Int), AV.ptr 18 0 = AV.ptr 18 0, AV.row 901 = AV.row 901, c = c, (0 : Int) = (↑(0 : Nat) : Int), 0 = 0, ∀ (i : Nat), i < 0 → [] = [Ytmdeoobmeokmeaa.i (shV c T lo hi n a b u v true i)], AV.fn (Fn.func 98) [] [] = AV.fn (Fn.func 98) [] [], c = c, T = T, lo = lo, hi = hi] (Tree.leaf (RV.tup [RV.lst 1 (Int.toNat c) fun k => [iI (shV c T lo hi n a b u v true k)], RV.x (Value.int IntKind.i64 (0 : Int))]))))))) (by kernel_rfl) ?_
  have he : shE c T lo hi n a b u v mk = 0 := pre0
  have hc := (tube_bd (flt_iff.1 pre1).1).1
  have hl : shL c T lo hi n a b u v mk = c.toNat := if_pos he
  rw [hl, he]
  
  simp only [Tree.sat, allP, fitP, fitL, valEq, inI64, true_and, and_true]
  (repeat' first | with_reducible apply And.intro | with_reducible intro _)
  all_goals first | exact True.intro | with_reducible rfl | assumption | omega | exact isRec4 _ _ _ _ _ | rfl | (simp [*]; done) | (rename_i hm; cases List.mem_singleton.1 hm; exact True.intro)

set_option maxRecDepth 100000 in
theorem Shows0h (c T lo hi : Int) (n : Nat) (a b u v : Nat → Int) (mk : Int) (pre0 : fltB c T lo hi n a b u v (bt 0 mk c) ≠ 0) : SoundAt Try.prog 41 [.agg [i c, i T, i lo, i hi], rds n a b u v, i mk, .lit true] (.tup [.lst 1 (shL c T lo hi n a b u v mk) (fun k => [i (shV c T lo hi n a b u v true k)]), i (shE c T lo hi n a b u v mk)]) := by
  refine soundAt_finG (G := [(75, S_within), (97, S_low), (98, S_high), (76, S_lowest), (77, S_highest)]) (X := { R := [], H := [], C := [(64, C_tried)] }) (L := []) (Gd.go false (Gd.go true Gd.rest)) (SoundG.cons within_ok (SoundG.cons low_ok (SoundG.cons high_ok (SoundG.cons lowest_ok (SoundG.cons highest_ok (SoundG.nil _)))))) (SoundX.ofC (SoundRL.nil _) (SoundHL.nil _) (SoundCL.cons tried_okC (SoundCL.nil _))) mixed Try.func41 (show Try.f41.body = some (bodyOf Try.f41) by kernel_rfl) noLoopsS (t := (Tree.need [isRec 4 n fun k => [i (a k), i (b k), i (u k), i (v k)]] (Tree.need [decide (fltB c T lo hi n a b u v (bt (0 : Int) mk c) = (0 : Int)) = false] (Tree.need [(fltB c T lo hi n a b u v (bt (0 : Int) mk c) != (0 : Int)) = true] (Tree.leaf (RV.tup [RV.x (Value.slice none 0 0), RV.x (Value.int IntKind.i64 (fltB c T lo hi n a b u v (bt (0 : Int) mk c)))])))))) (by kernel_rfl) ?_
  have he : shE c T lo hi n a b u v mk = fltB c T lo hi n a b u v (bt 0 mk c) := rfl
  have hl : shL c T lo hi n a b u v mk = 0 := if_neg pre0
  rw [hl, he]
  
  simp only [Tree.sat, allP, fitP, fitL, valEq, inI64, true_and, and_true]
  (repeat' first | with_reducible apply And.intro | with_reducible intro _)
  all_goals first | exact True.intro | with_reducible rfl | assumption | omega | exact isRec4 _ _ _ _ _ | rfl | (simp [*]; done) | (rename_i hm; cases List.mem_singleton.1 hm; exact True.intro)


theorem Shows_ath (c T lo hi : Int) (n : Nat) (a b u v : Nat → Int) (mk : Int) : SoundAt Try.prog 41 [.agg [i c, i T, i lo, i hi], rds n a b u v, i mk, .lit true] (.tup [.lst 1 (shL c T lo hi n a b u v mk) (fun k => [i (shV c T lo hi n a b u v true k)]), i (shE c T lo hi n a b u v mk)]) := by
  by_cases h : fltB c T lo hi n a b u v (bt 0 mk c) = 0
  · exact Shows1h c T lo hi n a b u v mk h (fltB_iff.1 h).1
  · exact Shows0h c T lo hi n a b u v mk h

set_option maxRecDepth 100000 in
theorem Shows1l (c T lo hi : Int) (n : Nat) (a b u v : Nat → Int) (mk : Int) (pre0 : fltB c T lo hi n a b u v (bt 0 mk c) = 0) (pre1 : flt c T lo hi n a b u v = 0) : SoundAt Try.prog 41 [.agg [i c, i T, i lo, i hi], rds n a b u v, i mk, .lit false] (.tup [.lst 1 (shL c T lo hi n a b u v mk) (fun k => [i (shV c T lo hi n a b u v false k)]), i (shE c T lo hi n a b u v mk)]) := by
  refine soundAt_finG (G := [(75, S_within), (97, S_low), (98, S_high), (76, S_lowest), (77, S_highest)]) (X := { R := [], H := [], C := [(64, C_tried)] }) (L := [LS_shl c T lo hi n a b u v mk]) (Gd.go true (Gd.go false Gd.rest)) (SoundG.cons within_ok (SoundG.cons low_ok (SoundG.cons high_ok (SoundG.cons lowest_ok (SoundG.cons highest_ok (SoundG.nil _)))))) (SoundX.ofC (SoundRL.nil _) (SoundHL.nil _) (SoundCL.cons tried_okC (SoundCL.nil _))) mixed Try.func41 (show Try.f41.body = some (bodyOf Try.f41) by kernel_rfl) (one_loop (fun cj hcj => by
    have e : loopAt (bodyOf Try.f41) 0 = some (.loop B_shl) := by kernel_rfl
    rw [e] at hcj; cases hcj
    exact (shl_ls c T lo hi n a b u v mk pre1).N)) (t := (Tree.need [isRec 4 n fun k => [i (a k), i (b k), i (u k), i (v k)]] (Tree.need [decide (fltB c T lo hi n a b u v (bt (0 : Int) mk c) = (0 : Int)) = true] (Tree.need [((0 : Int) != (0 : Int)) = false] (Tree.need [AV.agg [iI c, iI T, iI lo, iI hi] = AV.agg [iI c, iI T, iI lo, iI hi], (AV.lst 4 n fun k => [iI (a k), iI (b k), iI (u k), iI (v k)]) = AV.lst 4 n fun k => [iI (a k), iI (b k), iI (u k), iI (v k)], mk = mk, AV.lit false = AV.lit false, AV.ptr 0 0 = AV.ptr 0 0, AV.x (Value.slice none 0 0) = AV.x (Value.slice none 0 0), (0 : Int) = (0 : Int), AV.roI [] 125 (fun k => siteF (↑(Int.toNat c) : Int) T lo hi (fwM (Int.toNat c) T lo hi n a b u v) k) 0 = AV.roI [] 125 (fun k => siteF (↑(Int.toNat c) : Int) T lo hi (fwM (Int.toNat c) T lo hi n a b u v) k) 0, (0 : Int) = (0 : Int), AV.ptr 18 0 = AV.ptr 18 0, AV.row 901 = AV.row 901, c = c, (0 : Int) = (↑(0 : Nat) : Int), 0 = 0, ∀ (i : Nat), i < 0 → [] = [Ytmdeoobmeokmeaa.i (shV c T lo hi n a b u v false i)], AV.fn (Fn.func 97) [] [] = AV.fn (Fn.func 97) [] [], c = c, T = T, lo = lo, hi = hi] (Tree.leaf (RV.tup [RV.lst 1 (Int.toNat c) fun k => [iI (shV c T lo hi n a b u v false k)], RV.x (Value.int IntKind.i64 (0 : Int))]))))))) (by kernel_rfl) ?_
  have he : shE c T lo hi n a b u v mk = 0 := pre0
  have hc := (tube_bd (flt_iff.1 pre1).1).1
  have hl : shL c T lo hi n a b u v mk = c.toNat := if_pos he
  rw [hl, he]
  
  simp only [Tree.sat, allP, fitP, fitL, valEq, inI64, true_and, and_true]
  (repeat' first | with_reducible apply And.intro | with_reducible intro _)
  all_goals first | exact True.intro | with_reducible rfl | assumption | omega | exact isRec4 _ _ _ _ _ | rfl | (simp [*]; done) | (rename_i hm; cases List.mem_singleton.1 hm; exact True.intro)

set_option maxRecDepth 100000 in
theorem Shows0l (c T lo hi : Int) (n : Nat) (a b u v : Nat → Int) (mk : Int) (pre0 : fltB c T lo hi n a b u v (bt 0 mk c) ≠ 0) : SoundAt Try.prog 41 [.agg [i c, i T, i lo, i hi], rds n a b u v, i mk, .lit false] (.tup [.lst 1 (shL c T lo hi n a b u v mk) (fun k => [i (shV c T lo hi n a b u v false k)]), i (shE c T lo hi n a b u v mk)]) := by
  refine soundAt_finG (G := [(75, S_within), (97, S_low), (98, S_high), (76, S_lowest), (77, S_highest)]) (X := { R := [], H := [], C := [(64, C_tried)] }) (L := []) (Gd.go false (Gd.go true Gd.rest)) (SoundG.cons within_ok (SoundG.cons low_ok (SoundG.cons high_ok (SoundG.cons lowest_ok (SoundG.cons highest_ok (SoundG.nil _)))))) (SoundX.ofC (SoundRL.nil _) (SoundHL.nil _) (SoundCL.cons tried_okC (SoundCL.nil _))) mixed Try.func41 (show Try.f41.body = some (bodyOf Try.f41) by kernel_rfl) noLoopsS (t := (Tree.need [isRec 4 n fun k => [i (a k), i (b k), i (u k), i (v k)]] (Tree.need [decide (fltB c T lo hi n a b u v (bt (0 : Int) mk c) = (0 : Int)) = false] (Tree.need [(fltB c T lo hi n a b u v (bt (0 : Int) mk c) != (0 : Int)) = true] (Tree.leaf (RV.tup [RV.x (Value.slice none 0 0), RV.x (Value.int IntKind.i64 (fltB c T lo hi n a b u v (bt (0 : Int) mk c)))])))))) (by kernel_rfl) ?_
  have he : shE c T lo hi n a b u v mk = fltB c T lo hi n a b u v (bt 0 mk c) := rfl
  have hl : shL c T lo hi n a b u v mk = 0 := if_neg pre0
  rw [hl, he]
  
  simp only [Tree.sat, allP, fitP, fitL, valEq, inI64, true_and, and_true]
  (repeat' first | with_reducible apply And.intro | with_reducible intro _)
  all_goals first | exact True.intro | with_reducible rfl | assumption | omega | exact isRec4 _ _ _ _ _ | rfl | (simp [*]; done) | (rename_i hm; cases List.mem_singleton.1 hm; exact True.intro)


theorem Shows_atl (c T lo hi : Int) (n : Nat) (a b u v : Nat → Int) (mk : Int) : SoundAt Try.prog 41 [.agg [i c, i T, i lo, i hi], rds n a b u v, i mk, .lit false] (.tup [.lst 1 (shL c T lo hi n a b u v mk) (fun k => [i (shV c T lo hi n a b u v false k)]), i (shE c T lo hi n a b u v mk)]) := by
  by_cases h : fltB c T lo hi n a b u v (bt 0 mk c) = 0
  · exact Shows1l c T lo hi n a b u v mk h (fltB_iff.1 h).1
  · exact Shows0l c T lo hi n a b u v mk h


theorem RepL.lit1 {e : Env} {w : World} {r : Bool} : ∀ {l : List AV} {vs : List Value}, RepL e w (l ++ [.x (.bool r)]) vs → RepL e w (l ++ [.lit r]) vs
  | [], vs, h => by
    obtain ⟨v, vs', rfl, hv, hvs⟩ := h.cons_inv
    cases hv
    exact RepL.cons (.lit _) hvs
  | a :: l, vs, h => by
    obtain ⟨v, vs', rfl, hv, hvs⟩ := h.cons_inv
    exact RepL.cons hv (RepL.lit1 hvs)
theorem SoundAt.lit1 {P : Program} {f : FuncId} {l : List AV} {r : Bool} {res : AV} (h : SoundAt P f (l ++ [.lit r]) res) : SoundAt P f (l ++ [.x (.bool r)]) res := h.args (fun _ _ _ r => RepL.lit1 r) (fun hi a ha => by
  rcases List.mem_append.1 ha with h1 | h1
  · exact hi a (List.mem_append_left _ h1)
  · cases List.mem_singleton.1 h1
    exact .lit _)
theorem Shows_at (c T lo hi : Int) (n : Nat) (a b u v : Nat → Int) (mk : Int) (r : Bool) : SoundAt Try.prog 41 [.agg [i c, i T, i lo, i hi], rds n a b u v, i mk, bl r] (.tup [.lst 1 (shL c T lo hi n a b u v mk) (fun k => [i (shV c T lo hi n a b u v r k)]), i (shE c T lo hi n a b u v mk)]) := by
  cases r with
  | true => exact SoundAt.lit1 (l := [.agg [i c, i T, i lo, i hi], rds n a b u v, i mk]) (Shows_ath c T lo hi n a b u v mk)
  | false => exact SoundAt.lit1 (l := [.agg [i c, i T, i lo, i hi], rds n a b u v, i mk]) (Shows_atl c T lo hi n a b u v mk)

def S_Shows : Sx.Spec := fun l => match l with
  | [.agg [.x (.int .i64 c), .x (.int .i64 T), .x (.int .i64 lo), .x (.int .i64 hi)], .lst 4 n f, .x (.int .i64 mk), .x (.bool r)] => some ([isRec 4 n f], .tup [.lst 1 (shL c T lo hi n (col 0 f) (col 1 f) (col 2 f) (col 3 f) mk) (fun k => [i (shV c T lo hi n (col 0 f) (col 1 f) (col 2 f) (col 3 f) r k)]), i (shE c T lo hi n (col 0 f) (col 1 f) (col 2 f) (col 3 f) mk)])
  | [.agg [.x (.int .i64 c), .x (.int .i64 T), .x (.int .i64 lo), .x (.int .i64 hi)], .lst 4 n f, .x (.int .i64 mk), .lit true] => some ([isRec 4 n f], .tup [.lst 1 (shL c T lo hi n (col 0 f) (col 1 f) (col 2 f) (col 3 f) mk) (fun k => [i (shV c T lo hi n (col 0 f) (col 1 f) (col 2 f) (col 3 f) true k)]), i (shE c T lo hi n (col 0 f) (col 1 f) (col 2 f) (col 3 f) mk)])
  | [.agg [.x (.int .i64 c), .x (.int .i64 T), .x (.int .i64 lo), .x (.int .i64 hi)], .lst 4 n f, .x (.int .i64 mk), .lit false] => some ([isRec 4 n f], .tup [.lst 1 (shL c T lo hi n (col 0 f) (col 1 f) (col 2 f) (col 3 f) mk) (fun k => [i (shV c T lo hi n (col 0 f) (col 1 f) (col 2 f) (col 3 f) false k)]), i (shE c T lo hi n (col 0 f) (col 1 f) (col 2 f) (col 3 f) mk)])
  | _ => none

theorem Shows_ok : SoundSpec Try.prog 41 S_Shows := by
  refine ⟨⟨_, Try.func41, by kernel_rfl, by kernel_rfl⟩, ?_⟩
  intro avs ns res h hn
  unfold S_Shows at h
  split at h
  · rename_i c T lo hi n f mk r
    cases h
    have hr0 : isRec 4 n f := hn _ (by simp)
    exact (Shows_at c T lo hi n (col 0 f) (col 1 f) (col 2 f) (col 3 f) mk r).same (.cons (.refl _) (.cons (.lst 4 n _ _ hr0) (.cons (.refl _) (.cons (.refl _) .nil))))
  · rename_i c T lo hi n f mk
    cases h
    have hr0 : isRec 4 n f := hn _ (by simp)
    exact (Shows_ath c T lo hi n (col 0 f) (col 1 f) (col 2 f) (col 3 f) mk).same (.cons (.refl _) (.cons (.lst 4 n _ _ hr0) (.cons (.refl _) (.cons (.refl _) .nil))))
  · rename_i c T lo hi n f mk
    cases h
    have hr0 : isRec 4 n f := hn _ (by simp)
    exact (Shows_atl c T lo hi n (col 0 f) (col 1 f) (col 2 f) (col 3 f) mk).same (.cons (.refl _) (.cons (.lst 4 n _ _ hr0) (.cons (.refl _) (.cons (.refl _) .nil))))
  · cases h

end Go.Proofs.Ytmdeoobmeokmeaa
/- Contracts of functions of the program, by the engine Sx: what each call comes to. Printed by a program of this repo (sxgen.py). -/
set_option linter.unusedSimpArgs false
set_option linter.unusedVariables false
namespace Go.Proofs.Ytmdeoobmeokmeaa
open Go Go.Sx Go.RowKit

/-- Words. -/
abbrev wds (n : Nat) (w : Nat → Int) : AV := .lst 1 n (fun k => [.x (.int .u16 (w k))])
def wAt (l : List AV) : Int := match l with
  | [.x (.int _ n)] => n
  | _ => 0
def isW (n : Nat) (f : Nat → List AV) : Prop := ∀ k, k < n → f k = [.x (.int .u16 (wAt (f k)))]
def wOk (n : Nat) (w : Nat → Int) : Prop := ∀ k, k < n → 0 ≤ w k ∧ w k ≤ 65535
def wdF (n : Nat) (w : Nat → Int) (k : Nat) : Int := if n = 0 then 0 else w (k % n)
/-- A cell's volume, which leaves room for so many more; what is left. -/
def volF (lo hi r left x : Int) : Int := max lo (left - r * hi) + x.tmod (min hi (left - r * lo) - max lo (left - r * hi) + 1)
def trL (c T lo hi : Int) (n : Nat) (w : Nat → Int) : Nat → Int
  | 0 => T
  | k + 1 => trL c T lo hi n w k - volF lo hi (c - 1 - k) (trL c T lo hi n w k) (wdF n w k)
def trV (c T lo hi : Int) (n : Nat) (w : Nat → Int) (k : Nat) : Int := volF lo hi (c - 1 - k) (trL c T lo hi n w k) (wdF n w k)
/-- What is read of volumes, by a word. -/
def seA (c : Int) (w : Int) : Int := w.tmod c
def seT (c T : Int) (f : Nat → Int) (w : Int) : Int := (((w.tdiv 16).tmod 256) * (T - sumF f (seA c w).toNat + 5)).tdiv 256
def seI (c T : Int) (f : Nat → Int) (w : Int) : Nat := fstI (fun j => !decide (sumF f ((seA c w).toNat + j + 1) - sumF f (seA c w).toNat ≤ seT c T f w)) (c - seA c w).toNat
def seB (c T : Int) (f : Nat → Int) (w : Int) : Int := seA c w + seI c T f w
def seU (c T : Int) (f : Nat → Int) (w : Int) : Int := max 0 (seT c T f w - (w.tdiv 4096).tmod 4)
def seV (c T : Int) (f : Nat → Int) (w : Int) : Int := min 2000 (seT c T f w + (w.tdiv 8192).tmod 3)

set_option maxRecDepth 100000 in
theorem word_at (n : Nat) (w : Nat → Int) (k : Nat) (pre0 : n ≤ 10000000000000000000) (pre1 : k ≤ 1000) (pre2 : wOk n w) : SoundAt Try.prog 39 [wds n w, i k] (i (wdF n w k)) := by
  refine soundAt_fin (G := []) (L := []) (SoundG.nil _) mixed Try.func39 (show Try.f39.body = some (bodyOf Try.f39) by kernel_rfl) noLoops (t := (Tree.branch ((↑n : Int) == (0 : Int)) (Tree.leaf (RV.x (Value.int IntKind.i64 (0 : Int)))) (Tree.need [(↑n : Int) ≠ (0 : Int)] (Tree.need [(0 : Int) ≤ Int.tmod (↑k : Int) (↑n : Int) ∧ Int.tmod (↑k : Int) (↑n : Int) < (↑n : Int)] (Tree.need [inI64 (w (Int.toNat (Int.tmod (↑k : Int) (↑n : Int))))] (Tree.leaf (RV.x (Value.int IntKind.i64 (w (Int.toNat (Int.tmod (↑k : Int) (↑n : Int)))))))))))) (by kernel_rfl) ?_
  have e : ((k : Int).tmod (n : Int)) = ((k % n : Nat) : Int) := (Int.ofNat_tmod k n).symm
  simp only [Tree.sat, allP, fitP, fitL, valEq, inI64, true_and, and_true, beq_iff_eq, beq_eq_false_iff_ne, ne_eq, e, Int.toNat_natCast, wdF]
  refine ⟨fun h => ?_, fun h => ⟨h, ?_⟩⟩
  · rw [if_pos (by omega)]
  · have hn : 0 < n := by omega
    have h1 := Nat.mod_lt k hn
    have h2 := pre2 (k % n) h1
    rw [if_neg (by omega)]
    exact ⟨by omega, by omega, rfl⟩


theorem isWn (n : Nat) (w : Nat → Int) : isW n (fun k => [.x (.int .u16 (w k))]) := fun _ _ => rfl
theorem wc (w : Nat → Int) : (fun k => wAt [AV.x (.int .u16 (w k))]) = w := rfl


def S_word : Sx.Spec := fun l => match l with
  | [.lst 1 n f, .x (.int .i64 k)] => some ([isW n f, n ≤ 10000000000000000000, 0 ≤ k ∧ k ≤ 1000, wOk n (fun j => wAt (f j))], i (wdF n (fun j => wAt (f j)) k.toNat))
  | _ => none


theorem word_ok : SoundSpec Try.prog 39 S_word := by
  refine ⟨⟨_, Try.func39, by kernel_rfl, by kernel_rfl⟩, ?_⟩
  intro avs ns res h hn
  unfold S_word at h
  split at h
  · rename_i n f k
    cases h
    have hr : isW n f := hn _ (by simp)
    have hk : 0 ≤ k ∧ k ≤ 1000 := hn _ (by simp)
    have e : ((k.toNat : Nat) : Int) = k := by omega
    have h0 := word_at n (fun j => wAt (f j)) k.toNat (hn _ (by simp)) (by omega) (hn _ (by simp))
    rw [e] at h0
    exact h0.same (.cons (.lst 1 n _ _ hr) (.cons (.refl _) .nil))
  · cases h
theorem tmod_bd {x d : Int} (hx : 0 ≤ x) (hd : 0 < d) : 0 ≤ x.tmod d ∧ x.tmod d < d := ⟨Int.tmod_nonneg _ hx, Int.tmod_lt_of_pos _ hd⟩
theorem tdiv_bd {x d : Int} (hx : 0 ≤ x) (hd : 0 < d) : 0 ≤ x.tdiv d ∧ x.tdiv d ≤ x := by
  refine ⟨Int.tdiv_nonneg hx (by omega), ?_⟩
  rw [Int.tdiv_eq_ediv_of_nonneg hx]
  exact Int.ediv_le_self _ hx
theorem wd_bd {n : Nat} {w : Nat → Int} (h : wOk n w) (k : Nat) : 0 ≤ wdF n w k ∧ wdF n w k ≤ 65535 := by
  unfold wdF
  split
  · omega
  · exact h _ (Nat.mod_lt k (by omega))
theorem vol_bd {lo hi r left x : Int} (hl : 1 ≤ lo ∧ lo ≤ hi) (hr : 0 ≤ r) (h : (r + 1) * lo ≤ left ∧ left ≤ (r + 1) * hi) (hx : 0 ≤ x) : lo ≤ volF lo hi r left x ∧ volF lo hi r left x ≤ hi ∧ r * lo ≤ left - volF lo hi r left x ∧ left - volF lo hi r left x ≤ r * hi ∧ 1 ≤ min hi (left - r * lo) - max lo (left - r * hi) + 1 := by
  rw [Int.add_mul, Int.add_mul, Int.one_mul, Int.one_mul] at h
  have hm : r * lo ≤ r * hi := Int.mul_le_mul_of_nonneg_left hl.2 hr
  have hd : 0 < min hi (left - r * lo) - max lo (left - r * hi) + 1 := by omega
  have ht := tmod_bd hx hd
  unfold volF
  omega
theorem trL_bd {c T lo hi : Int} {n : Nat} {w : Nat → Int} (hl : 1 ≤ lo ∧ lo ≤ hi) (ht : c * lo ≤ T ∧ T ≤ c * hi) (hw : wOk n w) : ∀ k : Nat, (k : Int) ≤ c → (c - k) * lo ≤ trL c T lo hi n w k ∧ trL c T lo hi n w k ≤ (c - k) * hi
  | 0, _ => by
    have e : c - ((0 : Nat) : Int) = c := by omega
    rw [e]
    exact ht
  | k + 1, hk => by
    have ih := trL_bd (n := n) hl ht hw k (by omega)
    have hwd := wd_bd hw k
    have hv := vol_bd (r := c - 1 - k) (left := trL c T lo hi n w k) (x := wdF n w k) hl (by omega) (by rw [show c - 1 - (k : Int) + 1 = c - k by omega]; exact ih) hwd.1
    have e : c - ((k + 1 : Nat) : Int) = c - 1 - k := by omega
    rw [e]
    unfold trL
    omega
theorem trV_bd {c T lo hi : Int} {n : Nat} {w : Nat → Int} (hl : 1 ≤ lo ∧ lo ≤ hi) (ht : c * lo ≤ T ∧ T ≤ c * hi) (hw : wOk n w) (k : Nat) (hk : (k : Int) < c) : lo ≤ trV c T lo hi n w k ∧ trV c T lo hi n w k ≤ hi ∧ 1 ≤ min hi (trL c T lo hi n w k - (c - 1 - k) * lo) - max lo (trL c T lo hi n w k - (c - 1 - k) * hi) + 1 := by
  have ih := trL_bd (n := n) hl ht hw k (by omega)
  have hv := vol_bd (r := c - 1 - k) (left := trL c T lo hi n w k) (x := wdF n w k) hl (by omega) (by rw [show c - 1 - (k : Int) + 1 = c - k by omega]; exact ih) (wd_bd hw k).1
  exact ⟨hv.1, hv.2.1, hv.2.2.2.2⟩

noncomputable def E_tr (c T lo hi : Int) (n : Nat) (w : Nat → Int) : St := (some
  {
    σ :=
      [AV.agg
          [AV.x (Value.int IntKind.i64 c), AV.x (Value.int IntKind.i64 T), AV.x (Value.int IntKind.i64 lo),
            AV.x (Value.int IntKind.i64 hi)],
        AV.lst (1 : Nat) n fun k => [AV.x (Value.int IntKind.u16 (w k))], AV.ptr (0 : Nat) (0 : Nat), AV.top,
        AV.x (Value.slice none (0 : Nat) (0 : Nat)), AV.top, AV.top, AV.top, AV.top, AV.top, AV.top, AV.top, AV.top,
        AV.top, AV.top, AV.top, AV.top, AV.top, AV.top, AV.top, AV.top, AV.top, AV.top, AV.top, AV.top, AV.top, AV.top,
        AV.top, AV.top, AV.top, AV.top, AV.top, AV.top, AV.top, AV.top, AV.top, AV.top, AV.top, AV.top, AV.top, AV.top,
        AV.top, AV.top, AV.top, AV.top, AV.top, AV.top, AV.top, AV.top, AV.top, AV.top, AV.top, AV.top, AV.top, AV.top,
        AV.top, AV.top, AV.top, AV.top, AV.top, AV.top, AV.top, AV.top, AV.top, AV.top],
    m :=
      [((900 : Nat), Res.row (3 : Nat) (1 : Nat) (0 : Nat) fun x => []),
        ((0 : Nat),
          Res.cells (25 : Nat)
            [AV.x (Value.int IntKind.i64 c), AV.x (Value.int IntKind.i64 T), AV.x (Value.int IntKind.i64 lo),
              AV.x (Value.int IntKind.i64 hi)])],
    nx := (901 : Nat) } : Option St).getD { σ := [], m := [], nx := 0 }
noncomputable def B_tr : Code := loopBody (loopAt (bodyOf Try.f34) 0)
noncomputable def inv_tr (c T lo hi : Int) (n : Nat) (w : Nat → Int) (k : Nat) : St := { σ := ovrS [(5, .row 900), (6, i (trL c T lo hi n w k)), (7, i k)] (E_tr c T lo hi n w).σ, m := [(900, .row 3 1 (k) (fun k => [i (trV c T lo hi n w k)])), (0, .cells 25 [i c, i T, i lo, i hi])], nx := (E_tr c T lo hi n w).nx }
noncomputable def out_tr (c T lo hi : Int) (n : Nat) (w : Nat → Int) (k : Nat) : AEx → Option St := fun ex => match ex with
  | .exit 0 => some { σ := ovrS [(5, .row 900)] (E_tr c T lo hi n w).σ, m := [(900, .row 3 1 (c.toNat) (fun k => [i (trV c T lo hi n w k)])), (0, .cells 25 [i c, i T, i lo, i hi])], nx := (E_tr c T lo hi n w).nx }
  | _ => none
noncomputable def T_tr (c T lo hi : Int) (n : Nat) (w : Nat → Int) : CT := .leaf (.exit 0, ( out_tr c T lo hi n w 0 (.exit 0)).getD (E_tr c T lo hi n w))
noncomputable def LS_tr (c T lo hi : Int) (n : Nat) (w : Nat → Int) : LSpec := normSp [(.slot 5, 900, 3, 1)] (sumL (inv_tr c T lo hi n w (0)) (T_tr c T lo hi n w))
set_option maxRecDepth 100000 in
theorem tr_ls (c T lo hi : Int) (n : Nat) (w : Nat → Int) (pre0 : tubeB c T lo hi = true) (pre1 : n ≤ 10000000000000000000) (pre2 : wOk n w) : LSound Try.prog (.loop B_tr) (LS_tr c T lo hi n w) := by
  refine loop_roundsN [(.slot 5, 900, 3, 1)] (G := [(39, S_word)]) (L := []) (SoundG.cons word_ok (SoundG.nil _)) mixed noLoops (X := Nat) (inv_tr c T lo hi n w) (fun k => k ≤ c.toNat) (fun k => c.toNat - k) (out_tr c T lo hi n w) (x0 := 0) (by simp) ?_ ?_ ?_
  · rintro k
    kernel_rfl
  · rintro k y E h
    unfold out_tr at h
    split at h
    · cases h; kernel_rfl
    · cases h
  · rintro Q hQ k hx
    refine ⟨(k + 1), ?_⟩
    have e : roundN Try.prog [(39, S_word)] [] [(.slot 5, 900, 3, 1)] B_tr (inv_tr c T lo hi n w k) (inv_tr c T lo hi n w ((k + 1))) (out_tr c T lo hi n w k) = (Tree.branch (decide ((↑k : Int) < c)) (Tree.need [inI64 (c - (1 : Int))] (Tree.need [inI64 (c - (1 : Int) - (↑k : Int))] (Tree.need [inI64 ((c - (1 : Int) - (↑k : Int)) * hi)] (Tree.need [inI64 (trL c T lo hi n w k - (c - (1 : Int) - (↑k : Int)) * hi)] (Tree.need [inI64 ((c - (1 : Int) - (↑k : Int)) * lo)] (Tree.need [inI64 (trL c T lo hi n w k - (c - (1 : Int) - (↑k : Int)) * lo)] (Tree.need [isW n fun k => [AV.x (Value.int IntKind.u16 (w k))], n ≤ 10000000000000000000, (0 : Int) ≤ (↑k : Int) ∧ (↑k : Int) ≤ (1000 : Int), wOk n fun j => wAt [AV.x (Value.int IntKind.u16 (w j))]] (Tree.need [inI64 (min hi (trL c T lo hi n w k - (c - (1 : Int) - (↑k : Int)) * lo) - max lo (trL c T lo hi n w k - (c - (1 : Int) - (↑k : Int)) * hi))] (Tree.need [inI64 (min hi (trL c T lo hi n w k - (c - (1 : Int) - (↑k : Int)) * lo) - max lo (trL c T lo hi n w k - (c - (1 : Int) - (↑k : Int)) * hi) + (1 : Int))] (Tree.need [min hi (trL c T lo hi n w k - (c - (1 : Int) - (↑k : Int)) * lo) - max lo (trL c T lo hi n w k - (c - (1 : Int) - (↑k : Int)) * hi) + (1 : Int) ≠ (0 : Int)] (Tree.need [inI64 (max lo (trL c T lo hi n w k - (c - (1 : Int) - (↑k : Int)) * hi) + Int.tmod (wdF n (fun j => wAt [AV.x (Value.int IntKind.u16 (w j))]) k) (min hi (trL c T lo hi n w k - (c - (1 : Int) - (↑k : Int)) * lo) - max lo (trL c T lo hi n w k - (c - (1 : Int) - (↑k : Int)) * hi) + (1 : Int)))] (Tree.need [(k + 1) * 8 ≤ 140737488355328, ∀ (i : Nat), i < 1 → ∀ (a : AV), a ∈ chunk 1 [iI (max lo (trL c T lo hi n w k - (c - (1 : Int) - (↑k : Int)) * hi) + Int.tmod (wdF n (fun j => wAt [AV.x (Value.int IntKind.u16 (w j))]) k) (min hi (trL c T lo hi n w k - (c - (1 : Int) - (↑k : Int)) * lo) - max lo (trL c T lo hi n w k - (c - (1 : Int) - (↑k : Int)) * hi) + (1 : Int)))] i → AV.one a = true] (Tree.need [inI64 (trL c T lo hi n w k - (max lo (trL c T lo hi n w k - (c - (1 : Int) - (↑k : Int)) * hi) + Int.tmod (wdF n (fun j => wAt [AV.x (Value.int IntKind.u16 (w j))]) k) (min hi (trL c T lo hi n w k - (c - (1 : Int) - (↑k : Int)) * lo) - max lo (trL c T lo hi n w k - (c - (1 : Int) - (↑k : Int)) * hi) + (1 : Int))))] (Tree.need [inI64 ((↑k : Int) + (1 : Int))] (Tree.need [AV.agg [iI c, iI T, iI lo, iI hi] = AV.agg [iI c, iI T, iI lo, iI hi], (AV.lst 1 n fun k => [AV.x (Value.int IntKind.u16 (w k))]) = AV.lst 1 n fun k => [AV.x (Value.int IntKind.u16 (w k))], AV.ptr 0 0 = AV.ptr 0 0, AV.x (Value.slice none 0 0) = AV.x (Value.slice none 0 0), AV.row 900 = AV.row 900, trL c T lo hi n w k - (max lo (trL c T lo hi n w k - (c - (1 : Int) - (↑k : Int)) * hi) + Int.tmod (wdF n (fun j => wAt [AV.x (Value.int IntKind.u16 (w j))]) k) (min hi (trL c T lo hi n w k - (c - (1 : Int) - (↑k : Int)) * lo) - max lo (trL c T lo hi n w k - (c - (1 : Int) - (↑k : Int)) * hi) + (1 : Int))) = trL c T lo hi n w (k + 1), (↑k : Int) + (1 : Int) = (↑(k + 1) : Int), k + 1 = k + 1, ∀ (i : Nat), i < k + 1 → catF k (fun k => [Ytmdeoobmeokmeaa.i (trV c T lo hi n w k)]) (chunk 1 [iI (max lo (trL c T lo hi n w k - (c - (1 : Int) - (↑k : Int)) * hi) + Int.tmod (wdF n (fun j => wAt [AV.x (Value.int IntKind.u16 (w j))]) k) (min hi (trL c T lo hi n w k - (c - (1 : Int) - (↑k : Int)) * lo) - max lo (trL c T lo hi n w k - (c - (1 : Int) - (↑k : Int)) * hi) + (1 : Int)))]) i = [Ytmdeoobmeokmeaa.i (trV c T lo hi n w i)], c = c, T = T, lo = lo, hi = hi] (Tree.leaf AEx.normal)))))))))))))))) (Tree.need [AV.agg [iI c, iI T, iI lo, iI hi] = AV.agg [iI c, iI T, iI lo, iI hi], (AV.lst 1 n fun k => [AV.x (Value.int IntKind.u16 (w k))]) = AV.lst 1 n fun k => [AV.x (Value.int IntKind.u16 (w k))], AV.ptr 0 0 = AV.ptr 0 0, AV.x (Value.slice none 0 0) = AV.x (Value.slice none 0 0), AV.row 900 = AV.row 900, k = Int.toNat c, ∀ (i : Nat), i < Int.toNat c → [Ytmdeoobmeokmeaa.i (trV c T lo hi n w i)] = [Ytmdeoobmeokmeaa.i (trV c T lo hi n w i)], c = c, T = T, lo = lo, hi = hi] (Tree.leaf (AEx.exit 0)))) := by kernel_rfl
    rw [e]
    simp only [T_tr, out_tr, Tree.sat, Option.getD_some] at hQ
    simp only [Tree.sat, allP, fitP, fitL, valEq, inI64, true_and, and_true, decide_eq_true_eq, decide_eq_false_iff_not, Int.natCast_zero, Int.toNat_natCast, List.length_cons, List.length_nil, updL_one, out_tr]
    clear e
    have hb := tube_bd pre0
    have e0 : trL c T lo hi n w (k + 1) = trL c T lo hi n w k - trV c T lo hi n w k := rfl
    have hL := trL_bd (n := n) ⟨hb.2.1.1, hb.2.1.2.1⟩ hb.2.2 pre2 k (by omega)
    have hV := trV_bd (T := T) (n := n) ⟨hb.2.1.1, hb.2.1.2.1⟩ hb.2.2 pre2 k
    have hw := wd_bd pre2 k
    have m1 := mul_bd (x := c - 1 - k) (y := lo) (X := 10) (Y := 200) (by omega) (by omega)
    have m2 := mul_bd (x := c - 1 - k) (y := hi) (X := 10) (Y := 200) (by omega) (by omega)
    have m3 := mul_bd (x := c - k) (y := lo) (X := 10) (Y := 200) (by omega) (by omega)
    have m4 := mul_bd (x := c - k) (y := hi) (X := 10) (Y := 200) (by omega) (by omega)
    have eV : max lo (trL c T lo hi n w k - (c - 1 - (k : Int)) * hi) + (wdF n w k).tmod (min hi (trL c T lo hi n w k - (c - 1 - (k : Int)) * lo) - max lo (trL c T lo hi n w k - (c - 1 - (k : Int)) * hi) + 1) = trV c T lo hi n w k := rfl
    simp only [wc, eV]
    refine ⟨fun h => ?_, fun h => ?_⟩
    · (repeat' first | with_reducible apply And.intro | with_reducible intro _)
      all_goals first | exact True.intro | omega | with_reducible rfl | exact one_of (by assumption) (by simp [AV.one, Value.oneCell']) | exact catF4 (by assumption) rfl rfl rfl rfl | exact catF2 (by assumption) rfl rfl | (rename_i E hE; cases hE; exact hQ) | rfl | assumption | (first | exact catF1 (by assumption) rfl | exact isWn _ _ | exact pre2)
    · obtain rfl : k = c.toNat := by omega
      (repeat' first | with_reducible apply And.intro | with_reducible intro _)
      all_goals first | exact True.intro | omega | with_reducible rfl | exact one_of (by assumption) (by simp [AV.one, Value.oneCell']) | exact catF4 (by assumption) rfl rfl rfl rfl | exact catF2 (by assumption) rfl rfl | (rename_i E hE; cases hE; exact hQ) | rfl | assumption | (first | exact catF1 (by assumption) rfl | exact isWn _ _ | exact pre2)

set_option maxRecDepth 100000 in
theorem Truly_at (c T lo hi : Int) (n : Nat) (w : Nat → Int) (pre0 : tubeB c T lo hi = true) (pre1 : n ≤ 10000000000000000000) (pre2 : wOk n w) : SoundAt Try.prog 34 [.agg [i c, i T, i lo, i hi], wds n w] (.lst 1 c.toNat (fun k => [i (trV c T lo hi n w k)])) := by
  refine soundAt_fin (G := [(39, S_word)]) (L := [LS_tr c T lo hi n w]) (SoundG.cons word_ok (SoundG.nil _)) mixed Try.func34 (show Try.f34.body = some (bodyOf Try.f34) by kernel_rfl) (one_loop (fun cj hcj => by
    have e : loopAt (bodyOf Try.f34) 0 = some (.loop B_tr) := by kernel_rfl
    rw [e] at hcj; cases hcj
    exact tr_ls c T lo hi n w pre0 pre1 pre2)) (t := (Tree.need [AV.agg [iI c, iI T, iI lo, iI hi] = AV.agg [iI c, iI T, iI lo, iI hi], (AV.lst 1 n fun k => [AV.x (Value.int IntKind.u16 (w k))]) = AV.lst 1 n fun k => [AV.x (Value.int IntKind.u16 (w k))], AV.ptr 0 0 = AV.ptr 0 0, AV.x (Value.slice none 0 0) = AV.x (Value.slice none 0 0), AV.row 900 = AV.row 900, T = trL c T lo hi n w 0, (0 : Int) = (↑(0 : Nat) : Int), 0 = 0, ∀ (i : Nat), i < 0 → [] = [Ytmdeoobmeokmeaa.i (trV c T lo hi n w i)], c = c, T = T, lo = lo, hi = hi] (Tree.leaf (RV.lst 1 (Int.toNat c) fun k => [iI (trV c T lo hi n w k)])))) (by kernel_rfl) ?_
  simp only [Tree.sat, allP, fitP, fitL, valEq, inI64, true_and, and_true]
  (repeat' first | with_reducible apply And.intro | with_reducible intro _)
  all_goals first | exact True.intro | omega | with_reducible rfl | rfl | (rename_i hm; cases List.mem_singleton.1 hm; exact True.intro)


def S_Truly : Sx.Spec := fun l => match l with
  | [.agg [.x (.int .i64 c), .x (.int .i64 T), .x (.int .i64 lo), .x (.int .i64 hi)], .lst 1 n f] => some ([isW n f, tubeB c T lo hi = true, n ≤ 10000000000000000000, wOk n (fun j => wAt (f j))], .lst 1 c.toNat (fun k => [i (trV c T lo hi n (fun j => wAt (f j)) k)]))
  | _ => none


theorem Truly_ok : SoundSpec Try.prog 34 S_Truly := by
  refine ⟨⟨_, Try.func34, by kernel_rfl, by kernel_rfl⟩, ?_⟩
  intro avs ns res h hn
  unfold S_Truly at h
  split at h
  · rename_i c T lo hi n f
    cases h
    have hr : isW n f := hn _ (by simp)
    exact (Truly_at c T lo hi n (fun j => wAt (f j)) (hn _ (by simp)) (hn _ (by simp)) (hn _ (by simp))).same (.cons (.refl _) (.cons (.lst 1 n _ _ hr) .nil))
  · cases h


theorem words_w {n : Nat} {f : Nat → List Value} (h : ∀ i, i < n → AllSc [.int .u16] (f i)) : isW n (fun k => (f k).map .x) ∧ wOk n (fun j => wAt ((fun k => (f k).map .x) j)) := by
  have key : ∀ i, i < n → ∃ x : Int, f i = [.int .u16 x] ∧ 0 ≤ x ∧ x ≤ 65535 := by
    intro i hi
    obtain ⟨v, vs, hv, ⟨x, rfl, hx⟩, h2⟩ := (h i hi).cons
    cases h2.nil
    refine ⟨x, hv, ?_⟩
    have hw : IntKind.u16.min ≤ x ∧ x ≤ IntKind.u16.max := by simpa [Lit.wf] using hx
    have e1 : IntKind.u16.min = 0 := by decide
    have e2 : IntKind.u16.max = 65535 := by decide
    rw [e1, e2] at hw
    exact hw
  refine ⟨fun i hi => ?_, fun i hi => ?_⟩
  · obtain ⟨x, hx, _⟩ := key i hi
    show (f i).map AV.x = [AV.x (.int .u16 (wAt ((f i).map AV.x)))]
    rw [hx]
    rfl
  · obtain ⟨x, hx, hb⟩ := key i hi
    show 0 ≤ wAt ((f i).map AV.x) ∧ wAt ((f i).map AV.x) ≤ 65535
    rw [hx]
    exact hb

end Go.Proofs.Ytmdeoobmeokmeaa
/- Contracts of functions of the program, by the engine Sx: what each call comes to. Printed by a program of this repo (sxgen.py). -/
set_option linter.unusedSimpArgs false
set_option linter.unusedVariables false
namespace Go.Proofs.Ytmdeoobmeokmeaa
open Go Go.Sx Go.RowKit

theorem vsum_bd {f : Nat → Int} {m : Nat} {lo hi : Int} (hl : 1 ≤ lo ∧ lo ≤ hi ∧ hi ≤ 200) (hm : m ≤ 10) (hf : ∀ j, j < m → lo ≤ f j ∧ f j ≤ hi) (j : Nat) (hj : j ≤ m) : 0 ≤ sumF f j ∧ sumF f j ≤ 2000 := by
  have h1 := sumF_bd (f := f) (n := m) (N := 200) (by omega) (fun k hk => by have := hf k hk; omega) j hj
  have h2 : ∀ q, q ≤ m → 0 ≤ sumF f q := by
    intro q
    induction q with
    | zero => intro _; exact Int.le_refl _
    | succ q ih =>
      intro hq
      have := ih (by omega)
      have := hf q (by omega)
      show 0 ≤ sumF f q + f q
      omega
  have h3 := h2 j hj
  omega
theorem seA_bd {c w : Int} (hc : 1 ≤ c) (hw : 0 ≤ w) : 0 ≤ seA c w ∧ seA c w < c := tmod_bd hw (by omega)
theorem seQ_bd {w : Int} (hw : 0 ≤ w ∧ w ≤ 65535) : 0 ≤ w.tdiv 16 ∧ 0 ≤ (w.tdiv 16).tmod 256 ∧ (w.tdiv 16).tmod 256 < 256 ∧ w.tdiv 16 ≤ 65535 ∧ 0 ≤ (w.tdiv 4096).tmod 4 ∧ (w.tdiv 4096).tmod 4 < 4 ∧ 0 ≤ (w.tdiv 8192).tmod 3 ∧ (w.tdiv 8192).tmod 3 < 3 := by
  have h1 := tdiv_bd hw.1 (show (0 : Int) < 16 by omega)
  have h2 := tdiv_bd hw.1 (show (0 : Int) < 4096 by omega)
  have h3 := tdiv_bd hw.1 (show (0 : Int) < 8192 by omega)
  have h4 := tmod_bd h1.1 (show (0 : Int) < 256 by omega)
  have h5 := tmod_bd h2.1 (show (0 : Int) < 4 by omega)
  have h6 := tmod_bd h3.1 (show (0 : Int) < 3 by omega)
  omega
theorem seT_bd {c T lo hi : Int} {m : Nat} {f : Nat → Int} {w : Int} (ht : tubeB c T lo hi = true) (hm : (m : Int) = c) (hf : ∀ j, j < m → lo ≤ f j ∧ f j ≤ hi) (hw : 0 ≤ w ∧ w ≤ 65535) : -1000000 ≤ seT c T f w ∧ seT c T f w ≤ 1000000 ∧ -1000000 ≤ (w.tdiv 16).tmod 256 * (T - sumF f (seA c w).toNat + 5) ∧ (w.tdiv 16).tmod 256 * (T - sumF f (seA c w).toNat + 5) ≤ 1000000 := by
  have hb := tube_bd ht
  have ha := seA_bd (c := c) (w := w) (by omega) hw.1
  have hs := vsum_bd (by omega) (by omega) hf (seA c w).toNat (by omega)
  have hq := seQ_bd hw
  have m1 := mul_bd (x := (w.tdiv 16).tmod 256) (y := T - sumF f (seA c w).toNat + 5) (X := 256) (Y := 2100) (by omega) (by omega)
  have h1 := tdiv_le (b := 256) (N := 537600) (a := (w.tdiv 16).tmod 256 * (T - sumF f (seA c w).toNat + 5)) (by omega)
  unfold seT
  omega

noncomputable def E_se (c T lo hi : Int) (m : Nat) (f : Nat → Int) (n : Nat) (w : Nat → Int) : St := (some
  {
    σ :=
      [AV.agg
          [AV.x (Value.int IntKind.i64 c), AV.x (Value.int IntKind.i64 T), AV.x (Value.int IntKind.i64 lo),
            AV.x (Value.int IntKind.i64 hi)],
        AV.lst (1 : Nat) m fun k => [AV.x (Value.int IntKind.i64 (f k))],
        AV.lst (1 : Nat) n fun k => [AV.x (Value.int IntKind.u16 (w k))], AV.ptr (0 : Nat) (0 : Nat), AV.top, AV.top,
        AV.x (Value.slice none (0 : Nat) (0 : Nat)), AV.top, AV.top, AV.top, AV.top, AV.top, AV.top, AV.top, AV.top,
        AV.top, AV.top, AV.top, AV.top, AV.top, AV.top, AV.top, AV.top, AV.top, AV.top, AV.top, AV.top, AV.top, AV.top,
        AV.top, AV.top, AV.top, AV.top, AV.top, AV.top, AV.top, AV.top, AV.top, AV.top, AV.top, AV.top, AV.top, AV.top,
        AV.top, AV.top, AV.top, AV.top, AV.top, AV.top, AV.top, AV.top, AV.top, AV.top, AV.top, AV.top, AV.top, AV.top,
        AV.top, AV.top, AV.top, AV.top, AV.top, AV.top, AV.top, AV.top, AV.top, AV.top, AV.top, AV.top, AV.top, AV.top,
        AV.top, AV.top, AV.top, AV.top, AV.top, AV.top, AV.top, AV.top, AV.top, AV.top, AV.top, AV.top],
    m :=
      [((900 : Nat), Res.row (47 : Nat) (4 : Nat) (0 : Nat) fun x => []),
        ((0 : Nat),
          Res.cells (25 : Nat)
            [AV.x (Value.int IntKind.i64 c), AV.x (Value.int IntKind.i64 T), AV.x (Value.int IntKind.i64 lo),
              AV.x (Value.int IntKind.i64 hi)])],
    nx := (901 : Nat) } : Option St).getD { σ := [], m := [], nx := 0 }
noncomputable def B_se : Code := loopBody (loopAt (bodyOf Try.f33) 0)
noncomputable def inv_se (c T lo hi : Int) (m : Nat) (f : Nat → Int) (n : Nat) (w : Nat → Int) (k : Nat) : St := { σ := ovrS [(7, .row 900), (8, i k)] (E_se c T lo hi m f n w).σ, m := [(900, .row 47 4 (k) (fun k => [i (seA c (w k)), i (seB c T f (w k)), i (seU c T f (w k)), i (seV c T f (w k))])), (0, .cells 25 [i c, i T, i lo, i hi])], nx := (E_se c T lo hi m f n w).nx }
noncomputable def out_se (c T lo hi : Int) (m : Nat) (f : Nat → Int) (n : Nat) (w : Nat → Int) (k : Nat) : AEx → Option St := fun ex => match ex with
  | .exit 0 => some { σ := ovrS [(7, .row 900)] (E_se c T lo hi m f n w).σ, m := [(900, .row 47 4 (min n 12) (fun k => [i (seA c (w k)), i (seB c T f (w k)), i (seU c T f (w k)), i (seV c T f (w k))])), (0, .cells 25 [i c, i T, i lo, i hi])], nx := (E_se c T lo hi m f n w).nx }
  | _ => none
noncomputable def T_se (c T lo hi : Int) (m : Nat) (f : Nat → Int) (n : Nat) (w : Nat → Int) : CT := .leaf (.exit 0, ( out_se c T lo hi m f n w 0 (.exit 0)).getD (E_se c T lo hi m f n w))
noncomputable def LS_se (c T lo hi : Int) (m : Nat) (f : Nat → Int) (n : Nat) (w : Nat → Int) : LSpec := normSp [(.slot 7, 900, 47, 4)] (sumL (inv_se c T lo hi m f n w (0)) (T_se c T lo hi m f n w))
noncomputable def E_si (c T lo hi : Int) (m : Nat) (f : Nat → Int) (n : Nat) (w : Nat → Int) (k : Nat) : St := (some
  {
    σ :=
      [AV.agg
          [AV.x (Value.int IntKind.i64 c), AV.x (Value.int IntKind.i64 T), AV.x (Value.int IntKind.i64 lo),
            AV.x (Value.int IntKind.i64 hi)],
        AV.lst (1 : Nat) m fun k => [AV.x (Value.int IntKind.i64 (f k))],
        AV.lst (1 : Nat) n fun k => [AV.x (Value.int IntKind.u16 (w k))], AV.ptr (0 : Nat) (0 : Nat), AV.top, AV.top,
        AV.x (Value.slice none (0 : Nat) (0 : Nat)), AV.row (900 : Nat), AV.x (Value.int IntKind.i64 (↑k : Int)),
        AV.x (Value.int IntKind.i64 (w k)), AV.x (Value.int IntKind.i64 (Int.tmod (w k) c)),
        AV.x
          (Value.int IntKind.i64
            (Int.tdiv
              (Int.tmod (Int.tdiv (w k) (16 : Int)) (256 : Int) *
                (T - sumF f (Int.toNat (Int.tmod (w k) c)) + (5 : Int)))
              (256 : Int))),
        AV.top, AV.top, AV.top, AV.top, AV.top, AV.top, AV.top, AV.top, AV.top, AV.top, AV.top, AV.top, AV.top, AV.top,
        AV.top, AV.top, AV.top, AV.top, AV.top, AV.top, AV.top, AV.top, AV.top, AV.top, AV.top, AV.top, AV.top, AV.top,
        AV.top, AV.top, AV.top, AV.top, AV.top, AV.top, AV.top, AV.top, AV.top, AV.top, AV.top, AV.top, AV.top, AV.top,
        AV.top, AV.top, AV.top, AV.top, AV.top, AV.top, AV.top, AV.top, AV.top, AV.top, AV.top, AV.top, AV.top, AV.top,
        AV.top, AV.top, AV.top, AV.top, AV.top, AV.top, AV.top, AV.top, AV.top, AV.top, AV.top, AV.top, AV.top, AV.top,
        AV.top],
    m :=
      [((900 : Nat),
          Res.row (47 : Nat) (4 : Nat) k fun k =>
            [AV.x (Value.int IntKind.i64 (seA c (w k))), AV.x (Value.int IntKind.i64 (seB c T f (w k))),
              AV.x (Value.int IntKind.i64 (seU c T f (w k))), AV.x (Value.int IntKind.i64 (seV c T f (w k)))]),
        ((0 : Nat),
          Res.cells (25 : Nat)
            [AV.x (Value.int IntKind.i64 c), AV.x (Value.int IntKind.i64 T), AV.x (Value.int IntKind.i64 lo),
              AV.x (Value.int IntKind.i64 hi)])],
    nx := (935 : Nat) } : Option St).getD { σ := [], m := [], nx := 0 }
noncomputable def B_si : Code := loopBody (loopAt B_se 0)
noncomputable def inv_si (c T lo hi : Int) (m : Nat) (f : Nat → Int) (n : Nat) (w : Nat → Int) (k : Nat) (j : Nat) : St := { σ := ovrS [(12, i (seA c (w k) + j))] (E_si c T lo hi m f n w k).σ, m := (E_si c T lo hi m f n w k).m, nx := (E_si c T lo hi m f n w k).nx }
noncomputable def out_si (c T lo hi : Int) (m : Nat) (f : Nat → Int) (n : Nat) (w : Nat → Int) (k : Nat) (j : Nat) : AEx → Option St := fun ex => match ex with
  | .exit 2 => some { σ := ovrS [(12, i (seB c T f (w k)))] (E_si c T lo hi m f n w k).σ, m := (E_si c T lo hi m f n w k).m, nx := (E_si c T lo hi m f n w k).nx }
  | _ => none
noncomputable def T_si (c T lo hi : Int) (m : Nat) (f : Nat → Int) (n : Nat) (w : Nat → Int) (k : Nat) : CT := .leaf (.exit 2, ( out_si c T lo hi m f n w k 0 (.exit 2)).getD (E_si c T lo hi m f n w k))
noncomputable def LS_si (c T lo hi : Int) (m : Nat) (f : Nat → Int) (n : Nat) (w : Nat → Int) (k : Nat) : LSpec := normSp [] (sumL (inv_si c T lo hi m f n w k (0)) (T_si c T lo hi m f n w k))
set_option maxRecDepth 100000 in
theorem si_ls (c T lo hi : Int) (m : Nat) (f : Nat → Int) (n : Nat) (w : Nat → Int) (k : Nat) (pre0 : tubeB c T lo hi = true) (pre1 : (m : Int) = c) (pre2 : ∀ j, j < m → lo ≤ f j ∧ f j ≤ hi) (pre3 : n ≤ 10000000000000000000) (pre4 : wOk n w) (pre5 : k < min n 12) : LSound Try.prog (.loop B_si) (LS_si c T lo hi m f n w k) := by
  refine loop_roundsX [] (E := { R := [], H := [] }) (G := [(40, S_rHeight)]) (L := []) (SoundG.cons rHeight_ok (SoundG.nil _)) (SoundX.of (SoundRL.nil _) (SoundHL.nil _)) mixed noLoops (X := Nat) (inv_si c T lo hi m f n w k) (fun j => j ≤ (c - seA c (w k)).toNat ∧ ∀ q, q < j → (fun j => !decide (sumF f ((seA c (w k)).toNat + j + 1) - sumF f (seA c (w k)).toNat ≤ seT c T f (w k))) q = false) (fun j => (c - seA c (w k)).toNat - j) (out_si c T lo hi m f n w k) (x0 := 0) ⟨by omega, fun j hj => by omega⟩ ?_ ?_ ?_
  · rintro j
    kernel_rfl
  · rintro j y E h
    unfold out_si at h
    split at h
    · cases h; kernel_rfl
    · cases h
  · rintro Q hQ j hx
    refine ⟨(j + 1), ?_⟩
    have e : roundX Try.prog [(40, S_rHeight)] { R := [], H := [] } [] [] B_si (inv_si c T lo hi m f n w k j) (inv_si c T lo hi m f n w k ((j + 1))) (out_si c T lo hi m f n w k j) = (Tree.branch (decide (seA c (w k) + (↑j : Int) < c)) (Tree.need [inI64 (seA c (w k) + (↑j : Int) + (1 : Int))] (Tree.need [isRec 1 m fun k => [iI (f k)], seA c (w k) + (↑j : Int) + (1 : Int) ≤ (↑m : Int), m ≤ 100, ∀ (k : Nat), k < m → (-1000000 : Int) ≤ f k ∧ f k ≤ (1000000 : Int)] (Tree.need [isRec 1 m fun k => [iI (f k)], Int.tmod (w k) c ≤ (↑m : Int), m ≤ 100, ∀ (k : Nat), k < m → (-1000000 : Int) ≤ f k ∧ f k ≤ (1000000 : Int)] (Tree.need [inI64 (sumF f (Int.toNat (seA c (w k) + (↑j : Int) + (1 : Int))) - sumF f (Int.toNat (Int.tmod (w k) c)))] (Tree.branch (decide (sumF f (Int.toNat (seA c (w k) + (↑j : Int) + (1 : Int))) - sumF f (Int.toNat (Int.tmod (w k) c)) ≤ Int.tdiv (Int.tmod (Int.tdiv (w k) (16 : Int)) (256 : Int) * (T - sumF f (Int.toNat (Int.tmod (w k) c)) + (5 : Int))) (256 : Int))) (Tree.need [inI64 (seA c (w k) + (↑j : Int) + (1 : Int))] (Tree.need [AV.agg [iI c, iI T, iI lo, iI hi] = AV.agg [iI c, iI T, iI lo, iI hi], (AV.lst 1 m fun k => [iI (f k)]) = AV.lst 1 m fun k => [iI (f k)], (AV.lst 1 n fun k => [AV.x (Value.int IntKind.u16 (w k))]) = AV.lst 1 n fun k => [AV.x (Value.int IntKind.u16 (w k))], AV.ptr 0 0 = AV.ptr 0 0, AV.x (Value.slice none 0 0) = AV.x (Value.slice none 0 0), AV.row 900 = AV.row 900, (↑k : Int) = (↑k : Int), w k = w k, Int.tmod (w k) c = Int.tmod (w k) c, Int.tdiv (Int.tmod (Int.tdiv (w k) (16 : Int)) (256 : Int) * (T - sumF f (Int.toNat (Int.tmod (w k) c)) + (5 : Int))) (256 : Int) = Int.tdiv (Int.tmod (Int.tdiv (w k) (16 : Int)) (256 : Int) * (T - sumF f (Int.toNat (Int.tmod (w k) c)) + (5 : Int))) (256 : Int), seA c (w k) + (↑j : Int) + (1 : Int) = seA c (w k) + (↑(j + 1) : Int), k = k, ∀ (i : Nat), i < k → [iI (seA c (w i)), iI (seB c T f (w i)), iI (seU c T f (w i)), iI (seV c T f (w i))] = [iI (seA c (w i)), iI (seB c T f (w i)), iI (seU c T f (w i)), iI (seV c T f (w i))], c = c, T = T, lo = lo, hi = hi] (Tree.leaf AEx.normal))) (Tree.need [AV.agg [iI c, iI T, iI lo, iI hi] = AV.agg [iI c, iI T, iI lo, iI hi], (AV.lst 1 m fun k => [iI (f k)]) = AV.lst 1 m fun k => [iI (f k)], (AV.lst 1 n fun k => [AV.x (Value.int IntKind.u16 (w k))]) = AV.lst 1 n fun k => [AV.x (Value.int IntKind.u16 (w k))], AV.ptr 0 0 = AV.ptr 0 0, AV.x (Value.slice none 0 0) = AV.x (Value.slice none 0 0), AV.row 900 = AV.row 900, (↑k : Int) = (↑k : Int), w k = w k, Int.tmod (w k) c = Int.tmod (w k) c, Int.tdiv (Int.tmod (Int.tdiv (w k) (16 : Int)) (256 : Int) * (T - sumF f (Int.toNat (Int.tmod (w k) c)) + (5 : Int))) (256 : Int) = Int.tdiv (Int.tmod (Int.tdiv (w k) (16 : Int)) (256 : Int) * (T - sumF f (Int.toNat (Int.tmod (w k) c)) + (5 : Int))) (256 : Int), seA c (w k) + (↑j : Int) = seB c T f (w k), k = k, ∀ (i : Nat), i < k → [iI (seA c (w i)), iI (seB c T f (w i)), iI (seU c T f (w i)), iI (seV c T f (w i))] = [iI (seA c (w i)), iI (seB c T f (w i)), iI (seU c T f (w i)), iI (seV c T f (w i))], c = c, T = T, lo = lo, hi = hi] (Tree.leaf (AEx.exit 2)))))))) (Tree.need [AV.agg [iI c, iI T, iI lo, iI hi] = AV.agg [iI c, iI T, iI lo, iI hi], (AV.lst 1 m fun k => [iI (f k)]) = AV.lst 1 m fun k => [iI (f k)], (AV.lst 1 n fun k => [AV.x (Value.int IntKind.u16 (w k))]) = AV.lst 1 n fun k => [AV.x (Value.int IntKind.u16 (w k))], AV.ptr 0 0 = AV.ptr 0 0, AV.x (Value.slice none 0 0) = AV.x (Value.slice none 0 0), AV.row 900 = AV.row 900, (↑k : Int) = (↑k : Int), w k = w k, Int.tmod (w k) c = Int.tmod (w k) c, Int.tdiv (Int.tmod (Int.tdiv (w k) (16 : Int)) (256 : Int) * (T - sumF f (Int.toNat (Int.tmod (w k) c)) + (5 : Int))) (256 : Int) = Int.tdiv (Int.tmod (Int.tdiv (w k) (16 : Int)) (256 : Int) * (T - sumF f (Int.toNat (Int.tmod (w k) c)) + (5 : Int))) (256 : Int), seA c (w k) + (↑j : Int) = seB c T f (w k), k = k, ∀ (i : Nat), i < k → [iI (seA c (w i)), iI (seB c T f (w i)), iI (seU c T f (w i)), iI (seV c T f (w i))] = [iI (seA c (w i)), iI (seB c T f (w i)), iI (seU c T f (w i)), iI (seV c T f (w i))], c = c, T = T, lo = lo, hi = hi] (Tree.leaf (AEx.exit 2)))) := by kernel_rfl
    rw [e]
    simp only [T_si, out_si, Tree.sat, Option.getD_some] at hQ
    have hb := tube_bd pre0
    have hw := pre4 k (by omega)
    have eA : (w k).tmod c = seA c (w k) := rfl
    have ha := seA_bd (c := c) (w := w k) (by omega) hw.1
    have eT : (((w k).tdiv 16).tmod 256 * (T - sumF f (seA c (w k)).toNat + 5)).tdiv 256 = seT c T f (w k) := rfl
    have e1 : (seA c (w k) + (j : Int) + 1).toNat = (seA c (w k)).toNat + j + 1 := by omega
    have hs := fun q h => vsum_bd (lo := lo) (hi := hi) (by omega) (by omega) pre2 q h
    have hs1 := hs (seA c (w k)).toNat (by omega)
    have hfb : ∀ q, q < m → -1000000 ≤ f q ∧ f q ≤ 1000000 := fun q hq => by have := pre2 q hq; omega
    simp only [Tree.sat, allP, fitP, fitL, valEq, inI64, true_and, and_true, decide_eq_true_eq, decide_eq_false_iff_not, Int.natCast_zero, Int.toNat_natCast, out_si, eA]
    simp only [eT, e1]
    clear e
    have hgood : sumF f ((seA c (w k)).toNat + j + 1) - sumF f (seA c (w k)).toNat ≤ seT c T f (w k) → ∀ q, q < j + 1 → (!decide (sumF f ((seA c (w k)).toNat + q + 1) - sumF f (seA c (w k)).toNat ≤ seT c T f (w k))) = false := fun h2 q hq => by
      rcases (show q < j ∨ q = j by omega) with h3 | rfl
      · exact hx.2 q h3
      · simp [h2]
    have hBx : seA c (w k) + j < c → ¬ sumF f ((seA c (w k)).toNat + j + 1) - sumF f (seA c (w k)).toNat ≤ seT c T f (w k) → seB c T f (w k) = seA c (w k) + j := fun h1 h2 => by
      have hf : fstI (fun j => !decide (sumF f ((seA c (w k)).toNat + j + 1) - sumF f (seA c (w k)).toNat ≤ seT c T f (w k))) (c - seA c (w k)).toNat = j := fstI_eq (by omega) (by simp; omega) hx.2
      unfold seB
      rw [show seI c T f (w k) = j from hf]
    have hBy : ¬ seA c (w k) + j < c → seB c T f (w k) = seA c (w k) + j := fun h1 => by
      have hf : fstI (fun j => !decide (sumF f ((seA c (w k)).toNat + j + 1) - sumF f (seA c (w k)).toNat ≤ seT c T f (w k))) (c - seA c (w k)).toNat = (c - seA c (w k)).toNat := fstI_none (fun q hq => hx.2 q (by omega))
      unfold seB
      rw [show seI c T f (w k) = (c - seA c (w k)).toNat from hf]
      omega
    refine ⟨fun h => ?_, fun h => ?_⟩
    · have hs2 := hs ((seA c (w k)).toNat + j + 1) (by omega)
      (repeat' first | with_reducible apply And.intro | with_reducible intro _)
      all_goals first | exact True.intro | omega | with_reducible rfl | exact isRec1 _ _ | rfl | exact hgood (by assumption) _ (by assumption) | (have := hfb _ (by assumption); omega) | (have := hBx h (by assumption); omega) | (rename_i E hE; cases hE; exact hQ)
    · have hB := hBy h
      (repeat' first | with_reducible apply And.intro | with_reducible intro _)
      all_goals first | exact True.intro | omega | with_reducible rfl | rfl | (rename_i E hE; cases hE; exact hQ)

set_option maxRecDepth 100000 in
theorem se_ls (c T lo hi : Int) (m : Nat) (f : Nat → Int) (n : Nat) (w : Nat → Int) (pre0 : tubeB c T lo hi = true) (pre1 : (m : Int) = c) (pre2 : ∀ j, j < m → lo ≤ f j ∧ f j ≤ hi) (pre3 : n ≤ 10000000000000000000) (pre4 : wOk n w) : LSound Try.prog (.loop B_se) (LS_se c T lo hi m f n w) := by
  refine loop_roundsX [(.slot 7, 900, 47, 4)] (E := { R := [], H := [] }) (G := [(40, S_rHeight)]) (L := [depSp 8 (fun k => needSp [tubeB c T lo hi = true, (m : Int) = c, ∀ j, j < m → lo ≤ f j ∧ f j ≤ hi, n ≤ 10000000000000000000, wOk n w, k < min n 12] (LS_si c T lo hi m f n w k))]) (SoundG.cons rHeight_ok (SoundG.nil _)) (SoundX.of (SoundRL.nil _) (SoundHL.nil _)) mixed (one_loop (fun cj hcj => by
    have e : loopAt B_se 0 = some (.loop B_si) := by kernel_rfl
    rw [e] at hcj; cases hcj
    exact depSp_sound (fun k => needSp_sound (fun h => si_ls c T lo hi m f n w k h.1 h.2.1 h.2.2.1 h.2.2.2.1 h.2.2.2.2.1 h.2.2.2.2.2)))) (X := Nat) (inv_se c T lo hi m f n w) (fun k => k ≤ min n 12) (fun k => min n 12 - k) (out_se c T lo hi m f n w) (x0 := 0) (by simp) ?_ ?_ ?_
  · rintro k
    kernel_rfl
  · rintro k y E h
    unfold out_se at h
    split at h
    · cases h; kernel_rfl
    · cases h
  · rintro Q hQ k hx
    refine ⟨(k + 1), ?_⟩
    have e : roundX Try.prog [(40, S_rHeight)] { R := [], H := [] } [depSp 8 (fun k => needSp [tubeB c T lo hi = true, (m : Int) = c, ∀ j, j < m → lo ≤ f j ∧ f j ≤ hi, n ≤ 10000000000000000000, wOk n w, k < min n 12] (LS_si c T lo hi m f n w k))] [(.slot 7, 900, 47, 4)] B_se (inv_se c T lo hi m f n w k) (inv_se c T lo hi m f n w ((k + 1))) (out_se c T lo hi m f n w k) = (Tree.branch (decide ((↑k : Int) < (↑n : Int))) (Tree.branch (decide ((↑k : Int) < (12 : Int))) (Tree.need [(0 : Int) ≤ (↑k : Int) ∧ (↑k : Int) < (↑n : Int)] (Tree.need [inI64 (w k)] (Tree.need [c ≠ (0 : Int)] (Tree.need [(16 : Int) ≠ (0 : Int), inI64 (Int.tdiv (w k) (16 : Int))] (Tree.need [(256 : Int) ≠ (0 : Int)] (Tree.need [isRec 1 m fun k => [iI (f k)], Int.tmod (w k) c ≤ (↑m : Int), m ≤ 100, ∀ (k : Nat), k < m → (-1000000 : Int) ≤ f k ∧ f k ≤ (1000000 : Int)] (Tree.need [inI64 (T - sumF f (Int.toNat (Int.tmod (w k) c)))] (Tree.need [inI64 (T - sumF f (Int.toNat (Int.tmod (w k) c)) + (5 : Int))] (Tree.need [inI64 (Int.tmod (Int.tdiv (w k) (16 : Int)) (256 : Int) * (T - sumF f (Int.toNat (Int.tmod (w k) c)) + (5 : Int)))] (Tree.need [(256 : Int) ≠ (0 : Int), inI64 (Int.tdiv (Int.tmod (Int.tdiv (w k) (16 : Int)) (256 : Int) * (T - sumF f (Int.toNat (Int.tmod (w k) c)) + (5 : Int))) (256 : Int))] (Tree.need [tubeB c T lo hi = true, (↑m : Int) = c, ∀ (j : Nat), j < m → lo ≤ f j ∧ f j ≤ hi, n ≤ 10000000000000000000, wOk n w, k < min n 12] (Tree.need [AV.agg [iI c, iI T, iI lo, iI hi] = AV.agg [iI c, iI T, iI lo, iI hi], (AV.lst 1 m fun k => [iI (f k)]) = AV.lst 1 m fun k => [iI (f k)], (AV.lst 1 n fun k => [AV.x (Value.int IntKind.u16 (w k))]) = AV.lst 1 n fun k => [AV.x (Value.int IntKind.u16 (w k))], AV.ptr 0 0 = AV.ptr 0 0, AV.x (Value.slice none 0 0) = AV.x (Value.slice none 0 0), AV.row 900 = AV.row 900, (↑k : Int) = (↑k : Int), w k = w k, Int.tmod (w k) c = Int.tmod (w k) c, Int.tdiv (Int.tmod (Int.tdiv (w k) (16 : Int)) (256 : Int) * (T - sumF f (Int.toNat (Int.tmod (w k) c)) + (5 : Int))) (256 : Int) = Int.tdiv (Int.tmod (Int.tdiv (w k) (16 : Int)) (256 : Int) * (T - sumF f (Int.toNat (Int.tmod (w k) c)) + (5 : Int))) (256 : Int), Int.tmod (w k) c = seA c (w k) + (↑(0 : Nat) : Int), k = k, ∀ (i : Nat), i < k → [Ytmdeoobmeokmeaa.i (seA c (w i)), Ytmdeoobmeokmeaa.i (seB c T f (w i)), Ytmdeoobmeokmeaa.i (seU c T f (w i)), Ytmdeoobmeokmeaa.i (seV c T f (w i))] = [iI (seA c (w i)), iI (seB c T f (w i)), iI (seU c T f (w i)), iI (seV c T f (w i))], c = c, T = T, lo = lo, hi = hi] (Tree.need [(4096 : Int) ≠ (0 : Int), inI64 (Int.tdiv (w k) (4096 : Int))] (Tree.need [(4 : Int) ≠ (0 : Int)] (Tree.need [inI64 (Int.tdiv (Int.tmod (Int.tdiv (w k) (16 : Int)) (256 : Int) * (T - sumF f (Int.toNat (Int.tmod (w k) c)) + (5 : Int))) (256 : Int) - Int.tmod (Int.tdiv (w k) (4096 : Int)) (4 : Int))] (Tree.need [(8192 : Int) ≠ (0 : Int), inI64 (Int.tdiv (w k) (8192 : Int))] (Tree.need [(3 : Int) ≠ (0 : Int)] (Tree.need [inI64 (Int.tdiv (Int.tmod (Int.tdiv (w k) (16 : Int)) (256 : Int) * (T - sumF f (Int.toNat (Int.tmod (w k) c)) + (5 : Int))) (256 : Int) + Int.tmod (Int.tdiv (w k) (8192 : Int)) (3 : Int))] (Tree.need [(k + 1) * 32 ≤ 140737488355328, ∀ (i : Nat), i < 1 → ∀ (a : AV), a ∈ chunk 4 [iI (Int.tmod (w k) c), iI (seB c T f (w k)), iI (max (0 : Int) (Int.tdiv (Int.tmod (Int.tdiv (w k) (16 : Int)) (256 : Int) * (T - sumF f (Int.toNat (Int.tmod (w k) c)) + (5 : Int))) (256 : Int) - Int.tmod (Int.tdiv (w k) (4096 : Int)) (4 : Int))), iI (min (2000 : Int) (Int.tdiv (Int.tmod (Int.tdiv (w k) (16 : Int)) (256 : Int) * (T - sumF f (Int.toNat (Int.tmod (w k) c)) + (5 : Int))) (256 : Int) + Int.tmod (Int.tdiv (w k) (8192 : Int)) (3 : Int)))] i → AV.one a = true] (Tree.need [inI64 ((↑k : Int) + (1 : Int))] (Tree.need [AV.agg [iI c, iI T, iI lo, iI hi] = AV.agg [iI c, iI T, iI lo, iI hi], (AV.lst 1 m fun k => [iI (f k)]) = AV.lst 1 m fun k => [iI (f k)], (AV.lst 1 n fun k => [AV.x (Value.int IntKind.u16 (w k))]) = AV.lst 1 n fun k => [AV.x (Value.int IntKind.u16 (w k))], AV.ptr 0 0 = AV.ptr 0 0, AV.x (Value.slice none 0 0) = AV.x (Value.slice none 0 0), AV.row 900 = AV.row 900, (↑k : Int) + (1 : Int) = (↑(k + 1) : Int), k + 1 = k + 1, ∀ (i : Nat), i < k + 1 → catF k (fun k => [iI (seA c (w k)), iI (seB c T f (w k)), iI (seU c T f (w k)), iI (seV c T f (w k))]) (chunk 4 [iI (Int.tmod (w k) c), iI (seB c T f (w k)), iI (max (0 : Int) (Int.tdiv (Int.tmod (Int.tdiv (w k) (16 : Int)) (256 : Int) * (T - sumF f (Int.toNat (Int.tmod (w k) c)) + (5 : Int))) (256 : Int) - Int.tmod (Int.tdiv (w k) (4096 : Int)) (4 : Int))), iI (min (2000 : Int) (Int.tdiv (Int.tmod (Int.tdiv (w k) (16 : Int)) (256 : Int) * (T - sumF f (Int.toNat (Int.tmod (w k) c)) + (5 : Int))) (256 : Int) + Int.tmod (Int.tdiv (w k) (8192 : Int)) (3 : Int)))]) i = [Ytmdeoobmeokmeaa.i (seA c (w i)), Ytmdeoobmeokmeaa.i (seB c T f (w i)), Ytmdeoobmeokmeaa.i (seU c T f (w i)), Ytmdeoobmeokmeaa.i (seV c T f (w i))], c = c, T = T, lo = lo, hi = hi] (Tree.leaf AEx.normal)))))))))))))))))))))) (Tree.need [AV.agg [iI c, iI T, iI lo, iI hi] = AV.agg [iI c, iI T, iI lo, iI hi], (AV.lst 1 m fun k => [iI (f k)]) = AV.lst 1 m fun k => [iI (f k)], (AV.lst 1 n fun k => [AV.x (Value.int IntKind.u16 (w k))]) = AV.lst 1 n fun k => [AV.x (Value.int IntKind.u16 (w k))], AV.ptr 0 0 = AV.ptr 0 0, AV.x (Value.slice none 0 0) = AV.x (Value.slice none 0 0), AV.row 900 = AV.row 900, k = min n 12, ∀ (i : Nat), i < min n 12 → [Ytmdeoobmeokmeaa.i (seA c (w i)), Ytmdeoobmeokmeaa.i (seB c T f (w i)), Ytmdeoobmeokmeaa.i (seU c T f (w i)), Ytmdeoobmeokmeaa.i (seV c T f (w i))] = [Ytmdeoobmeokmeaa.i (seA c (w i)), Ytmdeoobmeokmeaa.i (seB c T f (w i)), Ytmdeoobmeokmeaa.i (seU c T f (w i)), Ytmdeoobmeokmeaa.i (seV c T f (w i))], c = c, T = T, lo = lo, hi = hi] (Tree.leaf (AEx.exit 0)))) (Tree.need [AV.agg [iI c, iI T, iI lo, iI hi] = AV.agg [iI c, iI T, iI lo, iI hi], (AV.lst 1 m fun k => [iI (f k)]) = AV.lst 1 m fun k => [iI (f k)], (AV.lst 1 n fun k => [AV.x (Value.int IntKind.u16 (w k))]) = AV.lst 1 n fun k => [AV.x (Value.int IntKind.u16 (w k))], AV.ptr 0 0 = AV.ptr 0 0, AV.x (Value.slice none 0 0) = AV.x (Value.slice none 0 0), AV.row 900 = AV.row 900, k = min n 12, ∀ (i : Nat), i < min n 12 → [Ytmdeoobmeokmeaa.i (seA c (w i)), Ytmdeoobmeokmeaa.i (seB c T f (w i)), Ytmdeoobmeokmeaa.i (seU c T f (w i)), Ytmdeoobmeokmeaa.i (seV c T f (w i))] = [Ytmdeoobmeokmeaa.i (seA c (w i)), Ytmdeoobmeokmeaa.i (seB c T f (w i)), Ytmdeoobmeokmeaa.i (seU c T f (w i)), Ytmdeoobmeokmeaa.i (seV c T f (w i))], c = c, T = T, lo = lo, hi = hi] (Tree.leaf (AEx.exit 0)))) := by kernel_rfl
    rw [e]
    simp only [T_se, out_se, Tree.sat, Option.getD_some] at hQ
    have hb := tube_bd pre0
    have eA : (w k).tmod c = seA c (w k) := rfl
    have eT : (((w k).tdiv 16).tmod 256 * (T - sumF f (seA c (w k)).toNat + 5)).tdiv 256 = seT c T f (w k) := rfl
    have eU : max 0 (seT c T f (w k) - ((w k).tdiv 4096).tmod 4) = seU c T f (w k) := rfl
    have eV : min 2000 (seT c T f (w k) + ((w k).tdiv 8192).tmod 3) = seV c T f (w k) := rfl
    have hfb : ∀ q, q < m → -1000000 ≤ f q ∧ f q ≤ 1000000 := fun q hq => by have := pre2 q hq; omega
    simp only [Tree.sat, allP, fitP, fitL, valEq, inI64, true_and, and_true, decide_eq_true_eq, decide_eq_false_iff_not, Int.natCast_zero, Int.toNat_natCast, out_se, eA]
    simp only [eT, eU, eV]
    clear e
    have key : k < n → k < 12 → (0 ≤ w k ∧ w k ≤ 65535) ∧ (0 ≤ seA c (w k) ∧ seA c (w k) < c) ∧ (0 ≤ sumF f (seA c (w k)).toNat ∧ sumF f (seA c (w k)).toNat ≤ 2000) ∧ (-1000000 ≤ seT c T f (w k) ∧ seT c T f (w k) ≤ 1000000 ∧ -1000000 ≤ ((w k).tdiv 16).tmod 256 * (T - sumF f (seA c (w k)).toNat + 5) ∧ ((w k).tdiv 16).tmod 256 * (T - sumF f (seA c (w k)).toNat + 5) ≤ 1000000) := fun h1 _ => by
      have hw := pre4 k h1
      have ha := seA_bd (c := c) (w := w k) (by omega) hw.1
      exact ⟨hw, ha, vsum_bd (by omega) (by omega) pre2 (seA c (w k)).toNat (by omega), seT_bd pre0 pre1 pre2 hw⟩
    have kq : k < n → 0 ≤ (w k).tdiv 16 ∧ 0 ≤ ((w k).tdiv 16).tmod 256 ∧ ((w k).tdiv 16).tmod 256 < 256 ∧ (w k).tdiv 16 ≤ 65535 ∧ 0 ≤ ((w k).tdiv 4096).tmod 4 ∧ ((w k).tdiv 4096).tmod 4 < 4 ∧ 0 ≤ ((w k).tdiv 8192).tmod 3 ∧ ((w k).tdiv 8192).tmod 3 < 3 := fun h1 => seQ_bd (pre4 k h1)
    have kd : k < n → (0 ≤ (w k).tdiv 4096 ∧ (w k).tdiv 4096 ≤ w k) ∧ 0 ≤ (w k).tdiv 8192 ∧ (w k).tdiv 8192 ≤ w k := fun h1 => ⟨tdiv_bd (pre4 k h1).1 (by omega), tdiv_bd (pre4 k h1).1 (by omega)⟩
    refine ⟨fun h => ⟨fun h2 => ?_, fun h2 => ?_⟩, fun h => ?_⟩
    · have hk := key (by omega) (by omega)
      have hq := kq (by omega)
      have hd := kd (by omega)
      (repeat' first | with_reducible apply And.intro | with_reducible intro _)
      all_goals first | exact True.intro | omega | with_reducible rfl | exact isRec1 _ _ | exact catF4 (by assumption) rfl rfl rfl rfl | exact one_of (by assumption) (by simp [AV.one, Value.oneCell']) | rfl | (have := hfb _ (by assumption); omega) | exact pre0 | exact pre4 | (have := pre2 _ (by assumption); omega) | exact pre4 _ (by assumption)
    · obtain rfl : k = min n 12 := by omega
      (repeat' first | with_reducible apply And.intro | with_reducible intro _)
      all_goals first | exact True.intro | omega | with_reducible rfl | rfl | (rename_i E hE; cases hE; exact hQ)
    · obtain rfl : k = min n 12 := by omega
      (repeat' first | with_reducible apply And.intro | with_reducible intro _)
      all_goals first | exact True.intro | omega | with_reducible rfl | rfl | (rename_i E hE; cases hE; exact hQ)

set_option maxRecDepth 100000 in
theorem Seen_at (c T lo hi : Int) (m : Nat) (f : Nat → Int) (n : Nat) (w : Nat → Int) (pre0 : tubeB c T lo hi = true) (pre1 : (m : Int) = c) (pre2 : ∀ j, j < m → lo ≤ f j ∧ f j ≤ hi) (pre3 : n ≤ 10000000000000000000) (pre4 : wOk n w) : SoundAt Try.prog 33 [.agg [i c, i T, i lo, i hi], .lst 1 m (fun k => [i (f k)]), wds n w] (.lst 4 (min n 12) (fun k => [i (seA c (w k)), i (seB c T f (w k)), i (seU c T f (w k)), i (seV c T f (w k))])) := by
  refine soundAt_fin (G := [(40, S_rHeight)]) (L := [LS_se c T lo hi m f n w]) (SoundG.cons rHeight_ok (SoundG.nil _)) mixed Try.func33 (show Try.f33.body = some (bodyOf Try.f33) by kernel_rfl) (one_loop (fun cj hcj => by
    have e : loopAt (bodyOf Try.f33) 0 = some (.loop B_se) := by kernel_rfl
    rw [e] at hcj; cases hcj
    exact se_ls c T lo hi m f n w pre0 pre1 pre2 pre3 pre4)) (t := (Tree.need [AV.agg [iI c, iI T, iI lo, iI hi] = AV.agg [iI c, iI T, iI lo, iI hi], (AV.lst 1 m fun k => [iI (f k)]) = AV.lst 1 m fun k => [iI (f k)], (AV.lst 1 n fun k => [AV.x (Value.int IntKind.u16 (w k))]) = AV.lst 1 n fun k => [AV.x (Value.int IntKind.u16 (w k))], AV.ptr 0 0 = AV.ptr 0 0, AV.x (Value.slice none 0 0) = AV.x (Value.slice none 0 0), AV.row 900 = AV.row 900, (0 : Int) = (↑(0 : Nat) : Int), 0 = 0, ∀ (i : Nat), i < 0 → [] = [Ytmdeoobmeokmeaa.i (seA c (w i)), Ytmdeoobmeokmeaa.i (seB c T f (w i)), Ytmdeoobmeokmeaa.i (seU c T f (w i)), Ytmdeoobmeokmeaa.i (seV c T f (w i))], c = c, T = T, lo = lo, hi = hi] (Tree.leaf (RV.lst 4 (min n 12) fun k => [iI (seA c (w k)), iI (seB c T f (w k)), iI (seU c T f (w k)), iI (seV c T f (w k))])))) (by kernel_rfl) ?_
  simp only [Tree.sat, allP, fitP, fitL, valEq, inI64, true_and, and_true]
  (repeat' first | with_reducible apply And.intro | with_reducible intro _)
  all_goals first | exact True.intro | omega | with_reducible rfl | rfl | (rename_i hm; simp only [List.mem_cons, List.not_mem_nil, or_false] at hm; rcases hm with rfl | rfl | rfl | rfl <;> exact True.intro)


def S_Seen : Sx.Spec := fun l => match l with
  | [.agg [.x (.int .i64 c), .x (.int .i64 T), .x (.int .i64 lo), .x (.int .i64 hi)], .lst 1 m g, .lst 1 n f] => some ([isRec 1 m g, isW n f, tubeB c T lo hi = true, (m : Int) = c, ∀ j, j < m → lo ≤ col 0 g j ∧ col 0 g j ≤ hi, n ≤ 10000000000000000000, wOk n (fun j => wAt (f j))], rds (min n 12) (fun k => seA c (wAt (f k))) (fun k => seB c T (col 0 g) (wAt (f k))) (fun k => seU c T (col 0 g) (wAt (f k))) (fun k => seV c T (col 0 g) (wAt (f k))))
  | _ => none


theorem Seen_ok : SoundSpec Try.prog 33 S_Seen := by
  refine ⟨⟨_, Try.func33, by kernel_rfl, by kernel_rfl⟩, ?_⟩
  intro avs ns res h hn
  unfold S_Seen at h
  split at h
  · rename_i c T lo hi m g n f
    cases h
    have hg : isRec 1 m g := hn _ (by simp)
    have hr : isW n f := hn _ (by simp)
    exact (Seen_at c T lo hi m (col 0 g) n (fun j => wAt (f j)) (hn _ (by simp)) (hn _ (by simp)) (hn _ (by simp)) (hn _ (by simp)) (hn _ (by simp))).same (.cons (.refl _) (.cons (.lst 1 m _ _ hg) (.cons (.lst 1 n _ _ hr) .nil)))
  · cases h

end Go.Proofs.Ytmdeoobmeokmeaa
/- Contracts of functions of the program, by the engine Sx: what each call comes to. Printed by a program of this repo (sxgen.py). -/
set_option linter.unusedSimpArgs false
set_option linter.unusedVariables false
namespace Go.Proofs.Ytmdeoobmeokmeaa
open Go Go.Sx Go.RowKit

theorem step_lo {lo : Int} {h : Nat → Int} {c : Nat} (hs : ∀ k, k < c → lo ≤ h (k + 1) - h k) : ∀ k, k ≤ c → h 0 + k * lo ≤ h k
  | 0, _ => by simp
  | k + 1, hk => by
    have ih := step_lo hs k (by omega)
    have h1 := hs k (by omega)
    have e : ((k + 1 : Nat) : Int) * lo = k * lo + lo := by rw [Int.natCast_add, Int.add_mul]; simp
    rw [e]
    omega
theorem step_hi {hi : Int} {h : Nat → Int} {c : Nat} (hs : ∀ k, k < c → h (k + 1) - h k ≤ hi) : ∀ k, k ≤ c → h k ≤ h 0 + k * hi
  | 0, _ => by simp
  | k + 1, hk => by
    have ih := step_hi hs k (by omega)
    have h1 := hs k (by omega)
    have e : ((k + 1 : Nat) : Int) * hi = k * hi + hi := by rw [Int.natCast_add, Int.add_mul]; simp
    rw [e]
    omega
theorem step_end {lo hi : Int} {h : Nat → Int} {c : Nat} (hs : ∀ k, k < c → lo ≤ h (k + 1) - h k ∧ h (k + 1) - h k ≤ hi) (k : Nat) (hk : k ≤ c) : h k + ((c : Int) - k) * lo ≤ h c ∧ h c ≤ h k + ((c : Int) - k) * hi := by
  have h1 := step_lo (lo := lo) (h := fun j => h (k + j)) (c := c - k) (fun j hj => (hs (k + j) (by omega)).1) (c - k) (Nat.le_refl _)
  have h2 := step_hi (hi := hi) (h := fun j => h (k + j)) (c := c - k) (fun j hj => (hs (k + j) (by omega)).2) (c - k) (Nat.le_refl _)
  have e1 : k + (c - k) = c := by omega
  have e2 : ((c - k : Nat) : Int) = c - k := by omega
  simp only [Nat.add_zero, e1, e2] at h1 h2
  exact ⟨h1, h2⟩
/-- Where no reading was made. -/
theorem free_tr {c : Nat} {T lo hi : Int} {a b u v : Nat → Int} (hl : 1 ≤ lo ∧ lo ≤ hi) (ht : c * lo ≤ T ∧ T ≤ c * hi) : Tr c T lo hi 0 a b u v (fun k => max (k * lo) (T - (c - k) * hi)) ∧ Tr c T lo hi 0 a b u v (fun k => min (k * hi) (T - (c - k) * lo)) := by
  have e0 : ∀ x : Int, ((0 : Nat) : Int) * x = 0 := fun x => by simp
  have e1 : ∀ x : Int, ((c : Int) - ((0 : Nat) : Int)) * x = c * x := fun x => by simp
  have e2 : ∀ x : Int, ((c : Int) - (c : Int)) * x = 0 := fun x => by simp
  have s1 : ∀ (k : Nat) (x : Int), ((k + 1 : Nat) : Int) * x = k * x + x := fun k x => by rw [Int.natCast_add, Int.add_mul]; simp
  have s2 : ∀ (k : Nat) (x : Int), ((c : Int) - ((k + 1 : Nat) : Int)) * x = (c - k) * x - x := fun k x => by
    rw [show (c : Int) - ((k + 1 : Nat) : Int) = (c - k) - 1 by omega, Int.sub_mul]
    simp
  refine ⟨⟨?_, ?_, fun k hk => ?_, fun j hj => absurd hj (Nat.not_lt_zero _)⟩, ⟨?_, ?_, fun k hk => ?_, fun j hj => absurd hj (Nat.not_lt_zero _)⟩⟩
  · show max (((0 : Nat) : Int) * lo) (T - (c - ((0 : Nat) : Int)) * hi) = 0
    rw [e0, e1]
    omega
  · show max ((c : Int) * lo) (T - (c - c) * hi) = T
    rw [e2]
    omega
  · show lo ≤ max (((k + 1 : Nat) : Int) * lo) (T - (c - ((k + 1 : Nat) : Int)) * hi) - max (k * lo) (T - (c - k) * hi) ∧ max (((k + 1 : Nat) : Int) * lo) (T - (c - ((k + 1 : Nat) : Int)) * hi) - max (k * lo) (T - (c - k) * hi) ≤ hi
    rw [s1, s2]
    omega
  · show min (((0 : Nat) : Int) * hi) (T - (c - ((0 : Nat) : Int)) * lo) = 0
    rw [e0, e1]
    omega
  · show min ((c : Int) * hi) (T - (c - c) * lo) = T
    rw [e2]
    omega
  · show lo ≤ min (((k + 1 : Nat) : Int) * hi) (T - (c - ((k + 1 : Nat) : Int)) * lo) - min (k * hi) (T - (c - k) * lo) ∧ min (((k + 1 : Nat) : Int) * hi) (T - (c - ((k + 1 : Nat) : Int)) * lo) - min (k * hi) (T - (c - k) * lo) ≤ hi
    rw [s1, s2]
    omega
theorem rdOk0 (c : Nat) (a b u v : Nat → Int) : rdOk c 0 a b u v := fun j hj => absurd hj (Nat.not_lt_zero _)
theorem free_bd {c : Nat} {T lo hi : Int} {a b u v : Nat → Int} (hb : 1 ≤ lo ∧ lo ≤ hi ∧ hi ≤ 200 ∧ 1 ≤ T ∧ T ≤ 2000) (ht : c * lo ≤ T ∧ T ≤ c * hi) : okR c T lo hi 0 a b u v = true ∧ ∀ k, k ≤ c → -(fwM c T lo hi 0 a b u v k 0) = max (k * lo) (T - (c - k) * hi) ∧ fwM c T lo hi 0 a b u v 0 k = min (k * hi) (T - (c - k) * lo) := by
  obtain ⟨t1, t2⟩ := free_tr (a := a) (b := b) (u := u) (v := v) ⟨hb.1, hb.2.1⟩ ht
  have hr := rdOk0 c a b u v
  have ok := ok_of_tr hb hr t1
  refine ⟨ok, fun k hk => ?_⟩
  have b1 := tr_bd hb hr t1 hk
  have b2 := tr_bd hb hr t2 hk
  have l := tr_lo hb hr ok
  have h := tr_hi hb hr ok
  have l1 := step_lo (lo := lo) (h := fun k => -(fwM c T lo hi 0 a b u v k 0)) (c := c) (fun j hj => (l.2.2.1 j hj).1) k hk
  have l2 := step_end (lo := lo) (hi := hi) (h := fun k => -(fwM c T lo hi 0 a b u v k 0)) (c := c) l.2.2.1 k hk
  have h1 := step_hi (hi := hi) (h := fun k => fwM c T lo hi 0 a b u v 0 k) (c := c) (fun j hj => (h.2.2.1 j hj).2) k hk
  have h2 := step_end (lo := lo) (hi := hi) (h := fun k => fwM c T lo hi 0 a b u v 0 k) (c := c) h.2.2.1 k hk
  have l3 := l.2.1
  have h3 := h.2.1
  have l4 := l.1
  have h4 := h.1
  dsimp only at *
  omega
theorem fltB_ok {c T lo hi : Int} {n : Nat} {a b u v : Nat → Int} (h1 : flt c T lo hi n a b u v = 0) (h2 : okB c T lo hi n a b u v = true) : eB c T lo hi n a b u v = 0 := fltB_iff.2 ⟨h1, rfl, h2⟩
theorem flt_ok {c T lo hi : Int} {n : Nat} {a b u v : Nat → Int} (h1 : tubeB c T lo hi = true) (hn : n ≤ 12) (h2 : allI (fun k => rdB c (a k) (b k) (u k) (v k)) n = true) : flt c T lo hi n a b u v = 0 := flt_iff.2 ⟨h1, hn, h2⟩
/-- Volumes that are a truth, and their heights. -/
theorem it_tr {c T lo hi : Int} {n : Nat} {a b u v : Nat → Int} {m : Nat} {f : Nat → Int} (h : flt c T lo hi n a b u v = 0) (hm : (m : Int) = c) : itB c T lo hi n a b u v m f = true ↔ Tr c.toNat T lo hi n a b u v (sumF f) := by
  have hf := flt_iff.1 h
  have hb := tube_bd hf.1
  rw [it_pt h]
  unfold ptB
  rw [decide_eq_true h, Bool.true_and, Bool.and_eq_true, Bool.and_eq_true, cellsB_iff, allI_iff, decide_eq_true_eq, hgA_in (show c.toNat ≤ m by omega)]
  have e0 : ((c.toNat : Nat) : Int) = c := by omega
  have e1 : ∀ k, sumF f (k + 1) - sumF f k = f k := fun k => by
    show sumF f k + f k - sumF f k = f k
    omega
  have key : ∀ j, j < n → (okH c (hgA f m) (a j) (b j) (u j) (v j) = true ↔ sumF f (b j).toNat - sumF f (a j).toNat ≤ v j ∧ (b j < c → u j + 1 ≤ sumF f (b j + 1).toNat - sumF f (a j).toNat)) := by
    intro j hj
    have hr := rdB_v (allI_iff.1 hf.2.2 j hj)
    rw [okH_iff, hgA_in (show (b j).toNat ≤ m by omega), hgA_in (show (a j).toNat ≤ m by omega)]
    by_cases hbc : b j < c
    · rw [hgA_in (show (b j + 1).toNat ≤ m by omega)]
      omega
    · constructor
      · exact fun h => ⟨h.1, fun h1 => absurd h1 hbc⟩
      · exact fun h => ⟨h.1, fun h1 => absurd h1 hbc⟩
  constructor
  · rintro ⟨⟨⟨_, h1⟩, h2⟩, h3⟩
    refine ⟨rfl, h3, fun k hk => ?_, fun j hj => ?_⟩
    · rw [e1]
      exact h1 k (by omega)
    · have := (key j hj).1 (h2 j hj)
      rw [e0]
      exact this
  · rintro ⟨_, h3, h1, h2⟩
    refine ⟨⟨⟨hm, fun j hj => ?_⟩, fun j hj => (key j hj).2 ?_⟩, h3⟩
    · have := h1 j (by omega)
      rw [e1] at this
      exact this
    · have := h2 j hj
      rw [e0] at this
      exact this
theorem trL_sum (c T lo hi : Int) (n : Nat) (w : Nat → Int) : ∀ k, trL c T lo hi n w k = T - sumF (trV c T lo hi n w) k
  | 0 => by simp [trL, sumF]
  | k + 1 => by
    have ih := trL_sum c T lo hi n w k
    show trL c T lo hi n w k - trV c T lo hi n w k = T - (sumF (trV c T lo hi n w) k + trV c T lo hi n w k)
    omega
/-- What is read of a truth. -/
theorem seen_rd {c T lo hi : Int} {m : Nat} {f : Nat → Int} {w : Int} (ht : tubeB c T lo hi = true) (hm : (m : Int) = c) (hf : ∀ j, j < m → lo ≤ f j ∧ f j ≤ hi) (hs : sumF f m = T) (hw : 0 ≤ w ∧ w ≤ 65535) : rdB c (seA c w) (seB c T f w) (seU c T f w) (seV c T f w) = true ∧ sumF f (seB c T f w).toNat - sumF f (seA c w).toNat ≤ seV c T f w ∧ (seB c T f w < c → seU c T f w + 1 ≤ sumF f (seB c T f w + 1).toNat - sumF f (seA c w).toNat) := by
  have hb := tube_bd ht
  have ha := seA_bd (c := c) (w := w) (by omega) hw.1
  have hq := seQ_bd hw
  have mono : ∀ x d, x + d ≤ m → sumF f x ≤ sumF f (x + d) := fun x d h => step_mono (lo := lo) (h := sumF f) (c := m) (by omega) (fun k hk => by have := hf k hk; show lo ≤ sumF f k + f k - sumF f k; omega) x d h
  have hA := mono 0 (seA c w).toNat (by omega)
  have hA2 := mono (seA c w).toNat (m - (seA c w).toNat) (by omega)
  rw [Nat.zero_add] at hA
  rw [show (seA c w).toNat + (m - (seA c w).toNat) = m by omega, hs] at hA2
  have h0 : sumF f 0 = 0 := rfl
  have hp : 0 ≤ (w.tdiv 16).tmod 256 * (T - sumF f (seA c w).toNat + 5) ∧ (w.tdiv 16).tmod 256 * (T - sumF f (seA c w).toNat + 5) ≤ 255 * 2005 := by
    refine ⟨Int.mul_nonneg hq.2.1 (by omega), Int.le_trans (Int.mul_le_mul_of_nonneg_right (show (w.tdiv 16).tmod 256 ≤ 255 by omega) (show 0 ≤ T - sumF f (seA c w).toNat + 5 by omega)) (Int.mul_le_mul_of_nonneg_left (by omega) (by omega))⟩
  have hT : 0 ≤ seT c T f w ∧ seT c T f w ≤ 1997 := by
    unfold seT
    rw [Int.tdiv_eq_ediv_of_nonneg hp.1]
    omega
  have hI := fstI_spec (fun j => !decide (sumF f ((seA c w).toNat + j + 1) - sumF f (seA c w).toNat ≤ seT c T f w)) (c - seA c w).toNat
  have hI0 : seI c T f w = fstI (fun j => !decide (sumF f ((seA c w).toNat + j + 1) - sumF f (seA c w).toNat ≤ seT c T f w)) (c - seA c w).toNat := rfl
  rw [← hI0] at hI
  have hB : seB c T f w = seA c w + seI c T f w := rfl
  have hU : seU c T f w = max 0 (seT c T f w - (w.tdiv 4096).tmod 4) := rfl
  have hV : seV c T f w = min 2000 (seT c T f w + (w.tdiv 8192).tmod 3) := rfl
  have eB : (seB c T f w).toNat = (seA c w).toNat + seI c T f w := by omega
  have hle : seI c T f w ≤ (c - seA c w).toNat := hI.1
  have hmB := mono ((seA c w).toNat + seI c T f w) (m - ((seA c w).toNat + seI c T f w)) (by omega)
  rw [show (seA c w).toNat + seI c T f w + (m - ((seA c w).toNat + seI c T f w)) = m by omega, hs] at hmB
  refine ⟨rdB_of (by omega), ?_, fun hlt => ?_⟩
  · rw [eB]
    rcases Nat.eq_zero_or_pos (seI c T f w) with h | h
    · rw [h, Nat.add_zero]
      omega
    · have h1 := hI.2.1 (seI c T f w - 1) (by omega)
      simp only [Bool.not_eq_false', decide_eq_true_eq] at h1
      rw [show (seA c w).toNat + (seI c T f w - 1) + 1 = (seA c w).toNat + seI c T f w by omega] at h1
      omega
  · have h1 := hI.2.2 (by omega)
    simp only [Bool.not_eq_true', decide_eq_false_iff_not] at h1
    have e2 : (seB c T f w + 1).toNat = (seA c w).toNat + seI c T f w + 1 := by omega
    rw [e2]
    omega

end Go.Proofs.Ytmdeoobmeokmeaa
/- Contracts of functions of the program, by the engine Sx: what each call comes to. Printed by a program of this repo (sxgen.py). -/
set_option linter.unusedSimpArgs false
set_option linter.unusedVariables false
namespace Go.Proofs.Ytmdeoobmeokmeaa
open Go Go.Sx Go.RowKit
theorem HeightsZ_ok0 : True := True.intro
def S_HeightsZ : Sx.Spec := fun l => match l with
  | [.agg [.x (.int .i64 c), .x (.int .i64 T), .x (.int .i64 lo), .x (.int .i64 hi)], .lst 4 n f] => some ([isRec 4 n f], .tup [.lst 2 (lenB c T lo hi n (col 0 f) (col 1 f) (col 2 f) (col 3 f)) (fun k => [i (-(fwB c T lo hi n (col 0 f) (col 1 f) (col 2 f) (col 3 f) k 0)), i (fwB c T lo hi n (col 0 f) (col 1 f) (col 2 f) (col 3 f) 0 k)]), i (eB c T lo hi n (col 0 f) (col 1 f) (col 2 f) (col 3 f))])
  | [.agg [.x (.int .i64 c), .x (.int .i64 T), .x (.int .i64 lo), .x (.int .i64 hi)], .x (.slice none 0 0)] => some ([], .tup [.lst 2 (lenB c T lo hi 0 (fun _ => 0) (fun _ => 0) (fun _ => 0) (fun _ => 0)) (fun k => [i (-(fwB c T lo hi 0 (fun _ => 0) (fun _ => 0) (fun _ => 0) (fun _ => 0) k 0)), i (fwB c T lo hi 0 (fun _ => 0) (fun _ => 0) (fun _ => 0) (fun _ => 0) 0 k)]), i (eB c T lo hi 0 (fun _ => 0) (fun _ => 0) (fun _ => 0) (fun _ => 0))])
  | _ => none

theorem HeightsZ_ok : SoundSpec Try.prog 29 S_HeightsZ := by
  refine ⟨⟨_, Try.func29, by kernel_rfl, by kernel_rfl⟩, ?_⟩
  intro avs ns res h hn
  unfold S_HeightsZ at h
  split at h
  · rename_i c T lo hi n f
    cases h
    have hr0 : isRec 4 n f := hn _ (by simp)
    exact (Heights_at c T lo hi n (col 0 f) (col 1 f) (col 2 f) (col 3 f)).same (.cons (.refl _) (.cons (.lst 4 n _ _ hr0) .nil))
  · rename_i c T lo hi
    cases h
    exact (Heights_at c T lo hi 0 (fun _ => 0) (fun _ => 0) (fun _ => 0) (fun _ => 0)).same (.cons (.refl _) (.cons (.nil 4 _) .nil))
  · cases h


theorem free_all {c T lo hi : Int} {a b u v : Nat → Int} (h : tubeB c T lo hi = true) : eB c T lo hi 0 a b u v = 0 ∧ lenB c T lo hi 0 a b u v = c.toNat + 1 ∧ ∀ k : Nat, (k : Int) ≤ c → -fwB c T lo hi 0 a b u v k 0 = max (k * lo) (T - (c - k) * hi) ∧ fwB c T lo hi 0 a b u v 0 k = min (k * hi) (T - (c - k) * lo) := by
  have hb := tube_bd h
  have e0 : ((c.toNat : Nat) : Int) = c := by omega
  have hf := free_bd (c := c.toNat) (T := T) (lo := lo) (hi := hi) (a := a) (b := b) (u := u) (v := v) hb.2.1 (by rw [e0]; exact hb.2.2)
  have he : eB c T lo hi 0 a b u v = 0 := fltB_ok (flt_ok h (Nat.zero_le _) (allI_iff.2 fun j hj => absurd hj (Nat.not_lt_zero _))) hf.1
  refine ⟨he, if_pos he, fun k hk => ?_⟩
  have h2 := hf.2 k (by omega)
  rw [e0] at h2
  exact h2

noncomputable def E_bf (c T lo hi : Int) : St := (some
  {
    σ :=
      [AV.agg
          [AV.x (Value.int IntKind.i64 c), AV.x (Value.int IntKind.i64 T), AV.x (Value.int IntKind.i64 lo),
            AV.x (Value.int IntKind.i64 hi)],
        AV.ptr (0 : Nat) (0 : Nat), AV.top,
        AV.lst (2 : Nat)
          (lenB c T lo hi (0 : Nat) (fun x => (0 : Int)) (fun x => (0 : Int)) (fun x => (0 : Int)) fun x => (0 : Int))
          fun k =>
          [AV.x
              (Value.int IntKind.i64
                (-fwB c T lo hi (0 : Nat) (fun x => (0 : Int)) (fun x => (0 : Int)) (fun x => (0 : Int))
                    (fun x => (0 : Int)) k (0 : Nat))),
            AV.x
              (Value.int IntKind.i64
                (fwB c T lo hi (0 : Nat) (fun x => (0 : Int)) (fun x => (0 : Int)) (fun x => (0 : Int))
                  (fun x => (0 : Int)) (0 : Nat) k))],
        AV.x
          (Value.int IntKind.i64
            (eB c T lo hi (0 : Nat) (fun x => (0 : Int)) (fun x => (0 : Int)) (fun x => (0 : Int)) fun x => (0 : Int))),
        AV.top, AV.top, AV.top, AV.top, AV.top, AV.top, AV.top, AV.top, AV.top, AV.top, AV.top, AV.top, AV.top, AV.top,
        AV.top, AV.top, AV.top, AV.top, AV.top, AV.top, AV.top, AV.top, AV.top, AV.top, AV.top, AV.top, AV.top, AV.top,
        AV.top, AV.top, AV.top, AV.top, AV.top, AV.top, AV.top, AV.top, AV.top, AV.top, AV.top, AV.top, AV.top, AV.top,
        AV.top, AV.top, AV.top, AV.top, AV.top, AV.top, AV.top, AV.top, AV.top, AV.top, AV.top, AV.top, AV.top, AV.top,
        AV.top, AV.top, AV.top, AV.top, AV.top, AV.top, AV.top, AV.top, AV.top, AV.top, AV.top],
    m :=
      [((0 : Nat),
          Res.cells (25 : Nat)
            [AV.x (Value.int IntKind.i64 c), AV.x (Value.int IntKind.i64 T), AV.x (Value.int IntKind.i64 lo),
              AV.x (Value.int IntKind.i64 hi)])],
    nx := (24 : Nat) } : Option St).getD { σ := [], m := [], nx := 0 }
noncomputable def B_bf : Code := loopBody (loopAt (bodyOf Try.f5) 0)
noncomputable def inv_bf (c T lo hi : Int) (k : Nat) : St := { σ := ovrS [(5, i k)] (E_bf c T lo hi).σ, m := (E_bf c T lo hi).m, nx := (E_bf c T lo hi).nx }
noncomputable def out_bf (c T lo hi : Int) (k : Nat) : AEx → Option St := fun ex => match ex with
  | .exit 0 => some { σ := ovrS [] (E_bf c T lo hi).σ, m := (E_bf c T lo hi).m, nx := (E_bf c T lo hi).nx }
  | _ => none
noncomputable def T_bf (c T lo hi : Int) : CT := .leaf (.exit 0, ( out_bf c T lo hi 0 (.exit 0)).getD (E_bf c T lo hi))
noncomputable def LS_bf (c T lo hi : Int) : LSpec := normSp [] (sumL (inv_bf c T lo hi (0)) (T_bf c T lo hi))
set_option maxRecDepth 100000 in
theorem bf_ls (c T lo hi : Int) (pre0 : tubeB c T lo hi = true) : LSound Try.prog (.loop B_bf) (LS_bf c T lo hi) := by
  refine loop_roundsX [] (E := { R := [], H := [] }) (G := [(31, S_rIsTube), (22, S_lTube), (29, S_HeightsZ), (32, S_between), (20, S_wakes)]) (L := []) (SoundG.cons rIsTube_ok (SoundG.cons lTube_ok (SoundG.cons HeightsZ_ok (SoundG.cons between_ok (SoundG.cons wakes_ok (SoundG.nil _)))))) (SoundX.of (SoundRL.nil _) (SoundHL.nil _)) mixed noLoops (X := Nat) (inv_bf c T lo hi) (fun k => k ≤ c.toNat + 1) (fun k => c.toNat + 1 - k) (out_bf c T lo hi) (x0 := 0) (by simp) ?_ ?_ ?_
  · rintro k
    kernel_rfl
  · rintro k y E h
    unfold out_bf at h
    split at h
    · cases h; kernel_rfl
    · cases h
  · rintro Q hQ k hx
    refine ⟨(k + 1), ?_⟩
    have e : roundX Try.prog [(31, S_rIsTube), (22, S_lTube), (29, S_HeightsZ), (32, S_between), (20, S_wakes)] { R := [], H := [] } [] [] B_bf (inv_bf c T lo hi k) (inv_bf c T lo hi ((k + 1))) (out_bf c T lo hi k) = (Tree.branch (decide ((↑k : Int) ≤ c)) (Tree.need [inI64 (c - (↑k : Int))] (Tree.need [(0 : Int) ≤ (↑k : Int) ∧ (↑k : Int) < (↑(lenB c T lo hi 0 (fun x => (0 : Int)) (fun x => (0 : Int)) (fun x => (0 : Int)) fun x => (0 : Int)) : Int)] (Tree.need [inI64 ((↑k : Int) * lo)] (Tree.need [inI64 ((c - (↑k : Int)) * hi)] (Tree.need [inI64 (T - (c - (↑k : Int)) * hi)] (Tree.need [inI64 ((↑k : Int) * hi)] (Tree.need [inI64 ((c - (↑k : Int)) * lo)] (Tree.need [inI64 (T - (c - (↑k : Int)) * lo)] (Tree.branch (!(-fwB c T lo hi 0 (fun x => (0 : Int)) (fun x => (0 : Int)) (fun x => (0 : Int)) (fun x => (0 : Int)) k 0 == max ((↑k : Int) * lo) (T - (c - (↑k : Int)) * hi) && (fwB c T lo hi 0 (fun x => (0 : Int)) (fun x => (0 : Int)) (fun x => (0 : Int)) (fun x => (0 : Int)) 0 k == min ((↑k : Int) * hi) (T - (c - (↑k : Int)) * lo) && true))) Tree.fail (Tree.need [inI64 ((↑k : Int) + (1 : Int))] (Tree.need [AV.agg [iI c, iI T, iI lo, iI hi] = AV.agg [iI c, iI T, iI lo, iI hi], AV.ptr 0 0 = AV.ptr 0 0, (AV.lst 2 (lenB c T lo hi 0 (fun x => (0 : Int)) (fun x => (0 : Int)) (fun x => (0 : Int)) fun x => (0 : Int)) fun k => [iI (-fwB c T lo hi 0 (fun x => (0 : Int)) (fun x => (0 : Int)) (fun x => (0 : Int)) (fun x => (0 : Int)) k 0), iI (fwB c T lo hi 0 (fun x => (0 : Int)) (fun x => (0 : Int)) (fun x => (0 : Int)) (fun x => (0 : Int)) 0 k)]) = AV.lst 2 (lenB c T lo hi 0 (fun x => (0 : Int)) (fun x => (0 : Int)) (fun x => (0 : Int)) fun x => (0 : Int)) fun k => [iI (-fwB c T lo hi 0 (fun x => (0 : Int)) (fun x => (0 : Int)) (fun x => (0 : Int)) (fun x => (0 : Int)) k 0), iI (fwB c T lo hi 0 (fun x => (0 : Int)) (fun x => (0 : Int)) (fun x => (0 : Int)) (fun x => (0 : Int)) 0 k)], (eB c T lo hi 0 (fun x => (0 : Int)) (fun x => (0 : Int)) (fun x => (0 : Int)) fun x => (0 : Int)) = eB c T lo hi 0 (fun x => (0 : Int)) (fun x => (0 : Int)) (fun x => (0 : Int)) fun x => (0 : Int), (↑k : Int) + (1 : Int) = (↑(k + 1) : Int), c = c, T = T, lo = lo, hi = hi] (Tree.leaf AEx.normal)))))))))))) (Tree.need [AV.agg [iI c, iI T, iI lo, iI hi] = AV.agg [iI c, iI T, iI lo, iI hi], AV.ptr 0 0 = AV.ptr 0 0, (AV.lst 2 (lenB c T lo hi 0 (fun x => (0 : Int)) (fun x => (0 : Int)) (fun x => (0 : Int)) fun x => (0 : Int)) fun k => [iI (-fwB c T lo hi 0 (fun x => (0 : Int)) (fun x => (0 : Int)) (fun x => (0 : Int)) (fun x => (0 : Int)) k 0), iI (fwB c T lo hi 0 (fun x => (0 : Int)) (fun x => (0 : Int)) (fun x => (0 : Int)) (fun x => (0 : Int)) 0 k)]) = AV.lst 2 (lenB c T lo hi 0 (fun x => (0 : Int)) (fun x => (0 : Int)) (fun x => (0 : Int)) fun x => (0 : Int)) fun k => [iI (-fwB c T lo hi 0 (fun x => (0 : Int)) (fun x => (0 : Int)) (fun x => (0 : Int)) (fun x => (0 : Int)) k 0), iI (fwB c T lo hi 0 (fun x => (0 : Int)) (fun x => (0 : Int)) (fun x => (0 : Int)) (fun x => (0 : Int)) 0 k)], (eB c T lo hi 0 (fun x => (0 : Int)) (fun x => (0 : Int)) (fun x => (0 : Int)) fun x => (0 : Int)) = eB c T lo hi 0 (fun x => (0 : Int)) (fun x => (0 : Int)) (fun x => (0 : Int)) fun x => (0 : Int), c = c, T = T, lo = lo, hi = hi] (Tree.leaf (AEx.exit 0)))) := by kernel_rfl
    rw [e]
    simp only [T_bf, out_bf, Tree.sat, Option.getD_some] at hQ
    have hb := tube_bd pre0
    have hf := free_all (a := fun _ => 0) (b := fun _ => 0) (u := fun _ => 0) (v := fun _ => 0) pre0
    have hl := hf.2.1
    have m1 := mul_bd (x := k) (y := lo) (X := 11) (Y := 200) (by omega) (by omega)
    have m2 := mul_bd (x := k) (y := hi) (X := 11) (Y := 200) (by omega) (by omega)
    have m3 := mul_bd (x := c - k) (y := lo) (X := 11) (Y := 200) (by omega) (by omega)
    have m4 := mul_bd (x := c - k) (y := hi) (X := 11) (Y := 200) (by omega) (by omega)
    simp only [Tree.sat, allP, fitP, fitL, valEq, inI64, true_and, and_true, decide_eq_true_eq, decide_eq_false_iff_not, out_bf, hl, Bool.not_eq_true', Bool.not_eq_false', Bool.and_true, Bool.and_eq_true, Bool.and_eq_false_iff, beq_iff_eq, beq_eq_false_iff_ne, ne_eq]
    clear e
    refine ⟨fun h => ?_, fun h => ?_⟩
    · have hk := hf.2.2 k (by omega)
      rw [hk.1, hk.2]
      (repeat' first | with_reducible apply And.intro | with_reducible intro _)
      all_goals first | exact True.intro | omega | with_reducible rfl | rfl | (rename_i h; exact h.elim (fun h => h rfl) (fun h => h rfl)) | assumption
    · (repeat' first | with_reducible apply And.intro | with_reducible intro _)
      all_goals first | exact True.intro | omega | with_reducible rfl | rfl | (rename_i E hE; cases hE; exact hQ)

set_option maxRecDepth 100000 in
theorem BoreFree_at (c T lo hi : Int) : SoundAt Try.prog 5 [.agg [i c, i T, i lo, i hi]] (bl true) := by
  refine soundAt_finX (G := [(31, S_rIsTube), (22, S_lTube), (29, S_HeightsZ), (32, S_between), (20, S_wakes)]) (X := { R := [], H := [] }) (L := [needSp [tubeB c T lo hi = true] (LS_bf c T lo hi)]) (SoundG.cons rIsTube_ok (SoundG.cons lTube_ok (SoundG.cons HeightsZ_ok (SoundG.cons between_ok (SoundG.cons wakes_ok (SoundG.nil _)))))) (SoundX.of (SoundRL.nil _) (SoundHL.nil _)) mixed Try.func5 (show Try.f5.body = some (bodyOf Try.f5) by kernel_rfl) (one_loop (fun cj hcj => by
    have e : loopAt (bodyOf Try.f5) 0 = some (.loop B_bf) := by kernel_rfl
    rw [e] at hcj; cases hcj
    exact (needSp_sound (ps := [tubeB c T lo hi = true]) (fun h => bf_ls c T lo hi h)).N)) (t := (Tree.branch (!tubeB c T lo hi) (Tree.leaf (RV.x (Value.bool true))) (Tree.branch ((eB c T lo hi 0 (fun x => (0 : Int)) (fun x => (0 : Int)) (fun x => (0 : Int)) fun x => (0 : Int)) != (0 : Int)) (Tree.leaf (RV.x (Value.bool false))) (Tree.need [inI64 (c + (1 : Int))] (Tree.branch ((↑(lenB c T lo hi 0 (fun x => (0 : Int)) (fun x => (0 : Int)) (fun x => (0 : Int)) fun x => (0 : Int)) : Int) != c + (1 : Int)) (Tree.leaf (RV.x (Value.bool false))) (Tree.need [tubeB c T lo hi = true] (Tree.need [AV.agg [iI c, iI T, iI lo, iI hi] = AV.agg [iI c, iI T, iI lo, iI hi], AV.ptr 0 0 = AV.ptr 0 0, (AV.lst 2 (lenB c T lo hi 0 (fun x => (0 : Int)) (fun x => (0 : Int)) (fun x => (0 : Int)) fun x => (0 : Int)) fun k => [iI (-fwB c T lo hi 0 (fun x => (0 : Int)) (fun x => (0 : Int)) (fun x => (0 : Int)) (fun x => (0 : Int)) k 0), iI (fwB c T lo hi 0 (fun x => (0 : Int)) (fun x => (0 : Int)) (fun x => (0 : Int)) (fun x => (0 : Int)) 0 k)]) = AV.lst 2 (lenB c T lo hi 0 (fun x => (0 : Int)) (fun x => (0 : Int)) (fun x => (0 : Int)) fun x => (0 : Int)) fun k => [iI (-fwB c T lo hi 0 (fun x => (0 : Int)) (fun x => (0 : Int)) (fun x => (0 : Int)) (fun x => (0 : Int)) k 0), iI (fwB c T lo hi 0 (fun x => (0 : Int)) (fun x => (0 : Int)) (fun x => (0 : Int)) (fun x => (0 : Int)) 0 k)], (eB c T lo hi 0 (fun x => (0 : Int)) (fun x => (0 : Int)) (fun x => (0 : Int)) fun x => (0 : Int)) = eB c T lo hi 0 (fun x => (0 : Int)) (fun x => (0 : Int)) (fun x => (0 : Int)) fun x => (0 : Int), (0 : Int) = (↑(0 : Nat) : Int), c = c, T = T, lo = lo, hi = hi] (Tree.leaf (RV.x (Value.bool true)))))))))) (by kernel_rfl) ?_
  simp only [Tree.sat, allP, fitP, fitL, valEq, inI64, true_and, and_true, decide_eq_true_eq, decide_eq_false_iff_not, Bool.not_eq_true', Bool.not_eq_false', bne_iff_ne, ne_eq, bne_eq_false_iff_eq, beq_iff_eq, beq_eq_false_iff_ne, c40, c41, c42, c43, c10]
  have hf := fun h => free_all (c := c) (T := T) (lo := lo) (hi := hi) (a := fun _ => 0) (b := fun _ => 0) (u := fun _ => 0) (v := fun _ => 0) h
  have hb := fun h => tube_bd (c := c) (T := T) (lo := lo) (hi := hi) h
  (repeat' first | with_reducible apply And.intro | with_reducible intro _)
  all_goals first | exact True.intro | with_reducible rfl | omega | exact isRec4 _ _ _ _ _ | exact isRec1 _ _ | assumption | (simp_all; done) | (simp_all; omega)

end Go.Proofs.Ytmdeoobmeokmeaa
/- Contracts of functions of the program, by the engine Sx: what each call comes to. Printed by a program of this repo (sxgen.py). -/
set_option linter.unusedSimpArgs false
set_option linter.unusedVariables false
namespace Go.Proofs.Ytmdeoobmeokmeaa
open Go Go.Sx Go.RowKit

/-- A truth by words, and what is read of it by words. -/
abbrev tF (c T lo hi : Int) (n : Nat) (w : Nat → Int) : Nat → Int := fun k => trV c T lo hi n w k
abbrev zA (c : Int) (z : Nat → Int) : Nat → Int := fun k => seA c (z k)
abbrev zB (c T lo hi : Int) (n : Nat) (w z : Nat → Int) : Nat → Int := fun k => seB c T (tF c T lo hi n w) (z k)
abbrev zU (c T lo hi : Int) (n : Nat) (w z : Nat → Int) : Nat → Int := fun k => seU c T (tF c T lo hi n w) (z k)
abbrev zV (c T lo hi : Int) (n : Nat) (w z : Nat → Int) : Nat → Int := fun k => seV c T (tF c T lo hi n w) (z k)


theorem tF_bd {c T lo hi : Int} {n : Nat} {w : Nat → Int} (h : tubeB c T lo hi = true) (hw : wOk n w) : (∀ j, j < c.toNat → lo ≤ tF c T lo hi n w j ∧ tF c T lo hi n w j ≤ hi) ∧ sumF (tF c T lo hi n w) c.toNat = T := by
  have hb := tube_bd h
  have hl := trL_bd (n := n) ⟨hb.2.1.1, hb.2.1.2.1⟩ hb.2.2 hw c.toNat (by omega)
  rw [trL_sum, show c - ((c.toNat : Nat) : Int) = 0 by omega, Int.zero_mul, Int.zero_mul] at hl
  refine ⟨fun j hj => ?_, ?_⟩
  · have := trV_bd (T := T) (n := n) ⟨hb.2.1.1, hb.2.1.2.1⟩ hb.2.2 hw j (by omega)
    exact ⟨this.1, this.2.1⟩
  · have : sumF (trV c T lo hi n w) c.toNat = T := by omega
    exact this
theorem seen_all {c T lo hi : Int} {n : Nat} {w : Nat → Int} {m : Nat} {z : Nat → Int} (h : tubeB c T lo hi = true) (hw : wOk n w) (hz : wOk m z) : flt c T lo hi (min m 12) (zA c z) (zB c T lo hi n w z) (zU c T lo hi n w z) (zV c T lo hi n w z) = 0 ∧ Tr c.toNat T lo hi (min m 12) (zA c z) (zB c T lo hi n w z) (zU c T lo hi n w z) (zV c T lo hi n w z) (sumF (tF c T lo hi n w)) ∧ okB c T lo hi (min m 12) (zA c z) (zB c T lo hi n w z) (zU c T lo hi n w z) (zV c T lo hi n w z) = true ∧ eB c T lo hi (min m 12) (zA c z) (zB c T lo hi n w z) (zU c T lo hi n w z) (zV c T lo hi n w z) = 0 ∧ lenB c T lo hi (min m 12) (zA c z) (zB c T lo hi n w z) (zU c T lo hi n w z) (zV c T lo hi n w z) = c.toNat + 1 := by
  have hb := tube_bd h
  have hf := tF_bd (n := n) h hw
  have hs := fun k (hk : k < min m 12) => seen_rd (w := z k) h (show ((c.toNat : Nat) : Int) = c by omega) hf.1 hf.2 (hz k (by omega))
  have h1 : flt c T lo hi (min m 12) (zA c z) (zB c T lo hi n w z) (zU c T lo hi n w z) (zV c T lo hi n w z) = 0 := flt_ok h (Nat.min_le_right _ _) (allI_iff.2 fun k hk => (hs k hk).1)
  have hr := rdOk_of hb.1 (flt_iff.1 h1).2.2
  have e0 : ((c.toNat : Nat) : Int) = c := by omega
  have ht : Tr c.toNat T lo hi (min m 12) (zA c z) (zB c T lo hi n w z) (zU c T lo hi n w z) (zV c T lo hi n w z) (sumF (tF c T lo hi n w)) := by
    refine ⟨rfl, hf.2, fun k hk => ?_, fun j hj => ?_⟩
    · have := hf.1 k hk
      have e : sumF (tF c T lo hi n w) (k + 1) = sumF (tF c T lo hi n w) k + tF c T lo hi n w k := rfl
      rw [e]
      omega
    · have := (hs j hj).2
      rw [e0]
      exact ⟨this.1, this.2⟩
  have hok : okB c T lo hi (min m 12) (zA c z) (zB c T lo hi n w z) (zU c T lo hi n w z) (zV c T lo hi n w z) = true := ok_of_tr hb.2.1 hr ht
  have he := fltB_ok h1 hok
  exact ⟨h1, ht, hok, he, if_pos he⟩
theorem sh_sum {c T lo hi : Int} {n : Nat} {a b u v : Nat → Int} (h : okB c T lo hi n a b u v = true) : (sumF (shV c T lo hi n a b u v true) = fun k => fwM c.toNat T lo hi n a b u v 0 k) ∧ sumF (shV c T lo hi n a b u v false) = fun k => -(fwM c.toNat T lo hi n a b u v k 0) := by
  have h0 : fwM c.toNat T lo hi n a b u v 0 0 = 0 := fw_00 h
  constructor
  · funext k
    induction k with
    | zero => exact h0.symm
    | succ k ih =>
      show sumF _ k + (fwB c T lo hi n a b u v 0 (k + 1) - fwB c T lo hi n a b u v 0 k) = _
      rw [ih]
      show fwM c.toNat T lo hi n a b u v 0 k + (fwM c.toNat T lo hi n a b u v 0 (k + 1) - fwM c.toNat T lo hi n a b u v 0 k) = _
      omega
  · funext k
    induction k with
    | zero => rw [h0]; rfl
    | succ k ih =>
      show sumF _ k + (-(fwB c T lo hi n a b u v (k + 1) 0) - -(fwB c T lo hi n a b u v k 0)) = _
      rw [ih]
      show -(fwM c.toNat T lo hi n a b u v k 0) + (-(fwM c.toNat T lo hi n a b u v (k + 1) 0) - -(fwM c.toNat T lo hi n a b u v k 0)) = _
      omega
theorem sh_it {c T lo hi : Int} {n : Nat} {a b u v : Nat → Int} (h1 : flt c T lo hi n a b u v = 0) (h2 : okB c T lo hi n a b u v = true) (r : Bool) : Tr c.toNat T lo hi n a b u v (sumF (shV c T lo hi n a b u v r)) ∧ itB c T lo hi n a b u v c.toNat (shV c T lo hi n a b u v r) = true ∧ ∀ k, k < c.toNat → lo ≤ shV c T lo hi n a b u v r k ∧ shV c T lo hi n a b u v r k ≤ hi := by
  have hf := flt_iff.1 h1
  have hb := tube_bd hf.1
  have hr := rdOk_of hb.1 hf.2.2
  have hs := sh_sum h2
  have ht : Tr c.toNat T lo hi n a b u v (sumF (shV c T lo hi n a b u v r)) := by
    cases r with
    | true => rw [hs.1]; exact tr_hi hb.2.1 hr h2
    | false => rw [hs.2]; exact tr_lo hb.2.1 hr h2
  refine ⟨ht, (it_tr h1 (by omega)).2 ht, fun k hk => ?_⟩
  have := ht.2.2.1 k hk
  have e : sumF (shV c T lo hi n a b u v r) (k + 1) = sumF (shV c T lo hi n a b u v r) k + shV c T lo hi n a b u v r k := rfl
  rw [e] at this
  omega
theorem shE_ok {c T lo hi : Int} {n : Nat} {a b u v : Nat → Int} {k : Int} (h1 : flt c T lo hi n a b u v = 0) (h2 : okB c T lo hi n a b u v = true) (hk : 0 ≤ k ∧ k ≤ c) : shE c T lo hi n a b u v k = 0 ∧ shL c T lo hi n a b u v k = c.toNat := by
  have he : shE c T lo hi n a b u v k = 0 := fltB_iff.2 ⟨h1, (bt_iff _ _ _).2 hk, h2⟩
  exact ⟨he, if_pos he⟩

theorem wAt1 (x : Int) (k : IntKind) : wAt [AV.x (.int k x)] = x := rfl
noncomputable def E_ed (c T lo hi : Int) (n : Nat) (w : Nat → Int) (m : Nat) (z : Nat → Int) (q : Nat) (a b u v : Nat → Int) : St := (some
  {
    σ :=
      [AV.agg
          [AV.x (Value.int IntKind.i64 c), AV.x (Value.int IntKind.i64 T), AV.x (Value.int IntKind.i64 lo),
            AV.x (Value.int IntKind.i64 hi)],
        AV.lst (1 : Nat) n fun k => [AV.x (Value.int IntKind.u16 (w k))],
        AV.lst (1 : Nat) m fun k => [AV.x (Value.int IntKind.u16 (z k))], AV.ptr (0 : Nat) (0 : Nat), AV.top, AV.top,
        AV.top,
        AV.lst (4 : Nat) (min m (12 : Nat)) fun k =>
          [AV.x (Value.int IntKind.i64 (seA c (wAt [AV.x (Value.int IntKind.u16 (z k))]))),
            AV.x
              (Value.int IntKind.i64
                (seB c T (trV c T lo hi n fun j => wAt [AV.x (Value.int IntKind.u16 (w j))])
                  (wAt [AV.x (Value.int IntKind.u16 (z k))]))),
            AV.x
              (Value.int IntKind.i64
                (seU c T (trV c T lo hi n fun j => wAt [AV.x (Value.int IntKind.u16 (w j))])
                  (wAt [AV.x (Value.int IntKind.u16 (z k))]))),
            AV.x
              (Value.int IntKind.i64
                (seV c T (trV c T lo hi n fun j => wAt [AV.x (Value.int IntKind.u16 (w j))])
                  (wAt [AV.x (Value.int IntKind.u16 (z k))])))],
        AV.lst (2 : Nat)
          (lenB c T lo hi (min m (12 : Nat)) (fun k => seA c (wAt [AV.x (Value.int IntKind.u16 (z k))]))
            (fun k =>
              seB c T (trV c T lo hi n fun j => wAt [AV.x (Value.int IntKind.u16 (w j))])
                (wAt [AV.x (Value.int IntKind.u16 (z k))]))
            (fun k =>
              seU c T (trV c T lo hi n fun j => wAt [AV.x (Value.int IntKind.u16 (w j))])
                (wAt [AV.x (Value.int IntKind.u16 (z k))]))
            fun k =>
            seV c T (trV c T lo hi n fun j => wAt [AV.x (Value.int IntKind.u16 (w j))])
              (wAt [AV.x (Value.int IntKind.u16 (z k))]))
          fun k =>
          [AV.x
              (Value.int IntKind.i64
                (-fwB c T lo hi (min m (12 : Nat)) (fun k => seA c (wAt [AV.x (Value.int IntKind.u16 (z k))]))
                    (fun k =>
                      seB c T (trV c T lo hi n fun j => wAt [AV.x (Value.int IntKind.u16 (w j))])
                        (wAt [AV.x (Value.int IntKind.u16 (z k))]))
                    (fun k =>
                      seU c T (trV c T lo hi n fun j => wAt [AV.x (Value.int IntKind.u16 (w j))])
                        (wAt [AV.x (Value.int IntKind.u16 (z k))]))
                    (fun k =>
                      seV c T (trV c T lo hi n fun j => wAt [AV.x (Value.int IntKind.u16 (w j))])
                        (wAt [AV.x (Value.int IntKind.u16 (z k))]))
                    k (0 : Nat))),
            AV.x
              (Value.int IntKind.i64
                (fwB c T lo hi (min m (12 : Nat)) (fun k => seA c (wAt [AV.x (Value.int IntKind.u16 (z k))]))
                  (fun k =>
                    seB c T (trV c T lo hi n fun j => wAt [AV.x (Value.int IntKind.u16 (w j))])
                      (wAt [AV.x (Value.int IntKind.u16 (z k))]))
                  (fun k =>
                    seU c T (trV c T lo hi n fun j => wAt [AV.x (Value.int IntKind.u16 (w j))])
                      (wAt [AV.x (Value.int IntKind.u16 (z k))]))
                  (fun k =>
                    seV c T (trV c T lo hi n fun j => wAt [AV.x (Value.int IntKind.u16 (w j))])
                      (wAt [AV.x (Value.int IntKind.u16 (z k))]))
                  (0 : Nat) k))],
        AV.x
          (Value.int IntKind.i64
            (eB c T lo hi (min m (12 : Nat)) (fun k => seA c (wAt [AV.x (Value.int IntKind.u16 (z k))]))
              (fun k =>
                seB c T (trV c T lo hi n fun j => wAt [AV.x (Value.int IntKind.u16 (w j))])
                  (wAt [AV.x (Value.int IntKind.u16 (z k))]))
              (fun k =>
                seU c T (trV c T lo hi n fun j => wAt [AV.x (Value.int IntKind.u16 (w j))])
                  (wAt [AV.x (Value.int IntKind.u16 (z k))]))
              fun k =>
              seV c T (trV c T lo hi n fun j => wAt [AV.x (Value.int IntKind.u16 (w j))])
                (wAt [AV.x (Value.int IntKind.u16 (z k))]))),
        AV.top, AV.top, AV.top, AV.top, AV.top, AV.top, AV.top, AV.top, AV.top, AV.top, AV.top, AV.top, AV.top, AV.top,
        AV.top, AV.top, AV.top, AV.top, AV.top, AV.top, AV.top, AV.top, AV.top, AV.top, AV.top, AV.top, AV.top, AV.top,
        AV.top, AV.top, AV.top, AV.top, AV.top, AV.top, AV.top, AV.top, AV.top, AV.top, AV.top, AV.top, AV.top, AV.top,
        AV.top, AV.top, AV.top, AV.top, AV.top, AV.top, AV.top, AV.top, AV.top, AV.top, AV.top, AV.top, AV.top, AV.top,
        AV.top, AV.top, AV.top, AV.top, AV.top, AV.top, AV.top, AV.top, AV.top, AV.top, AV.top, AV.top, AV.top, AV.top,
        AV.top, AV.top, AV.top, AV.top, AV.top, AV.top, AV.top, AV.top, AV.top, AV.top, AV.top, AV.top, AV.top, AV.top,
        AV.top, AV.top, AV.top, AV.top, AV.top, AV.top, AV.top, AV.top, AV.top, AV.top, AV.top, AV.top, AV.top, AV.top,
        AV.top, AV.top],
    m :=
      [((0 : Nat),
          Res.cells (25 : Nat)
            [AV.x (Value.int IntKind.i64 c), AV.x (Value.int IntKind.i64 T), AV.x (Value.int IntKind.i64 lo),
              AV.x (Value.int IntKind.i64 hi)])],
    nx := (33 : Nat) } : Option St).getD { σ := [], m := [], nx := 0 }
noncomputable def B_ed : Code := loopBody (loopAt (bodyOf Try.f10) 0)
noncomputable def inv_ed (c T lo hi : Int) (n : Nat) (w : Nat → Int) (m : Nat) (z : Nat → Int) (q : Nat) (a b u v : Nat → Int) (k : Nat) : St := { σ := ovrS [(7, rds q a b u v), (8, .lst 2 (lenB c T lo hi q a b u v) (fun k => [i (-(fwB c T lo hi q a b u v k 0)), i (fwB c T lo hi q a b u v 0 k)])), (9, i (eB c T lo hi q a b u v)), (10, i k)] (E_ed c T lo hi n w m z q a b u v).σ, m := (E_ed c T lo hi n w m z q a b u v).m, nx := (E_ed c T lo hi n w m z q a b u v).nx }
noncomputable def out_ed (c T lo hi : Int) (n : Nat) (w : Nat → Int) (m : Nat) (z : Nat → Int) (q : Nat) (a b u v : Nat → Int) (k : Nat) : AEx → Option St := fun ex => match ex with
  | .exit 0 => some { σ := ovrS [(7, rds q a b u v), (8, .lst 2 (lenB c T lo hi q a b u v) (fun k => [i (-(fwB c T lo hi q a b u v k 0)), i (fwB c T lo hi q a b u v 0 k)])), (9, i (eB c T lo hi q a b u v))] (E_ed c T lo hi n w m z q a b u v).σ, m := (E_ed c T lo hi n w m z q a b u v).m, nx := (E_ed c T lo hi n w m z q a b u v).nx }
  | _ => none
noncomputable def T_ed (c T lo hi : Int) (n : Nat) (w : Nat → Int) (m : Nat) (z : Nat → Int) (q : Nat) (a b u v : Nat → Int) : CT := .leaf (.exit 0, ( out_ed c T lo hi n w m z q a b u v 0 (.exit 0)).getD (E_ed c T lo hi n w m z q a b u v))
noncomputable def LS_ed (c T lo hi : Int) (n : Nat) (w : Nat → Int) (m : Nat) (z : Nat → Int) (q : Nat) (a b u v : Nat → Int) : LSpec := normSp [] (sumL (inv_ed c T lo hi n w m z q a b u v (0)) (T_ed c T lo hi n w m z q a b u v))
set_option maxRecDepth 100000 in
theorem ed_ls (c T lo hi : Int) (n : Nat) (w : Nat → Int) (m : Nat) (z : Nat → Int) (q : Nat) (a b u v : Nat → Int) (pre0 : flt c T lo hi q a b u v = 0) (pre1 : okB c T lo hi q a b u v = true) : LSound Try.prog (.loop B_ed) (LS_ed c T lo hi n w m z q a b u v) := by
  refine loop_roundsX [] (E := { R := [], H := [] }) (G := [(31, S_rIsTube), (20, S_wakes), (34, S_Truly), (33, S_Seen), (22, S_lTube), (23, S_lReadings), (29, S_Heights), (41, S_Shows), (43, S_rIsTruth), (40, S_rHeight)]) (L := []) (SoundG.cons rIsTube_ok (SoundG.cons wakes_ok (SoundG.cons Truly_ok (SoundG.cons Seen_ok (SoundG.cons lTube_ok (SoundG.cons lReadings_ok (SoundG.cons Heights_ok (SoundG.cons Shows_ok (SoundG.cons rIsTruth_ok (SoundG.cons rHeight_ok (SoundG.nil _))))))))))) (SoundX.of (SoundRL.nil _) (SoundHL.nil _)) mixed noLoops (X := Nat) (inv_ed c T lo hi n w m z q a b u v) (fun k => k ≤ c.toNat + 1) (fun k => c.toNat + 1 - k) (out_ed c T lo hi n w m z q a b u v) (x0 := 0) (by simp) ?_ ?_ ?_
  · rintro k
    kernel_rfl
  · rintro k y E h
    unfold out_ed at h
    split at h
    · cases h; kernel_rfl
    · cases h
  · rintro Q hQ k hx
    refine ⟨(k + 1), ?_⟩
    have e : roundX Try.prog [(31, S_rIsTube), (20, S_wakes), (34, S_Truly), (33, S_Seen), (22, S_lTube), (23, S_lReadings), (29, S_Heights), (41, S_Shows), (43, S_rIsTruth), (40, S_rHeight)] { R := [], H := [] } [] [] B_ed (inv_ed c T lo hi n w m z q a b u v k) (inv_ed c T lo hi n w m z q a b u v ((k + 1))) (out_ed c T lo hi n w m z q a b u v k) = (Tree.branch (decide ((↑k : Int) ≤ c)) (Tree.need [isRec 4 q fun k => [i (a k), i (b k), i (u k), i (v k)], q ≤ 100000] (Tree.need [isRec 4 q fun k => [i (a k), i (b k), i (u k), i (v k)]] (Tree.need [isRec 4 q fun k => [i (a k), i (b k), i (u k), i (v k)], q ≤ 100000] (Tree.need [isRec 4 q fun k => [i (a k), i (b k), i (u k), i (v k)]] (Tree.branch (shE c T lo hi q a b u v (↑k : Int) != (0 : Int)) Tree.fail (Tree.branch (shE c T lo hi q a b u v (↑k : Int) != (0 : Int)) Tree.fail (Tree.need [isRec 4 q fun k => [i (a k), i (b k), i (u k), i (v k)], isRec 1 (shL c T lo hi q a b u v (↑k : Int)) fun k => [i (shV c T lo hi q a b u v false k)], shL c T lo hi q a b u v (↑k : Int) ≤ 100000, flt c T lo hi q a b u v = (0 : Int)] (Tree.branch (!itB c T lo hi q a b u v (shL c T lo hi q a b u v (↑k : Int)) (shV c T lo hi q a b u v false)) Tree.fail (Tree.need [isRec 4 q fun k => [i (a k), i (b k), i (u k), i (v k)], isRec 1 (shL c T lo hi q a b u v (↑k : Int)) fun k => [i (shV c T lo hi q a b u v true k)], shL c T lo hi q a b u v (↑k : Int) ≤ 100000, flt c T lo hi q a b u v = (0 : Int)] (Tree.branch (!itB c T lo hi q a b u v (shL c T lo hi q a b u v (↑k : Int)) (shV c T lo hi q a b u v true)) Tree.fail (Tree.need [isRec 1 (shL c T lo hi q a b u v (↑k : Int)) fun k => [i (shV c T lo hi q a b u v false k)], (↑k : Int) ≤ (↑(shL c T lo hi q a b u v (↑k : Int)) : Int), shL c T lo hi q a b u v (↑k : Int) ≤ 100, ∀ (k_1 : Nat), k_1 < shL c T lo hi q a b u v (↑k : Int) → (-1000000 : Int) ≤ shV c T lo hi q a b u v false k_1 ∧ shV c T lo hi q a b u v false k_1 ≤ (1000000 : Int)] (Tree.need [(0 : Int) ≤ (↑k : Int) ∧ (↑k : Int) < (↑(lenB c T lo hi q a b u v) : Int)] (Tree.branch (sumF (shV c T lo hi q a b u v false) k != -fwB c T lo hi q a b u v k 0) Tree.fail (Tree.need [isRec 1 (shL c T lo hi q a b u v (↑k : Int)) fun k => [i (shV c T lo hi q a b u v true k)], (↑k : Int) ≤ (↑(shL c T lo hi q a b u v (↑k : Int)) : Int), shL c T lo hi q a b u v (↑k : Int) ≤ 100, ∀ (k_1 : Nat), k_1 < shL c T lo hi q a b u v (↑k : Int) → (-1000000 : Int) ≤ shV c T lo hi q a b u v true k_1 ∧ shV c T lo hi q a b u v true k_1 ≤ (1000000 : Int)] (Tree.need [(0 : Int) ≤ (↑k : Int) ∧ (↑k : Int) < (↑(lenB c T lo hi q a b u v) : Int)] (Tree.branch (sumF (shV c T lo hi q a b u v true) k != fwB c T lo hi q a b u v 0 k) Tree.fail (Tree.need [inI64 ((↑k : Int) + (1 : Int))] (Tree.need [AV.agg [iI c, iI T, iI lo, iI hi] = AV.agg [iI c, iI T, iI lo, iI hi], (AV.lst 1 n fun k => [AV.x (Value.int IntKind.u16 (w k))]) = AV.lst 1 n fun k => [AV.x (Value.int IntKind.u16 (w k))], (AV.lst 1 m fun k => [AV.x (Value.int IntKind.u16 (z k))]) = AV.lst 1 m fun k => [AV.x (Value.int IntKind.u16 (z k))], AV.ptr 0 0 = AV.ptr 0 0, (AV.lst 4 q fun k => [iI (a k), iI (b k), iI (u k), iI (v k)]) = AV.lst 4 q fun k => [iI (a k), iI (b k), iI (u k), iI (v k)], (AV.lst 2 (lenB c T lo hi q a b u v) fun k => [iI (-fwB c T lo hi q a b u v k 0), iI (fwB c T lo hi q a b u v 0 k)]) = AV.lst 2 (lenB c T lo hi q a b u v) fun k => [iI (-fwB c T lo hi q a b u v k 0), iI (fwB c T lo hi q a b u v 0 k)], eB c T lo hi q a b u v = eB c T lo hi q a b u v, (↑k : Int) + (1 : Int) = (↑(k + 1) : Int), c = c, T = T, lo = lo, hi = hi] (Tree.leaf AEx.normal))))))))))))))))))) (Tree.need [AV.agg [iI c, iI T, iI lo, iI hi] = AV.agg [iI c, iI T, iI lo, iI hi], (AV.lst 1 n fun k => [AV.x (Value.int IntKind.u16 (w k))]) = AV.lst 1 n fun k => [AV.x (Value.int IntKind.u16 (w k))], (AV.lst 1 m fun k => [AV.x (Value.int IntKind.u16 (z k))]) = AV.lst 1 m fun k => [AV.x (Value.int IntKind.u16 (z k))], AV.ptr 0 0 = AV.ptr 0 0, (AV.lst 4 q fun k => [iI (a k), iI (b k), iI (u k), iI (v k)]) = AV.lst 4 q fun k => [iI (a k), iI (b k), iI (u k), iI (v k)], (AV.lst 2 (lenB c T lo hi q a b u v) fun k => [iI (-fwB c T lo hi q a b u v k 0), iI (fwB c T lo hi q a b u v 0 k)]) = AV.lst 2 (lenB c T lo hi q a b u v) fun k => [iI (-fwB c T lo hi q a b u v k 0), iI (fwB c T lo hi q a b u v 0 k)], eB c T lo hi q a b u v = eB c T lo hi q a b u v, c = c, T = T, lo = lo, hi = hi] (Tree.leaf (AEx.exit 0)))) := by kernel_rfl
    rw [e]
    simp only [T_ed, out_ed, Tree.sat, Option.getD_some] at hQ
    have hf := flt_iff.1 pre0
    have hb := tube_bd hf.1
    have hs := sh_sum pre1
    have hl : lenB c T lo hi q a b u v = c.toNat + 1 := if_pos (fltB_ok pre0 pre1)
    simp only [Tree.sat, allP, fitP, fitL, valEq, inI64, true_and, and_true, decide_eq_true_eq, decide_eq_false_iff_not, out_ed, Bool.not_eq_true', Bool.not_eq_false', bne_iff_ne, ne_eq, bne_eq_false_iff_eq, c40, c41, c42, c43, c10, hs.1, hs.2]
    clear e
    refine ⟨fun h => ?_, fun h => ?_⟩
    · have hE := shE_ok pre0 pre1 (k := k) (by omega)
      have ht := sh_it pre0 pre1 true
      have hg := sh_it pre0 pre1 false
      have kt : ∀ k, k < c.toNat → -1000000 ≤ shV c T lo hi q a b u v true k ∧ shV c T lo hi q a b u v true k ≤ 1000000 := fun k hk => by have := ht.2.2 k hk; omega
      have kg : ∀ k, k < c.toNat → -1000000 ≤ shV c T lo hi q a b u v false k ∧ shV c T lo hi q a b u v false k ≤ 1000000 := fun k hk => by have := hg.2.2 k hk; omega
      simp only [hl, hE.1, hE.2, ht.2.1, hg.2.1]
      (repeat' first | with_reducible apply And.intro | with_reducible intro _)
      all_goals first | exact True.intro | omega | with_reducible rfl | exact isRec4 _ _ _ _ _ | exact isRec1 _ _ | exact pre0 | exact (kt _ (by assumption)).1 | exact (kt _ (by assumption)).2 | exact (kg _ (by assumption)).1 | exact (kg _ (by assumption)).2 | (rename_i h; exact absurd rfl h) | (rename_i h; exact absurd True.intro h) | (rename_i h; cases h; done) | rfl
    · (repeat' first | with_reducible apply And.intro | with_reducible intro _)
      all_goals first | exact True.intro | omega | with_reducible rfl | rfl | (rename_i E hE; cases hE; exact hQ)

set_option maxRecDepth 100000 in
theorem BoreEnds_at (c T lo hi : Int) (n : Nat) (w : Nat → Int) (m : Nat) (z : Nat → Int) (pre0 : n ≤ 10000000000000000000) (pre1 : wOk n w) (pre2 : m ≤ 10000000000000000000) (pre3 : wOk m z) : SoundAt Try.prog 10 [.agg [i c, i T, i lo, i hi], wds n w, wds m z] (bl true) := by
  refine soundAt_finX (G := [(31, S_rIsTube), (20, S_wakes), (34, S_Truly), (33, S_Seen), (22, S_lTube), (23, S_lReadings), (29, S_Heights), (41, S_Shows), (43, S_rIsTruth), (40, S_rHeight)]) (X := { R := [], H := [] }) (L := [needSp [flt c T lo hi (min m 12) (zA c z) (zB c T lo hi n w z) (zU c T lo hi n w z) (zV c T lo hi n w z) = 0, okB c T lo hi (min m 12) (zA c z) (zB c T lo hi n w z) (zU c T lo hi n w z) (zV c T lo hi n w z) = true] (LS_ed c T lo hi n w m z (min m 12) (zA c z) (zB c T lo hi n w z) (zU c T lo hi n w z) (zV c T lo hi n w z))]) (SoundG.cons rIsTube_ok (SoundG.cons wakes_ok (SoundG.cons Truly_ok (SoundG.cons Seen_ok (SoundG.cons lTube_ok (SoundG.cons lReadings_ok (SoundG.cons Heights_ok (SoundG.cons Shows_ok (SoundG.cons rIsTruth_ok (SoundG.cons rHeight_ok (SoundG.nil _))))))))))) (SoundX.of (SoundRL.nil _) (SoundHL.nil _)) mixed Try.func10 (show Try.f10.body = some (bodyOf Try.f10) by kernel_rfl) (one_loop (fun cj hcj => by
    have e : loopAt (bodyOf Try.f10) 0 = some (.loop B_ed) := by kernel_rfl
    rw [e] at hcj; cases hcj
    exact (needSp_sound (ps := [flt c T lo hi (min m 12) (zA c z) (zB c T lo hi n w z) (zU c T lo hi n w z) (zV c T lo hi n w z) = 0, okB c T lo hi (min m 12) (zA c z) (zB c T lo hi n w z) (zU c T lo hi n w z) (zV c T lo hi n w z) = true]) (fun h => ed_ls c T lo hi n w m z (min m 12) (zA c z) (zB c T lo hi n w z) (zU c T lo hi n w z) (zV c T lo hi n w z) h.1 h.2)).N)) (t := (Tree.branch (!tubeB c T lo hi) (Tree.leaf (RV.x (Value.bool true))) (Tree.need [isW n fun k => [AV.x (Value.int IntKind.u16 (w k))], tubeB c T lo hi = true, n ≤ 10000000000000000000, wOk n fun j => wAt [AV.x (Value.int IntKind.u16 (w j))]] (Tree.need [isRec 1 (Int.toNat c) fun k => [i (trV c T lo hi n (fun j => wAt [AV.x (Value.int IntKind.u16 (w j))]) k)], isW m fun k => [AV.x (Value.int IntKind.u16 (z k))], tubeB c T lo hi = true, (↑(Int.toNat c) : Int) = c, ∀ (j : Nat), j < Int.toNat c → lo ≤ trV c T lo hi n (fun j => wAt [AV.x (Value.int IntKind.u16 (w j))]) j ∧ trV c T lo hi n (fun j => wAt [AV.x (Value.int IntKind.u16 (w j))]) j ≤ hi, m ≤ 10000000000000000000, wOk m fun j => wAt [AV.x (Value.int IntKind.u16 (z j))]] (Tree.need [isRec 4 (min m 12) fun k => [i (seA c (wAt [AV.x (Value.int IntKind.u16 (z k))])), i (seB c T (trV c T lo hi n fun j => wAt [AV.x (Value.int IntKind.u16 (w j))]) (wAt [AV.x (Value.int IntKind.u16 (z k))])), i (seU c T (trV c T lo hi n fun j => wAt [AV.x (Value.int IntKind.u16 (w j))]) (wAt [AV.x (Value.int IntKind.u16 (z k))])), i (seV c T (trV c T lo hi n fun j => wAt [AV.x (Value.int IntKind.u16 (w j))]) (wAt [AV.x (Value.int IntKind.u16 (z k))]))], min m 12 ≤ 100000] (Tree.need [isRec 4 (min m 12) fun k => [i (seA c (wAt [AV.x (Value.int IntKind.u16 (z k))])), i (seB c T (trV c T lo hi n fun j => wAt [AV.x (Value.int IntKind.u16 (w j))]) (wAt [AV.x (Value.int IntKind.u16 (z k))])), i (seU c T (trV c T lo hi n fun j => wAt [AV.x (Value.int IntKind.u16 (w j))]) (wAt [AV.x (Value.int IntKind.u16 (z k))])), i (seV c T (trV c T lo hi n fun j => wAt [AV.x (Value.int IntKind.u16 (w j))]) (wAt [AV.x (Value.int IntKind.u16 (z k))]))]] (Tree.branch ((eB c T lo hi (min m 12) (fun k => seA c (wAt [AV.x (Value.int IntKind.u16 (z k))])) (fun k => seB c T (trV c T lo hi n fun j => wAt [AV.x (Value.int IntKind.u16 (w j))]) (wAt [AV.x (Value.int IntKind.u16 (z k))])) (fun k => seU c T (trV c T lo hi n fun j => wAt [AV.x (Value.int IntKind.u16 (w j))]) (wAt [AV.x (Value.int IntKind.u16 (z k))])) fun k => seV c T (trV c T lo hi n fun j => wAt [AV.x (Value.int IntKind.u16 (w j))]) (wAt [AV.x (Value.int IntKind.u16 (z k))])) != (0 : Int)) (Tree.leaf (RV.x (Value.bool false))) (Tree.need [inI64 (c + (1 : Int))] (Tree.branch ((↑(lenB c T lo hi (min m 12) (fun k => seA c (wAt [AV.x (Value.int IntKind.u16 (z k))])) (fun k => seB c T (trV c T lo hi n fun j => wAt [AV.x (Value.int IntKind.u16 (w j))]) (wAt [AV.x (Value.int IntKind.u16 (z k))])) (fun k => seU c T (trV c T lo hi n fun j => wAt [AV.x (Value.int IntKind.u16 (w j))]) (wAt [AV.x (Value.int IntKind.u16 (z k))])) fun k => seV c T (trV c T lo hi n fun j => wAt [AV.x (Value.int IntKind.u16 (w j))]) (wAt [AV.x (Value.int IntKind.u16 (z k))])) : Int) != c + (1 : Int)) (Tree.leaf (RV.x (Value.bool false))) (Tree.need [flt c T lo hi (min m 12) (zA c z) (zB c T lo hi n w z) (zU c T lo hi n w z) (zV c T lo hi n w z) = (0 : Int), okB c T lo hi (min m 12) (zA c z) (zB c T lo hi n w z) (zU c T lo hi n w z) (zV c T lo hi n w z) = true] (Tree.need [AV.agg [iI c, iI T, iI lo, iI hi] = AV.agg [iI c, iI T, iI lo, iI hi], (AV.lst 1 n fun k => [AV.x (Value.int IntKind.u16 (w k))]) = AV.lst 1 n fun k => [AV.x (Value.int IntKind.u16 (w k))], (AV.lst 1 m fun k => [AV.x (Value.int IntKind.u16 (z k))]) = AV.lst 1 m fun k => [AV.x (Value.int IntKind.u16 (z k))], AV.ptr 0 0 = AV.ptr 0 0, (AV.lst 4 (min m 12) fun k => [iI (seA c (wAt [AV.x (Value.int IntKind.u16 (z k))])), iI (seB c T (trV c T lo hi n fun j => wAt [AV.x (Value.int IntKind.u16 (w j))]) (wAt [AV.x (Value.int IntKind.u16 (z k))])), iI (seU c T (trV c T lo hi n fun j => wAt [AV.x (Value.int IntKind.u16 (w j))]) (wAt [AV.x (Value.int IntKind.u16 (z k))])), iI (seV c T (trV c T lo hi n fun j => wAt [AV.x (Value.int IntKind.u16 (w j))]) (wAt [AV.x (Value.int IntKind.u16 (z k))]))]) = AV.lst 4 (min m 12) fun k => [iI (zA c z k), iI (zB c T lo hi n w z k), iI (zU c T lo hi n w z k), iI (zV c T lo hi n w z k)], (AV.lst 2 (lenB c T lo hi (min m 12) (fun k => seA c (wAt [AV.x (Value.int IntKind.u16 (z k))])) (fun k => seB c T (trV c T lo hi n fun j => wAt [AV.x (Value.int IntKind.u16 (w j))]) (wAt [AV.x (Value.int IntKind.u16 (z k))])) (fun k => seU c T (trV c T lo hi n fun j => wAt [AV.x (Value.int IntKind.u16 (w j))]) (wAt [AV.x (Value.int IntKind.u16 (z k))])) fun k => seV c T (trV c T lo hi n fun j => wAt [AV.x (Value.int IntKind.u16 (w j))]) (wAt [AV.x (Value.int IntKind.u16 (z k))])) fun k => [iI (-fwB c T lo hi (min m 12) (fun k => seA c (wAt [AV.x (Value.int IntKind.u16 (z k))])) (fun k => seB c T (trV c T lo hi n fun j => wAt [AV.x (Value.int IntKind.u16 (w j))]) (wAt [AV.x (Value.int IntKind.u16 (z k))])) (fun k => seU c T (trV c T lo hi n fun j => wAt [AV.x (Value.int IntKind.u16 (w j))]) (wAt [AV.x (Value.int IntKind.u16 (z k))])) (fun k => seV c T (trV c T lo hi n fun j => wAt [AV.x (Value.int IntKind.u16 (w j))]) (wAt [AV.x (Value.int IntKind.u16 (z k))])) k 0), iI (fwB c T lo hi (min m 12) (fun k => seA c (wAt [AV.x (Value.int IntKind.u16 (z k))])) (fun k => seB c T (trV c T lo hi n fun j => wAt [AV.x (Value.int IntKind.u16 (w j))]) (wAt [AV.x (Value.int IntKind.u16 (z k))])) (fun k => seU c T (trV c T lo hi n fun j => wAt [AV.x (Value.int IntKind.u16 (w j))]) (wAt [AV.x (Value.int IntKind.u16 (z k))])) (fun k => seV c T (trV c T lo hi n fun j => wAt [AV.x (Value.int IntKind.u16 (w j))]) (wAt [AV.x (Value.int IntKind.u16 (z k))])) 0 k)]) = AV.lst 2 (lenB c T lo hi (min m 12) (zA c z) (zB c T lo hi n w z) (zU c T lo hi n w z) (zV c T lo hi n w z)) fun k => [iI (-fwB c T lo hi (min m 12) (zA c z) (zB c T lo hi n w z) (zU c T lo hi n w z) (zV c T lo hi n w z) k 0), iI (fwB c T lo hi (min m 12) (zA c z) (zB c T lo hi n w z) (zU c T lo hi n w z) (zV c T lo hi n w z) 0 k)], (eB c T lo hi (min m 12) (fun k => seA c (wAt [AV.x (Value.int IntKind.u16 (z k))])) (fun k => seB c T (trV c T lo hi n fun j => wAt [AV.x (Value.int IntKind.u16 (w j))]) (wAt [AV.x (Value.int IntKind.u16 (z k))])) (fun k => seU c T (trV c T lo hi n fun j => wAt [AV.x (Value.int IntKind.u16 (w j))]) (wAt [AV.x (Value.int IntKind.u16 (z k))])) fun k => seV c T (trV c T lo hi n fun j => wAt [AV.x (Value.int IntKind.u16 (w j))]) (wAt [AV.x (Value.int IntKind.u16 (z k))])) = eB c T lo hi (min m 12) (zA c z) (zB c T lo hi n w z) (zU c T lo hi n w z) (zV c T lo hi n w z), (0 : Int) = (↑(0 : Nat) : Int), c = c, T = T, lo = lo, hi = hi] (Tree.leaf (RV.x (Value.bool true)))))))))))))) (by kernel_rfl) ?_
  simp only [Tree.sat, allP, fitP, fitL, valEq, inI64, true_and, and_true, decide_eq_true_eq, decide_eq_false_iff_not, Bool.not_eq_true', Bool.not_eq_false', bne_iff_ne, ne_eq, bne_eq_false_iff_eq, c40, c41, c42, c43, c10, wAt1]
  refine ⟨fun _ => ?_, fun h0 => ?_⟩
  · trivial
  have hall := seen_all (n := n) h0 pre1 pre3
  have hb := tube_bd h0
  have hF := tF_bd (n := n) h0 pre1
  
  simp only [hall.2.2.2.1, hall.2.2.2.2]
  (repeat' first | with_reducible apply And.intro | with_reducible intro _)
  all_goals first | exact True.intro | omega | with_reducible rfl | exact isRec4 _ _ _ _ _ | exact isRec1 _ _ | exact isWn _ _ | exact pre1 | exact pre3 | exact h0 | exact hall.1 | exact hall.2.2.1 | exact (hF.1 _ (by assumption)).1 | exact (hF.1 _ (by assumption)).2 | (rename_i h; exact absurd rfl h) | (rename_i h; exact absurd True.intro h) | rfl | assumption 

end Go.Proofs.Ytmdeoobmeokmeaa
/- Contracts of functions of the program, by the engine Sx: what each call comes to. Printed by a program of this repo (sxgen.py). -/
set_option linter.unusedSimpArgs false
set_option linter.unusedVariables false
namespace Go.Proofs.Ytmdeoobmeokmeaa
open Go Go.Sx Go.RowKit

theorem tr_range {c : Nat} {T lo hi : Int} {n : Nat} {a b u v : Nat → Int} {h : Nat → Int} (hl : 0 ≤ lo) (k : Tr c T lo hi n a b u v h) {x : Nat} (hx : x ≤ c) : 0 ≤ h x ∧ h x ≤ T := by
  have m := fun x d => step_mono (lo := lo) (h := h) (c := c) hl (fun q hq => (k.2.2.1 q hq).1) x d
  have m1 := m 0 x (by omega)
  have m2 := m x (c - x) (by omega)
  rw [Nat.zero_add] at m1
  rw [show x + (c - x) = c by omega] at m2
  have := k.1
  have := k.2.1
  omega
theorem pl_mono {c T x y : Int} (hc : 0 ≤ c) (hT : 0 < T) (h : x ≤ y) : plB c T x ≤ plB c T y := Int.tdiv_le_tdiv hT (Int.mul_le_mul_of_nonneg_left h (by omega))

noncomputable def E_et (c T lo hi : Int) (n : Nat) (w : Nat → Int) (m : Nat) (z : Nat → Int) (q : Nat) (a b u v : Nat → Int) (f : Nat → Int) : St := (some
  {
    σ :=
      [AV.agg
          [AV.x (Value.int IntKind.i64 c), AV.x (Value.int IntKind.i64 T), AV.x (Value.int IntKind.i64 lo),
            AV.x (Value.int IntKind.i64 hi)],
        AV.lst (1 : Nat) n fun k => [AV.x (Value.int IntKind.u16 (w k))],
        AV.lst (1 : Nat) m fun k => [AV.x (Value.int IntKind.u16 (z k))], AV.ptr (0 : Nat) (0 : Nat), AV.top, AV.top,
        AV.top,
        AV.lst (1 : Nat) (Int.toNat c) fun k =>
          [AV.x (Value.int IntKind.i64 (trV c T lo hi n (fun j => wAt [AV.x (Value.int IntKind.u16 (w j))]) k))],
        AV.lst (4 : Nat) (min m (12 : Nat)) fun k =>
          [AV.x (Value.int IntKind.i64 (seA c (wAt [AV.x (Value.int IntKind.u16 (z k))]))),
            AV.x
              (Value.int IntKind.i64
                (seB c T (trV c T lo hi n fun j => wAt [AV.x (Value.int IntKind.u16 (w j))])
                  (wAt [AV.x (Value.int IntKind.u16 (z k))]))),
            AV.x
              (Value.int IntKind.i64
                (seU c T (trV c T lo hi n fun j => wAt [AV.x (Value.int IntKind.u16 (w j))])
                  (wAt [AV.x (Value.int IntKind.u16 (z k))]))),
            AV.x
              (Value.int IntKind.i64
                (seV c T (trV c T lo hi n fun j => wAt [AV.x (Value.int IntKind.u16 (w j))])
                  (wAt [AV.x (Value.int IntKind.u16 (z k))])))],
        AV.lst (2 : Nat)
          (lenB c T lo hi (min m (12 : Nat)) (fun k => seA c (wAt [AV.x (Value.int IntKind.u16 (z k))]))
            (fun k =>
              seB c T (trV c T lo hi n fun j => wAt [AV.x (Value.int IntKind.u16 (w j))])
                (wAt [AV.x (Value.int IntKind.u16 (z k))]))
            (fun k =>
              seU c T (trV c T lo hi n fun j => wAt [AV.x (Value.int IntKind.u16 (w j))])
                (wAt [AV.x (Value.int IntKind.u16 (z k))]))
            fun k =>
            seV c T (trV c T lo hi n fun j => wAt [AV.x (Value.int IntKind.u16 (w j))])
              (wAt [AV.x (Value.int IntKind.u16 (z k))]))
          fun k =>
          [AV.x
              (Value.int IntKind.i64
                (-fwB c T lo hi (min m (12 : Nat)) (fun k => seA c (wAt [AV.x (Value.int IntKind.u16 (z k))]))
                    (fun k =>
                      seB c T (trV c T lo hi n fun j => wAt [AV.x (Value.int IntKind.u16 (w j))])
                        (wAt [AV.x (Value.int IntKind.u16 (z k))]))
                    (fun k =>
                      seU c T (trV c T lo hi n fun j => wAt [AV.x (Value.int IntKind.u16 (w j))])
                        (wAt [AV.x (Value.int IntKind.u16 (z k))]))
                    (fun k =>
                      seV c T (trV c T lo hi n fun j => wAt [AV.x (Value.int IntKind.u16 (w j))])
                        (wAt [AV.x (Value.int IntKind.u16 (z k))]))
                    k (0 : Nat))),
            AV.x
              (Value.int IntKind.i64
                (fwB c T lo hi (min m (12 : Nat)) (fun k => seA c (wAt [AV.x (Value.int IntKind.u16 (z k))]))
                  (fun k =>
                    seB c T (trV c T lo hi n fun j => wAt [AV.x (Value.int IntKind.u16 (w j))])
                      (wAt [AV.x (Value.int IntKind.u16 (z k))]))
                  (fun k =>
                    seU c T (trV c T lo hi n fun j => wAt [AV.x (Value.int IntKind.u16 (w j))])
                      (wAt [AV.x (Value.int IntKind.u16 (z k))]))
                  (fun k =>
                    seV c T (trV c T lo hi n fun j => wAt [AV.x (Value.int IntKind.u16 (w j))])
                      (wAt [AV.x (Value.int IntKind.u16 (z k))]))
                  (0 : Nat) k))],
        AV.x
          (Value.int IntKind.i64
            (eB c T lo hi (min m (12 : Nat)) (fun k => seA c (wAt [AV.x (Value.int IntKind.u16 (z k))]))
              (fun k =>
                seB c T (trV c T lo hi n fun j => wAt [AV.x (Value.int IntKind.u16 (w j))])
                  (wAt [AV.x (Value.int IntKind.u16 (z k))]))
              (fun k =>
                seU c T (trV c T lo hi n fun j => wAt [AV.x (Value.int IntKind.u16 (w j))])
                  (wAt [AV.x (Value.int IntKind.u16 (z k))]))
              fun k =>
              seV c T (trV c T lo hi n fun j => wAt [AV.x (Value.int IntKind.u16 (w j))])
                (wAt [AV.x (Value.int IntKind.u16 (z k))]))),
        AV.lst (2 : Nat)
          (lenB c T lo hi (min m (12 : Nat)) (fun k => seA c (wAt [AV.x (Value.int IntKind.u16 (z k))]))
            (fun k =>
              seB c T (trV c T lo hi n fun j => wAt [AV.x (Value.int IntKind.u16 (w j))])
                (wAt [AV.x (Value.int IntKind.u16 (z k))]))
            (fun k =>
              seU c T (trV c T lo hi n fun j => wAt [AV.x (Value.int IntKind.u16 (w j))])
                (wAt [AV.x (Value.int IntKind.u16 (z k))]))
            fun k =>
            seV c T (trV c T lo hi n fun j => wAt [AV.x (Value.int IntKind.u16 (w j))])
              (wAt [AV.x (Value.int IntKind.u16 (z k))]))
          fun k =>
          [AV.x
              (Value.int IntKind.i64
                (plB c T
                  (-fwB c T lo hi (min m (12 : Nat)) (fun k => seA c (wAt [AV.x (Value.int IntKind.u16 (z k))]))
                      (fun k =>
                        seB c T (trV c T lo hi n fun j => wAt [AV.x (Value.int IntKind.u16 (w j))])
                          (wAt [AV.x (Value.int IntKind.u16 (z k))]))
                      (fun k =>
                        seU c T (trV c T lo hi n fun j => wAt [AV.x (Value.int IntKind.u16 (w j))])
                          (wAt [AV.x (Value.int IntKind.u16 (z k))]))
                      (fun k =>
                        seV c T (trV c T lo hi n fun j => wAt [AV.x (Value.int IntKind.u16 (w j))])
                          (wAt [AV.x (Value.int IntKind.u16 (z k))]))
                      k (0 : Nat)))),
            AV.x
              (Value.int IntKind.i64
                (plB c T
                  (fwB c T lo hi (min m (12 : Nat)) (fun k => seA c (wAt [AV.x (Value.int IntKind.u16 (z k))]))
                    (fun k =>
                      seB c T (trV c T lo hi n fun j => wAt [AV.x (Value.int IntKind.u16 (w j))])
                        (wAt [AV.x (Value.int IntKind.u16 (z k))]))
                    (fun k =>
                      seU c T (trV c T lo hi n fun j => wAt [AV.x (Value.int IntKind.u16 (w j))])
                        (wAt [AV.x (Value.int IntKind.u16 (z k))]))
                    (fun k =>
                      seV c T (trV c T lo hi n fun j => wAt [AV.x (Value.int IntKind.u16 (w j))])
                        (wAt [AV.x (Value.int IntKind.u16 (z k))]))
                    (0 : Nat) k)))],
        AV.x
          (Value.int IntKind.i64
            (eB c T lo hi (min m (12 : Nat)) (fun k => seA c (wAt [AV.x (Value.int IntKind.u16 (z k))]))
              (fun k =>
                seB c T (trV c T lo hi n fun j => wAt [AV.x (Value.int IntKind.u16 (w j))])
                  (wAt [AV.x (Value.int IntKind.u16 (z k))]))
              (fun k =>
                seU c T (trV c T lo hi n fun j => wAt [AV.x (Value.int IntKind.u16 (w j))])
                  (wAt [AV.x (Value.int IntKind.u16 (z k))]))
              fun k =>
              seV c T (trV c T lo hi n fun j => wAt [AV.x (Value.int IntKind.u16 (w j))])
                (wAt [AV.x (Value.int IntKind.u16 (z k))]))),
        AV.top, AV.top, AV.top, AV.top, AV.top, AV.top, AV.top, AV.top, AV.top, AV.top, AV.top, AV.top, AV.top, AV.top,
        AV.top, AV.top, AV.top, AV.top, AV.top, AV.top, AV.top, AV.top, AV.top, AV.top, AV.top, AV.top, AV.top, AV.top,
        AV.top, AV.top, AV.top, AV.top, AV.top, AV.top, AV.top, AV.top, AV.top, AV.top, AV.top, AV.top, AV.top, AV.top,
        AV.top, AV.top, AV.top, AV.top, AV.top, AV.top, AV.top, AV.top, AV.top, AV.top, AV.top, AV.top, AV.top, AV.top,
        AV.top, AV.top, AV.top, AV.top, AV.top, AV.top, AV.top, AV.top, AV.top, AV.top, AV.top, AV.top, AV.top, AV.top,
        AV.top, AV.top, AV.top, AV.top, AV.top, AV.top, AV.top, AV.top, AV.top, AV.top, AV.top, AV.top, AV.top, AV.top,
        AV.top, AV.top, AV.top, AV.top, AV.top, AV.top, AV.top, AV.top, AV.top, AV.top],
    m :=
      [((0 : Nat),
          Res.cells (25 : Nat)
            [AV.x (Value.int IntKind.i64 c), AV.x (Value.int IntKind.i64 T), AV.x (Value.int IntKind.i64 lo),
              AV.x (Value.int IntKind.i64 hi)])],
    nx := (67 : Nat) } : Option St).getD { σ := [], m := [], nx := 0 }
noncomputable def B_et : Code := loopBody (loopAt (bodyOf Try.f12) 0)
noncomputable def inv_et (c T lo hi : Int) (n : Nat) (w : Nat → Int) (m : Nat) (z : Nat → Int) (q : Nat) (a b u v : Nat → Int) (f : Nat → Int) (k : Nat) : St := { σ := ovrS [(7, .lst 1 c.toNat (fun k => [i (f k)])), (8, rds q a b u v), (9, .lst 2 (lenB c T lo hi q a b u v) (fun k => [i (-(fwB c T lo hi q a b u v k 0)), i (fwB c T lo hi q a b u v 0 k)])), (10, i (eB c T lo hi q a b u v)), (11, .lst 2 (lenB c T lo hi q a b u v) (fun k => [i (plB c T (-(fwB c T lo hi q a b u v k 0))), i (plB c T (fwB c T lo hi q a b u v 0 k))])), (12, i (eB c T lo hi q a b u v)), (13, i k)] (E_et c T lo hi n w m z q a b u v f).σ, m := (E_et c T lo hi n w m z q a b u v f).m, nx := (E_et c T lo hi n w m z q a b u v f).nx }
noncomputable def out_et (c T lo hi : Int) (n : Nat) (w : Nat → Int) (m : Nat) (z : Nat → Int) (q : Nat) (a b u v : Nat → Int) (f : Nat → Int) (k : Nat) : AEx → Option St := fun ex => match ex with
  | .exit 0 => some { σ := ovrS [(7, .lst 1 c.toNat (fun k => [i (f k)])), (8, rds q a b u v), (9, .lst 2 (lenB c T lo hi q a b u v) (fun k => [i (-(fwB c T lo hi q a b u v k 0)), i (fwB c T lo hi q a b u v 0 k)])), (10, i (eB c T lo hi q a b u v)), (11, .lst 2 (lenB c T lo hi q a b u v) (fun k => [i (plB c T (-(fwB c T lo hi q a b u v k 0))), i (plB c T (fwB c T lo hi q a b u v 0 k))])), (12, i (eB c T lo hi q a b u v))] (E_et c T lo hi n w m z q a b u v f).σ, m := (E_et c T lo hi n w m z q a b u v f).m, nx := (E_et c T lo hi n w m z q a b u v f).nx }
  | _ => none
noncomputable def T_et (c T lo hi : Int) (n : Nat) (w : Nat → Int) (m : Nat) (z : Nat → Int) (q : Nat) (a b u v : Nat → Int) (f : Nat → Int) : CT := .leaf (.exit 0, ( out_et c T lo hi n w m z q a b u v f 0 (.exit 0)).getD (E_et c T lo hi n w m z q a b u v f))
noncomputable def LS_et (c T lo hi : Int) (n : Nat) (w : Nat → Int) (m : Nat) (z : Nat → Int) (q : Nat) (a b u v : Nat → Int) (f : Nat → Int) : LSpec := normSp [] (sumL (inv_et c T lo hi n w m z q a b u v f (0)) (T_et c T lo hi n w m z q a b u v f))
set_option maxRecDepth 100000 in
theorem et_ls (c T lo hi : Int) (n : Nat) (w : Nat → Int) (m : Nat) (z : Nat → Int) (q : Nat) (a b u v : Nat → Int) (f : Nat → Int) (pre0 : flt c T lo hi q a b u v = 0) (pre1 : okB c T lo hi q a b u v = true) (pre2 : Tr c.toNat T lo hi q a b u v (sumF f)) : LSound Try.prog (.loop B_et) (LS_et c T lo hi n w m z q a b u v f) := by
  refine loop_roundsX [] (E := { R := [], H := [] }) (G := [(31, S_rIsTube), (20, S_wakes), (34, S_Truly), (33, S_Seen), (22, S_lTube), (23, S_lReadings), (29, S_Heights), (35, S_Places), (45, S_ProveTruth), (46, S_llist), (40, S_rHeight), (48, S_on)]) (L := []) (SoundG.cons rIsTube_ok (SoundG.cons wakes_ok (SoundG.cons Truly_ok (SoundG.cons Seen_ok (SoundG.cons lTube_ok (SoundG.cons lReadings_ok (SoundG.cons Heights_ok (SoundG.cons Places_ok (SoundG.cons ProveTruth_ok (SoundG.cons llist_ok (SoundG.cons rHeight_ok (SoundG.cons on_ok (SoundG.nil _))))))))))))) (SoundX.of (SoundRL.nil _) (SoundHL.nil _)) mixed noLoops (X := Nat) (inv_et c T lo hi n w m z q a b u v f) (fun k => k ≤ c.toNat + 1) (fun k => c.toNat + 1 - k) (out_et c T lo hi n w m z q a b u v f) (x0 := 0) (by simp) ?_ ?_ ?_
  · rintro k
    kernel_rfl
  · rintro k y E h
    unfold out_et at h
    split at h
    · cases h; kernel_rfl
    · cases h
  · rintro Q hQ k hx
    refine ⟨(k + 1), ?_⟩
    have e : roundX Try.prog [(31, S_rIsTube), (20, S_wakes), (34, S_Truly), (33, S_Seen), (22, S_lTube), (23, S_lReadings), (29, S_Heights), (35, S_Places), (45, S_ProveTruth), (46, S_llist), (40, S_rHeight), (48, S_on)] { R := [], H := [] } [] [] B_et (inv_et c T lo hi n w m z q a b u v f k) (inv_et c T lo hi n w m z q a b u v f ((k + 1))) (out_et c T lo hi n w m z q a b u v f k) = (Tree.branch (decide ((↑k : Int) ≤ c)) (Tree.need [isRec 1 (Int.toNat c) fun k => [i (f k)], (↑k : Int) ≤ (↑(Int.toNat c) : Int), Int.toNat c ≤ 100, ∀ (k : Nat), k < Int.toNat c → (-1000000 : Int) ≤ f k ∧ f k ≤ (1000000 : Int)] (Tree.need [(0 : Int) ≤ (↑k : Int) ∧ (↑k : Int) < (↑(lenB c T lo hi q a b u v) : Int)] (Tree.branch (!bt (-fwB c T lo hi q a b u v k 0) (sumF f k) (fwB c T lo hi q a b u v 0 k)) Tree.fail (Tree.need [inI64 ((1000 : Int) * c)] (Tree.need [inI64 ((1000 : Int) * c * sumF f k)] (Tree.need [T ≠ (0 : Int), inI64 (Int.tdiv ((1000 : Int) * c * sumF f k) T)] (Tree.need [(0 : Int) ≤ (↑k : Int) ∧ (↑k : Int) < (↑(lenB c T lo hi q a b u v) : Int)] (Tree.branch (!bt (plB c T (-fwB c T lo hi q a b u v k 0)) (Int.tdiv ((1000 : Int) * c * sumF f k) T) (plB c T (fwB c T lo hi q a b u v 0 k))) Tree.fail (Tree.need [inI64 ((↑k : Int) + (1 : Int))] (Tree.need [AV.agg [iI c, iI T, iI lo, iI hi] = AV.agg [iI c, iI T, iI lo, iI hi], (AV.lst 1 n fun k => [AV.x (Value.int IntKind.u16 (w k))]) = AV.lst 1 n fun k => [AV.x (Value.int IntKind.u16 (w k))], (AV.lst 1 m fun k => [AV.x (Value.int IntKind.u16 (z k))]) = AV.lst 1 m fun k => [AV.x (Value.int IntKind.u16 (z k))], AV.ptr 0 0 = AV.ptr 0 0, (AV.lst 1 (Int.toNat c) fun k => [iI (f k)]) = AV.lst 1 (Int.toNat c) fun k => [iI (f k)], (AV.lst 4 q fun k => [iI (a k), iI (b k), iI (u k), iI (v k)]) = AV.lst 4 q fun k => [iI (a k), iI (b k), iI (u k), iI (v k)], (AV.lst 2 (lenB c T lo hi q a b u v) fun k => [iI (-fwB c T lo hi q a b u v k 0), iI (fwB c T lo hi q a b u v 0 k)]) = AV.lst 2 (lenB c T lo hi q a b u v) fun k => [iI (-fwB c T lo hi q a b u v k 0), iI (fwB c T lo hi q a b u v 0 k)], eB c T lo hi q a b u v = eB c T lo hi q a b u v, (AV.lst 2 (lenB c T lo hi q a b u v) fun k => [iI (plB c T (-fwB c T lo hi q a b u v k 0)), iI (plB c T (fwB c T lo hi q a b u v 0 k))]) = AV.lst 2 (lenB c T lo hi q a b u v) fun k => [iI (plB c T (-fwB c T lo hi q a b u v k 0)), iI (plB c T (fwB c T lo hi q a b u v 0 k))], eB c T lo hi q a b u v = eB c T lo hi q a b u v, (↑k : Int) + (1 : Int) = (↑(k + 1) : Int), c = c, T = T, lo = lo, hi = hi] (Tree.leaf AEx.normal))))))))))) (Tree.need [AV.agg [iI c, iI T, iI lo, iI hi] = AV.agg [iI c, iI T, iI lo, iI hi], (AV.lst 1 n fun k => [AV.x (Value.int IntKind.u16 (w k))]) = AV.lst 1 n fun k => [AV.x (Value.int IntKind.u16 (w k))], (AV.lst 1 m fun k => [AV.x (Value.int IntKind.u16 (z k))]) = AV.lst 1 m fun k => [AV.x (Value.int IntKind.u16 (z k))], AV.ptr 0 0 = AV.ptr 0 0, (AV.lst 1 (Int.toNat c) fun k => [iI (f k)]) = AV.lst 1 (Int.toNat c) fun k => [iI (f k)], (AV.lst 4 q fun k => [iI (a k), iI (b k), iI (u k), iI (v k)]) = AV.lst 4 q fun k => [iI (a k), iI (b k), iI (u k), iI (v k)], (AV.lst 2 (lenB c T lo hi q a b u v) fun k => [iI (-fwB c T lo hi q a b u v k 0), iI (fwB c T lo hi q a b u v 0 k)]) = AV.lst 2 (lenB c T lo hi q a b u v) fun k => [iI (-fwB c T lo hi q a b u v k 0), iI (fwB c T lo hi q a b u v 0 k)], eB c T lo hi q a b u v = eB c T lo hi q a b u v, (AV.lst 2 (lenB c T lo hi q a b u v) fun k => [iI (plB c T (-fwB c T lo hi q a b u v k 0)), iI (plB c T (fwB c T lo hi q a b u v 0 k))]) = AV.lst 2 (lenB c T lo hi q a b u v) fun k => [iI (plB c T (-fwB c T lo hi q a b u v k 0)), iI (plB c T (fwB c T lo hi q a b u v 0 k))], eB c T lo hi q a b u v = eB c T lo hi q a b u v, c = c, T = T, lo = lo, hi = hi] (Tree.leaf (AEx.exit 0)))) := by kernel_rfl
    rw [e]
    simp only [T_et, out_et, Tree.sat, Option.getD_some] at hQ
    have hf := flt_iff.1 pre0
    have hb := tube_bd hf.1
    have hr := rdOk_of hb.1 hf.2.2
    have hl : lenB c T lo hi q a b u v = c.toNat + 1 := if_pos (fltB_ok pre0 pre1)
    simp only [Tree.sat, allP, fitP, fitL, valEq, inI64, true_and, and_true, decide_eq_true_eq, decide_eq_false_iff_not, out_et, Bool.not_eq_true', Bool.not_eq_false', bne_iff_ne, ne_eq, bne_eq_false_iff_eq, c40, c41, c42, c43, c10]
    clear e
    refine ⟨fun h => ?_, fun h => ?_⟩
    · have ht := tr_bd hb.2.1 hr pre2 (x := k) (by omega)
      have hs := tr_range (by omega) pre2 (x := k) (by omega)
      have h1 : bt (-fwB c T lo hi q a b u v k 0) (sumF f k) (fwB c T lo hi q a b u v 0 k) = true := (bt_iff _ _ _).2 ht
      have h2 : bt (plB c T (-fwB c T lo hi q a b u v k 0)) ((1000 * c * sumF f k).tdiv T) (plB c T (fwB c T lo hi q a b u v 0 k)) = true := (bt_iff _ _ _).2 ⟨pl_mono (by omega) (by omega) ht.1, pl_mono (by omega) (by omega) ht.2⟩
      have m1 := mul_bd (x := 1000 * c) (y := sumF f k) (X := 10000) (Y := 2000) (by omega) (by omega)
      have m2 := tdiv_le (b := T) m1
      have kf : ∀ k, k < c.toNat → -1000000 ≤ f k ∧ f k ≤ 1000000 := fun k hk => by
        have := pre2.2.2.1 k hk
        have e : sumF f (k + 1) = sumF f k + f k := rfl
        rw [e] at this
        omega
      simp only [hl, h1, h2]
      (repeat' first | with_reducible apply And.intro | with_reducible intro _)
      all_goals first | exact True.intro | omega | with_reducible rfl | exact isRec4 _ _ _ _ _ | exact isRec1 _ _ | exact pre0 | exact (kf _ (by assumption)).1 | exact (kf _ (by assumption)).2 | (rename_i h; exact absurd rfl h) | (rename_i h; exact absurd True.intro h) | (rename_i h; cases h; done) | rfl
    · (repeat' first | with_reducible apply And.intro | with_reducible intro _)
      all_goals first | exact True.intro | omega | with_reducible rfl | rfl | (rename_i E hE; cases hE; exact hQ)

set_option maxRecDepth 100000 in
theorem BoreTruth_at (c T lo hi : Int) (n : Nat) (w : Nat → Int) (m : Nat) (z : Nat → Int) (pre0 : n ≤ 10000000000000000000) (pre1 : wOk n w) (pre2 : m ≤ 10000000000000000000) (pre3 : wOk m z) : SoundAt Try.prog 12 [.agg [i c, i T, i lo, i hi], wds n w, wds m z] (bl true) := by
  refine soundAt_finX (G := [(31, S_rIsTube), (20, S_wakes), (34, S_Truly), (33, S_Seen), (22, S_lTube), (23, S_lReadings), (29, S_Heights), (35, S_Places), (45, S_ProveTruth), (46, S_llist), (40, S_rHeight), (48, S_on)]) (X := { R := [], H := [] }) (L := [needSp [flt c T lo hi (min m 12) (zA c z) (zB c T lo hi n w z) (zU c T lo hi n w z) (zV c T lo hi n w z) = 0, okB c T lo hi (min m 12) (zA c z) (zB c T lo hi n w z) (zU c T lo hi n w z) (zV c T lo hi n w z) = true, Tr c.toNat T lo hi (min m 12) (zA c z) (zB c T lo hi n w z) (zU c T lo hi n w z) (zV c T lo hi n w z) (sumF (tF c T lo hi n w))] (LS_et c T lo hi n w m z (min m 12) (zA c z) (zB c T lo hi n w z) (zU c T lo hi n w z) (zV c T lo hi n w z) (tF c T lo hi n w))]) (SoundG.cons rIsTube_ok (SoundG.cons wakes_ok (SoundG.cons Truly_ok (SoundG.cons Seen_ok (SoundG.cons lTube_ok (SoundG.cons lReadings_ok (SoundG.cons Heights_ok (SoundG.cons Places_ok (SoundG.cons ProveTruth_ok (SoundG.cons llist_ok (SoundG.cons rHeight_ok (SoundG.cons on_ok (SoundG.nil _))))))))))))) (SoundX.of (SoundRL.nil _) (SoundHL.nil _)) mixed Try.func12 (show Try.f12.body = some (bodyOf Try.f12) by kernel_rfl) (one_loop (fun cj hcj => by
    have e : loopAt (bodyOf Try.f12) 0 = some (.loop B_et) := by kernel_rfl
    rw [e] at hcj; cases hcj
    exact (needSp_sound (ps := [flt c T lo hi (min m 12) (zA c z) (zB c T lo hi n w z) (zU c T lo hi n w z) (zV c T lo hi n w z) = 0, okB c T lo hi (min m 12) (zA c z) (zB c T lo hi n w z) (zU c T lo hi n w z) (zV c T lo hi n w z) = true, Tr c.toNat T lo hi (min m 12) (zA c z) (zB c T lo hi n w z) (zU c T lo hi n w z) (zV c T lo hi n w z) (sumF (tF c T lo hi n w))]) (fun h => et_ls c T lo hi n w m z (min m 12) (zA c z) (zB c T lo hi n w z) (zU c T lo hi n w z) (zV c T lo hi n w z) (tF c T lo hi n w) h.1 h.2.1 h.2.2)).N)) (t := (Tree.branch (!tubeB c T lo hi) (Tree.leaf (RV.x (Value.bool true))) (Tree.need [isW n fun k => [AV.x (Value.int IntKind.u16 (w k))], tubeB c T lo hi = true, n ≤ 10000000000000000000, wOk n fun j => wAt [AV.x (Value.int IntKind.u16 (w j))]] (Tree.need [isRec 1 (Int.toNat c) fun k => [i (trV c T lo hi n (fun j => wAt [AV.x (Value.int IntKind.u16 (w j))]) k)], isW m fun k => [AV.x (Value.int IntKind.u16 (z k))], tubeB c T lo hi = true, (↑(Int.toNat c) : Int) = c, ∀ (j : Nat), j < Int.toNat c → lo ≤ trV c T lo hi n (fun j => wAt [AV.x (Value.int IntKind.u16 (w j))]) j ∧ trV c T lo hi n (fun j => wAt [AV.x (Value.int IntKind.u16 (w j))]) j ≤ hi, m ≤ 10000000000000000000, wOk m fun j => wAt [AV.x (Value.int IntKind.u16 (z j))]] (Tree.need [isRec 4 (min m 12) fun k => [i (seA c (wAt [AV.x (Value.int IntKind.u16 (z k))])), i (seB c T (trV c T lo hi n fun j => wAt [AV.x (Value.int IntKind.u16 (w j))]) (wAt [AV.x (Value.int IntKind.u16 (z k))])), i (seU c T (trV c T lo hi n fun j => wAt [AV.x (Value.int IntKind.u16 (w j))]) (wAt [AV.x (Value.int IntKind.u16 (z k))])), i (seV c T (trV c T lo hi n fun j => wAt [AV.x (Value.int IntKind.u16 (w j))]) (wAt [AV.x (Value.int IntKind.u16 (z k))]))], min m 12 ≤ 100000] (Tree.need [isRec 4 (min m 12) fun k => [i (seA c (wAt [AV.x (Value.int IntKind.u16 (z k))])), i (seB c T (trV c T lo hi n fun j => wAt [AV.x (Value.int IntKind.u16 (w j))]) (wAt [AV.x (Value.int IntKind.u16 (z k))])), i (seU c T (trV c T lo hi n fun j => wAt [AV.x (Value.int IntKind.u16 (w j))]) (wAt [AV.x (Value.int IntKind.u16 (z k))])), i (seV c T (trV c T lo hi n fun j => wAt [AV.x (Value.int IntKind.u16 (w j))]) (wAt [AV.x (Value.int IntKind.u16 (z k))]))]] (Tree.need [isRec 4 (min m 12) fun k => [i (seA c (wAt [AV.x (Value.int IntKind.u16 (z k))])), i (seB c T (trV c T lo hi n fun j => wAt [AV.x (Value.int IntKind.u16 (w j))]) (wAt [AV.x (Value.int IntKind.u16 (z k))])), i (seU c T (trV c T lo hi n fun j => wAt [AV.x (Value.int IntKind.u16 (w j))]) (wAt [AV.x (Value.int IntKind.u16 (z k))])), i (seV c T (trV c T lo hi n fun j => wAt [AV.x (Value.int IntKind.u16 (w j))]) (wAt [AV.x (Value.int IntKind.u16 (z k))]))], min m 12 ≤ 100000] (Tree.need [isRec 4 (min m 12) fun k => [i (seA c (wAt [AV.x (Value.int IntKind.u16 (z k))])), i (seB c T (trV c T lo hi n fun j => wAt [AV.x (Value.int IntKind.u16 (w j))]) (wAt [AV.x (Value.int IntKind.u16 (z k))])), i (seU c T (trV c T lo hi n fun j => wAt [AV.x (Value.int IntKind.u16 (w j))]) (wAt [AV.x (Value.int IntKind.u16 (z k))])), i (seV c T (trV c T lo hi n fun j => wAt [AV.x (Value.int IntKind.u16 (w j))]) (wAt [AV.x (Value.int IntKind.u16 (z k))]))]] (Tree.branch ((eB c T lo hi (min m 12) (fun k => seA c (wAt [AV.x (Value.int IntKind.u16 (z k))])) (fun k => seB c T (trV c T lo hi n fun j => wAt [AV.x (Value.int IntKind.u16 (w j))]) (wAt [AV.x (Value.int IntKind.u16 (z k))])) (fun k => seU c T (trV c T lo hi n fun j => wAt [AV.x (Value.int IntKind.u16 (w j))]) (wAt [AV.x (Value.int IntKind.u16 (z k))])) fun k => seV c T (trV c T lo hi n fun j => wAt [AV.x (Value.int IntKind.u16 (w j))]) (wAt [AV.x (Value.int IntKind.u16 (z k))])) != (0 : Int)) (Tree.leaf (RV.x (Value.bool false))) (Tree.branch ((eB c T lo hi (min m 12) (fun k => seA c (wAt [AV.x (Value.int IntKind.u16 (z k))])) (fun k => seB c T (trV c T lo hi n fun j => wAt [AV.x (Value.int IntKind.u16 (w j))]) (wAt [AV.x (Value.int IntKind.u16 (z k))])) (fun k => seU c T (trV c T lo hi n fun j => wAt [AV.x (Value.int IntKind.u16 (w j))]) (wAt [AV.x (Value.int IntKind.u16 (z k))])) fun k => seV c T (trV c T lo hi n fun j => wAt [AV.x (Value.int IntKind.u16 (w j))]) (wAt [AV.x (Value.int IntKind.u16 (z k))])) != (0 : Int)) (Tree.leaf (RV.x (Value.bool false))) (Tree.need [inI64 (c + (1 : Int))] (Tree.branch ((↑(lenB c T lo hi (min m 12) (fun k => seA c (wAt [AV.x (Value.int IntKind.u16 (z k))])) (fun k => seB c T (trV c T lo hi n fun j => wAt [AV.x (Value.int IntKind.u16 (w j))]) (wAt [AV.x (Value.int IntKind.u16 (z k))])) (fun k => seU c T (trV c T lo hi n fun j => wAt [AV.x (Value.int IntKind.u16 (w j))]) (wAt [AV.x (Value.int IntKind.u16 (z k))])) fun k => seV c T (trV c T lo hi n fun j => wAt [AV.x (Value.int IntKind.u16 (w j))]) (wAt [AV.x (Value.int IntKind.u16 (z k))])) : Int) != c + (1 : Int)) (Tree.leaf (RV.x (Value.bool false))) (Tree.need [inI64 (c + (1 : Int))] (Tree.branch ((↑(lenB c T lo hi (min m 12) (fun k => seA c (wAt [AV.x (Value.int IntKind.u16 (z k))])) (fun k => seB c T (trV c T lo hi n fun j => wAt [AV.x (Value.int IntKind.u16 (w j))]) (wAt [AV.x (Value.int IntKind.u16 (z k))])) (fun k => seU c T (trV c T lo hi n fun j => wAt [AV.x (Value.int IntKind.u16 (w j))]) (wAt [AV.x (Value.int IntKind.u16 (z k))])) fun k => seV c T (trV c T lo hi n fun j => wAt [AV.x (Value.int IntKind.u16 (w j))]) (wAt [AV.x (Value.int IntKind.u16 (z k))])) : Int) != c + (1 : Int)) (Tree.leaf (RV.x (Value.bool false))) (Tree.need [isRec 4 (min m 12) fun k => [i (seA c (wAt [AV.x (Value.int IntKind.u16 (z k))])), i (seB c T (trV c T lo hi n fun j => wAt [AV.x (Value.int IntKind.u16 (w j))]) (wAt [AV.x (Value.int IntKind.u16 (z k))])), i (seU c T (trV c T lo hi n fun j => wAt [AV.x (Value.int IntKind.u16 (w j))]) (wAt [AV.x (Value.int IntKind.u16 (z k))])), i (seV c T (trV c T lo hi n fun j => wAt [AV.x (Value.int IntKind.u16 (w j))]) (wAt [AV.x (Value.int IntKind.u16 (z k))]))], min m 12 ≤ 100000] (Tree.need [isRec 1 (Int.toNat c) fun k => [i (trV c T lo hi n (fun j => wAt [AV.x (Value.int IntKind.u16 (w j))]) k)], Int.toNat c ≤ 100000] (Tree.need [isRec 4 (min m 12) fun k => [i (seA c (wAt [AV.x (Value.int IntKind.u16 (z k))])), i (seB c T (trV c T lo hi n fun j => wAt [AV.x (Value.int IntKind.u16 (w j))]) (wAt [AV.x (Value.int IntKind.u16 (z k))])), i (seU c T (trV c T lo hi n fun j => wAt [AV.x (Value.int IntKind.u16 (w j))]) (wAt [AV.x (Value.int IntKind.u16 (z k))])), i (seV c T (trV c T lo hi n fun j => wAt [AV.x (Value.int IntKind.u16 (w j))]) (wAt [AV.x (Value.int IntKind.u16 (z k))]))], isRec 1 (Int.toNat c) fun k => [i (trV c T lo hi n (fun j => wAt [AV.x (Value.int IntKind.u16 (w j))]) k)], Int.toNat c ≤ 100000] (Tree.branch (!ptB c T lo hi (min m 12) (fun k => seA c (wAt [AV.x (Value.int IntKind.u16 (z k))])) (fun k => seB c T (trV c T lo hi n fun j => wAt [AV.x (Value.int IntKind.u16 (w j))]) (wAt [AV.x (Value.int IntKind.u16 (z k))])) (fun k => seU c T (trV c T lo hi n fun j => wAt [AV.x (Value.int IntKind.u16 (w j))]) (wAt [AV.x (Value.int IntKind.u16 (z k))])) (fun k => seV c T (trV c T lo hi n fun j => wAt [AV.x (Value.int IntKind.u16 (w j))]) (wAt [AV.x (Value.int IntKind.u16 (z k))])) (Int.toNat c) (trV c T lo hi n fun j => wAt [AV.x (Value.int IntKind.u16 (w j))])) (Tree.leaf (RV.x (Value.bool false))) (Tree.need [flt c T lo hi (min m 12) (zA c z) (zB c T lo hi n w z) (zU c T lo hi n w z) (zV c T lo hi n w z) = (0 : Int), okB c T lo hi (min m 12) (zA c z) (zB c T lo hi n w z) (zU c T lo hi n w z) (zV c T lo hi n w z) = true, Tr (Int.toNat c) T lo hi (min m 12) (zA c z) (zB c T lo hi n w z) (zU c T lo hi n w z) (zV c T lo hi n w z) (sumF (tF c T lo hi n w))] (Tree.need [AV.agg [iI c, iI T, iI lo, iI hi] = AV.agg [iI c, iI T, iI lo, iI hi], (AV.lst 1 n fun k => [AV.x (Value.int IntKind.u16 (w k))]) = AV.lst 1 n fun k => [AV.x (Value.int IntKind.u16 (w k))], (AV.lst 1 m fun k => [AV.x (Value.int IntKind.u16 (z k))]) = AV.lst 1 m fun k => [AV.x (Value.int IntKind.u16 (z k))], AV.ptr 0 0 = AV.ptr 0 0, (AV.lst 1 (Int.toNat c) fun k => [iI (trV c T lo hi n (fun j => wAt [AV.x (Value.int IntKind.u16 (w j))]) k)]) = AV.lst 1 (Int.toNat c) fun k => [iI (tF c T lo hi n w k)], (AV.lst 4 (min m 12) fun k => [iI (seA c (wAt [AV.x (Value.int IntKind.u16 (z k))])), iI (seB c T (trV c T lo hi n fun j => wAt [AV.x (Value.int IntKind.u16 (w j))]) (wAt [AV.x (Value.int IntKind.u16 (z k))])), iI (seU c T (trV c T lo hi n fun j => wAt [AV.x (Value.int IntKind.u16 (w j))]) (wAt [AV.x (Value.int IntKind.u16 (z k))])), iI (seV c T (trV c T lo hi n fun j => wAt [AV.x (Value.int IntKind.u16 (w j))]) (wAt [AV.x (Value.int IntKind.u16 (z k))]))]) = AV.lst 4 (min m 12) fun k => [iI (zA c z k), iI (zB c T lo hi n w z k), iI (zU c T lo hi n w z k), iI (zV c T lo hi n w z k)], (AV.lst 2 (lenB c T lo hi (min m 12) (fun k => seA c (wAt [AV.x (Value.int IntKind.u16 (z k))])) (fun k => seB c T (trV c T lo hi n fun j => wAt [AV.x (Value.int IntKind.u16 (w j))]) (wAt [AV.x (Value.int IntKind.u16 (z k))])) (fun k => seU c T (trV c T lo hi n fun j => wAt [AV.x (Value.int IntKind.u16 (w j))]) (wAt [AV.x (Value.int IntKind.u16 (z k))])) fun k => seV c T (trV c T lo hi n fun j => wAt [AV.x (Value.int IntKind.u16 (w j))]) (wAt [AV.x (Value.int IntKind.u16 (z k))])) fun k => [iI (-fwB c T lo hi (min m 12) (fun k => seA c (wAt [AV.x (Value.int IntKind.u16 (z k))])) (fun k => seB c T (trV c T lo hi n fun j => wAt [AV.x (Value.int IntKind.u16 (w j))]) (wAt [AV.x (Value.int IntKind.u16 (z k))])) (fun k => seU c T (trV c T lo hi n fun j => wAt [AV.x (Value.int IntKind.u16 (w j))]) (wAt [AV.x (Value.int IntKind.u16 (z k))])) (fun k => seV c T (trV c T lo hi n fun j => wAt [AV.x (Value.int IntKind.u16 (w j))]) (wAt [AV.x (Value.int IntKind.u16 (z k))])) k 0), iI (fwB c T lo hi (min m 12) (fun k => seA c (wAt [AV.x (Value.int IntKind.u16 (z k))])) (fun k => seB c T (trV c T lo hi n fun j => wAt [AV.x (Value.int IntKind.u16 (w j))]) (wAt [AV.x (Value.int IntKind.u16 (z k))])) (fun k => seU c T (trV c T lo hi n fun j => wAt [AV.x (Value.int IntKind.u16 (w j))]) (wAt [AV.x (Value.int IntKind.u16 (z k))])) (fun k => seV c T (trV c T lo hi n fun j => wAt [AV.x (Value.int IntKind.u16 (w j))]) (wAt [AV.x (Value.int IntKind.u16 (z k))])) 0 k)]) = AV.lst 2 (lenB c T lo hi (min m 12) (zA c z) (zB c T lo hi n w z) (zU c T lo hi n w z) (zV c T lo hi n w z)) fun k => [iI (-fwB c T lo hi (min m 12) (zA c z) (zB c T lo hi n w z) (zU c T lo hi n w z) (zV c T lo hi n w z) k 0), iI (fwB c T lo hi (min m 12) (zA c z) (zB c T lo hi n w z) (zU c T lo hi n w z) (zV c T lo hi n w z) 0 k)], (eB c T lo hi (min m 12) (fun k => seA c (wAt [AV.x (Value.int IntKind.u16 (z k))])) (fun k => seB c T (trV c T lo hi n fun j => wAt [AV.x (Value.int IntKind.u16 (w j))]) (wAt [AV.x (Value.int IntKind.u16 (z k))])) (fun k => seU c T (trV c T lo hi n fun j => wAt [AV.x (Value.int IntKind.u16 (w j))]) (wAt [AV.x (Value.int IntKind.u16 (z k))])) fun k => seV c T (trV c T lo hi n fun j => wAt [AV.x (Value.int IntKind.u16 (w j))]) (wAt [AV.x (Value.int IntKind.u16 (z k))])) = eB c T lo hi (min m 12) (zA c z) (zB c T lo hi n w z) (zU c T lo hi n w z) (zV c T lo hi n w z), (AV.lst 2 (lenB c T lo hi (min m 12) (fun k => seA c (wAt [AV.x (Value.int IntKind.u16 (z k))])) (fun k => seB c T (trV c T lo hi n fun j => wAt [AV.x (Value.int IntKind.u16 (w j))]) (wAt [AV.x (Value.int IntKind.u16 (z k))])) (fun k => seU c T (trV c T lo hi n fun j => wAt [AV.x (Value.int IntKind.u16 (w j))]) (wAt [AV.x (Value.int IntKind.u16 (z k))])) fun k => seV c T (trV c T lo hi n fun j => wAt [AV.x (Value.int IntKind.u16 (w j))]) (wAt [AV.x (Value.int IntKind.u16 (z k))])) fun k => [iI (plB c T (-fwB c T lo hi (min m 12) (fun k => seA c (wAt [AV.x (Value.int IntKind.u16 (z k))])) (fun k => seB c T (trV c T lo hi n fun j => wAt [AV.x (Value.int IntKind.u16 (w j))]) (wAt [AV.x (Value.int IntKind.u16 (z k))])) (fun k => seU c T (trV c T lo hi n fun j => wAt [AV.x (Value.int IntKind.u16 (w j))]) (wAt [AV.x (Value.int IntKind.u16 (z k))])) (fun k => seV c T (trV c T lo hi n fun j => wAt [AV.x (Value.int IntKind.u16 (w j))]) (wAt [AV.x (Value.int IntKind.u16 (z k))])) k 0)), iI (plB c T (fwB c T lo hi (min m 12) (fun k => seA c (wAt [AV.x (Value.int IntKind.u16 (z k))])) (fun k => seB c T (trV c T lo hi n fun j => wAt [AV.x (Value.int IntKind.u16 (w j))]) (wAt [AV.x (Value.int IntKind.u16 (z k))])) (fun k => seU c T (trV c T lo hi n fun j => wAt [AV.x (Value.int IntKind.u16 (w j))]) (wAt [AV.x (Value.int IntKind.u16 (z k))])) (fun k => seV c T (trV c T lo hi n fun j => wAt [AV.x (Value.int IntKind.u16 (w j))]) (wAt [AV.x (Value.int IntKind.u16 (z k))])) 0 k))]) = AV.lst 2 (lenB c T lo hi (min m 12) (zA c z) (zB c T lo hi n w z) (zU c T lo hi n w z) (zV c T lo hi n w z)) fun k => [iI (plB c T (-fwB c T lo hi (min m 12) (zA c z) (zB c T lo hi n w z) (zU c T lo hi n w z) (zV c T lo hi n w z) k 0)), iI (plB c T (fwB c T lo hi (min m 12) (zA c z) (zB c T lo hi n w z) (zU c T lo hi n w z) (zV c T lo hi n w z) 0 k))], (eB c T lo hi (min m 12) (fun k => seA c (wAt [AV.x (Value.int IntKind.u16 (z k))])) (fun k => seB c T (trV c T lo hi n fun j => wAt [AV.x (Value.int IntKind.u16 (w j))]) (wAt [AV.x (Value.int IntKind.u16 (z k))])) (fun k => seU c T (trV c T lo hi n fun j => wAt [AV.x (Value.int IntKind.u16 (w j))]) (wAt [AV.x (Value.int IntKind.u16 (z k))])) fun k => seV c T (trV c T lo hi n fun j => wAt [AV.x (Value.int IntKind.u16 (w j))]) (wAt [AV.x (Value.int IntKind.u16 (z k))])) = eB c T lo hi (min m 12) (zA c z) (zB c T lo hi n w z) (zU c T lo hi n w z) (zV c T lo hi n w z), (0 : Int) = (↑(0 : Nat) : Int), c = c, T = T, lo = lo, hi = hi] (Tree.leaf (RV.x (Value.bool true))))))))))))))))))))))) (by kernel_rfl) ?_
  simp only [Tree.sat, allP, fitP, fitL, valEq, inI64, true_and, and_true, decide_eq_true_eq, decide_eq_false_iff_not, Bool.not_eq_true', Bool.not_eq_false', bne_iff_ne, ne_eq, bne_eq_false_iff_eq, c40, c41, c42, c43, c10, wAt1]
  refine ⟨fun _ => ?_, fun h0 => ?_⟩
  · trivial
  have hall := seen_all (n := n) h0 pre1 pre3
  have hb := tube_bd h0
  have hF := tF_bd (n := n) h0 pre1
  have hpt : ptB c T lo hi (min m 12) (zA c z) (zB c T lo hi n w z) (zU c T lo hi n w z) (zV c T lo hi n w z) c.toNat (tF c T lo hi n w) = true := (it_pt hall.1).symm.trans ((it_tr hall.1 (by omega)).2 hall.2.1)
  simp only [hpt]
  simp only [hall.2.2.2.1, hall.2.2.2.2]
  (repeat' first | with_reducible apply And.intro | with_reducible intro _)
  all_goals first | exact True.intro | omega | with_reducible rfl | exact isRec4 _ _ _ _ _ | exact isRec1 _ _ | exact isWn _ _ | exact pre1 | exact pre3 | exact h0 | exact hall.1 | exact hall.2.2.1 | exact (hF.1 _ (by assumption)).1 | exact (hF.1 _ (by assumption)).2 | (rename_i h; exact absurd rfl h) | (rename_i h; exact absurd True.intro h) | rfl | assumption | exact hall.2.1 | (rename_i h; cases h; done)

end Go.Proofs.Ytmdeoobmeokmeaa
/- Contracts of functions of the program, by the engine Sx: what each call comes to. Printed by a program of this repo (sxgen.py). -/
set_option linter.unusedSimpArgs false
set_option linter.unusedVariables false
namespace Go.Proofs.Ytmdeoobmeokmeaa
open Go Go.Sx Go.RowKit

def rdyB (c T lo hi : Int) (n : Nat) (a b u v : Nat → Int) : Bool := decide ((n : Int) ≤ 15) && decide (flt c T lo hi n a b u v = 0)
def wiB (p r p2 r2 : Nat → Int) (k : Nat) : Bool := !(decide (p k < p2 k) || decide (r2 k < r k))


theorem rdy_iff {c T lo hi : Int} {n : Nat} {a b u v : Nat → Int} : rdyB c T lo hi n a b u v = true ↔ flt c T lo hi n a b u v = 0 := by
  unfold rdyB
  rw [Bool.and_eq_true, decide_eq_true_eq, decide_eq_true_eq]
  constructor
  · exact fun h => h.2
  · intro h
    have := flt_iff.1 h
    exact ⟨by omega, h⟩

set_option maxRecDepth 100000 in
theorem ready_at (c T lo hi : Int) (n : Nat) (a b u v : Nat → Int) : SoundAt Try.prog 28 [.agg [i c, i T, i lo, i hi], rds n a b u v] (bl (rdyB c T lo hi n a b u v)) := by
  refine soundAt_fin (G := [(47, S_fault)]) (L := []) (SoundG.cons fault_ok (SoundG.nil _)) mixed Try.func28 (show Try.f28.body = some (bodyOf Try.f28) by kernel_rfl) noLoops (t := (Tree.branch (decide ((↑n : Int) ≤ (15 : Int))) (Tree.need [isRec 4 n fun k => [i (a k), i (b k), i (u k), i (v k)]] (Tree.leaf (RV.x (Value.bool (flt c T lo hi n a b u v == (0 : Int)))))) (Tree.leaf (RV.x (Value.bool false))))) (by kernel_rfl) ?_
  simp only [Tree.sat, allP, fitP, fitL, valEq, inI64, true_and, and_true, decide_eq_true_eq, decide_eq_false_iff_not]
  unfold rdyB
  refine ⟨fun h => ⟨isRec4 _ _ _ _ _, ?_⟩, fun h => ?_⟩
  · rw [decide_eq_true h]
    rfl
  · rw [decide_eq_false h]
    rfl

def S_ready : Sx.Spec := fun l => match l with
  | [.agg [.x (.int .i64 c), .x (.int .i64 T), .x (.int .i64 lo), .x (.int .i64 hi)], .lst 4 n f] => some ([isRec 4 n f], bl (rdyB c T lo hi n (col 0 f) (col 1 f) (col 2 f) (col 3 f)))
  | _ => none

theorem ready_ok : SoundSpec Try.prog 28 S_ready := by
  refine ⟨⟨_, Try.func28, by kernel_rfl, by kernel_rfl⟩, ?_⟩
  intro avs ns res h hn
  unfold S_ready at h
  split at h
  · rename_i c T lo hi n f
    cases h
    have hr0 : isRec 4 n f := hn _ (by simp)
    exact (ready_at c T lo hi n (col 0 f) (col 1 f) (col 2 f) (col 3 f)).same (.cons (.refl _) (.cons (.lst 4 n _ _ hr0) .nil))
  · cases h

noncomputable def E_wi (n m : Nat) (p r p2 r2 : Nat → Int) : St := (some
  {
    σ :=
      [AV.lst (2 : Nat) n fun k => [AV.x (Value.int IntKind.i64 (p k)), AV.x (Value.int IntKind.i64 (r k))],
        AV.lst (2 : Nat) m fun k => [AV.x (Value.int IntKind.i64 (p2 k)), AV.x (Value.int IntKind.i64 (r2 k))], AV.top,
        AV.top, AV.top, AV.top, AV.top, AV.top, AV.top, AV.top, AV.top, AV.top, AV.top, AV.top, AV.top, AV.top, AV.top,
        AV.top, AV.top, AV.top, AV.top, AV.top, AV.top, AV.top, AV.top, AV.top, AV.top, AV.top, AV.top, AV.top, AV.top,
        AV.top, AV.top, AV.top, AV.top, AV.top, AV.top, AV.top, AV.top, AV.top, AV.top],
    m := [], nx := (7 : Nat) } : Option St).getD { σ := [], m := [], nx := 0 }
noncomputable def B_wi : Code := loopBody (loopAt (bodyOf Try.f30) 0)
noncomputable def inv_wi (n m : Nat) (p r p2 r2 : Nat → Int) (k : Nat) : St := { σ := ovrS [(5, i k)] (E_wi n m p r p2 r2).σ, m := (E_wi n m p r p2 r2).m, nx := (E_wi n m p r p2 r2).nx }
noncomputable def out_wi (n m : Nat) (p r p2 r2 : Nat → Int) (k : Nat) : AEx → Option St := fun ex => match ex with
  | .exit 0 => some { σ := ovrS [] (E_wi n m p r p2 r2).σ, m := (E_wi n m p r p2 r2).m, nx := (E_wi n m p r p2 r2).nx }
  | .ret => some { σ := ovrS [(4, .lit false)] (E_wi n m p r p2 r2).σ, m := (E_wi n m p r p2 r2).m, nx := (E_wi n m p r p2 r2).nx }
  | _ => none
noncomputable def T_wi (n m : Nat) (p r p2 r2 : Nat → Int) : CT := .branch (allI (wiB p r p2 r2) n) (.leaf (.exit 0, ( out_wi n m p r p2 r2 0 (.exit 0)).getD (E_wi n m p r p2 r2))) (.leaf (.ret, ( out_wi n m p r p2 r2 0 .ret).getD (E_wi n m p r p2 r2)))
noncomputable def LS_wi (n m : Nat) (p r p2 r2 : Nat → Int) : LSpec := (sumL (inv_wi n m p r p2 r2 (0)) (T_wi n m p r p2 r2))
set_option maxRecDepth 100000 in
theorem wi_ls (n m : Nat) (p r p2 r2 : Nat → Int) (pre0 : n ≤ 100000) (pre1 : n = m) : LSound Try.prog (.loop B_wi) (LS_wi n m p r p2 r2) := by
  refine loop_rounds (G := []) (L := []) (SoundG.nil _) mixed noLoops (X := Nat) (inv_wi n m p r p2 r2) (fun k => k ≤ n ∧ ∀ j, j < k → (wiB p r p2 r2) j = true) (fun k => n - k) (out_wi n m p r p2 r2) (x0 := 0) ⟨by omega, fun j hj => by omega⟩ ?_ ?_ ?_
  · rintro k
    kernel_rfl
  · rintro k y E h
    unfold out_wi at h
    split at h
    · cases h; kernel_rfl
    · cases h; kernel_rfl
    · cases h
  · rintro Q hQ k hx
    refine ⟨(k + 1), ?_⟩
    have e : roundT Try.prog [] [] B_wi (inv_wi n m p r p2 r2 k) (inv_wi n m p r p2 r2 ((k + 1))) (out_wi n m p r p2 r2 k) = (Tree.branch (decide ((↑k : Int) < (↑n : Int))) (Tree.need [(0 : Int) ≤ (↑k : Int) ∧ (↑k : Int) < (↑n : Int)] (Tree.need [(0 : Int) ≤ (↑k : Int) ∧ (↑k : Int) < (↑m : Int)] (Tree.branch (decide (p k < p2 k)) (Tree.need [(AV.lst 2 n fun k => [iI (p k), iI (r k)]) = AV.lst 2 n fun k => [iI (p k), iI (r k)], (AV.lst 2 m fun k => [iI (p2 k), iI (r2 k)]) = AV.lst 2 m fun k => [iI (p2 k), iI (r2 k)], AV.lit false = AV.lit false] (Tree.leaf AEx.ret)) (Tree.need [(0 : Int) ≤ (↑k : Int) ∧ (↑k : Int) < (↑n : Int)] (Tree.need [(0 : Int) ≤ (↑k : Int) ∧ (↑k : Int) < (↑m : Int)] (Tree.branch (decide (r k > r2 k)) (Tree.need [(AV.lst 2 n fun k => [iI (p k), iI (r k)]) = AV.lst 2 n fun k => [iI (p k), iI (r k)], (AV.lst 2 m fun k => [iI (p2 k), iI (r2 k)]) = AV.lst 2 m fun k => [iI (p2 k), iI (r2 k)], AV.lit false = AV.lit false] (Tree.leaf AEx.ret)) (Tree.need [inI64 ((↑k : Int) + (1 : Int))] (Tree.need [(AV.lst 2 n fun k => [iI (p k), iI (r k)]) = AV.lst 2 n fun k => [iI (p k), iI (r k)], (AV.lst 2 m fun k => [iI (p2 k), iI (r2 k)]) = AV.lst 2 m fun k => [iI (p2 k), iI (r2 k)], (↑k : Int) + (1 : Int) = (↑(k + 1) : Int)] (Tree.leaf AEx.normal))))))))) (Tree.need [(AV.lst 2 n fun k => [iI (p k), iI (r k)]) = AV.lst 2 n fun k => [iI (p k), iI (r k)], (AV.lst 2 m fun k => [iI (p2 k), iI (r2 k)]) = AV.lst 2 m fun k => [iI (p2 k), iI (r2 k)]] (Tree.leaf (AEx.exit 0)))) := by kernel_rfl
    rw [e]
    simp only [T_wi, out_wi, Tree.sat, Option.getD_some] at hQ
    have hbad : k < n → (wiB p r p2 r2) k = false → allI (wiB p r p2 r2) n = false := by
      intro h1 h2
      rw [← Bool.not_eq_true]
      intro h3
      have := allI_iff.1 h3 k h1
      exact Bool.noConfusion (h2.symm.trans this)
    have hgood : (wiB p r p2 r2) k = true → ∀ j, j < k + 1 → (wiB p r p2 r2) j = true := by
      intro h1 j hj
      rcases (show j < k ∨ j = k by omega) with h | rfl
      · exact hx.2 j h
      · exact h1
    have hend : ¬ k < n → allI (wiB p r p2 r2) n = true := fun h => allI_iff.2 (fun j hj => hx.2 j (by omega))
    have hQ1 : ∀ E, out_wi n m p r p2 r2 k .ret = some E → allI (wiB p r p2 r2) n = false → Q (.ret, E) := by
      intro E hE hf
      cases hE
      exact hQ.2 hf
    have hQ2 : ∀ E, out_wi n m p r p2 r2 k (.exit 0) = some E → allI (wiB p r p2 r2) n = true → Q (.exit 0, E) := by
      intro E hE hf
      cases hE
      exact hQ.1 hf
    simp only [Tree.sat, allP, true_and, and_true, decide_eq_true_eq, decide_eq_false_iff_not, inI64, Int.toNat_natCast]
    
    clear e
    repeat' first | with_reducible apply And.intro | with_reducible intro _
    all_goals first | exact True.intro | omega | exact hQ1 _ (by assumption) (hbad (by omega) (by simp_all [wiB])) | exact hQ2 _ (by assumption) (hend (by omega)) | exact hgood (by simp_all [wiB]) _ (by assumption)

set_option maxRecDepth 100000 in
theorem wider_at (n m : Nat) (p r p2 r2 : Nat → Int) (pre0 : n ≤ 100000) : SoundAt Try.prog 30 [.lst 2 n (fun k => [i (p k), i (r k)]), .lst 2 m (fun k => [i (p2 k), i (r2 k)])] (bl (decide (n = m) && allI (wiB p r p2 r2) n)) := by
  refine soundAt_fin (G := []) (L := [needSp [n ≤ 100000, n = m] (LS_wi n m p r p2 r2)]) (SoundG.nil _) mixed Try.func30 (show Try.f30.body = some (bodyOf Try.f30) by kernel_rfl) (one_loop (fun cj hcj => by
    have e : loopAt (bodyOf Try.f30) 0 = some (.loop B_wi) := by kernel_rfl
    rw [e] at hcj; cases hcj
    exact needSp_sound (fun h => wi_ls n m p r p2 r2 h.1 h.2))) (t := (Tree.branch ((↑n : Int) != (↑m : Int)) (Tree.leaf (RV.x (Value.bool false))) (Tree.need [n ≤ 100000, n = m] (Tree.need [(AV.lst 2 n fun k => [iI (p k), iI (r k)]) = AV.lst 2 n fun k => [iI (p k), iI (r k)], (AV.lst 2 m fun k => [iI (p2 k), iI (r2 k)]) = AV.lst 2 m fun k => [iI (p2 k), iI (r2 k)], (0 : Int) = (↑(0 : Nat) : Int)] (Tree.branch (allI (wiB p r p2 r2) n) (Tree.leaf (RV.x (Value.bool true))) (Tree.leaf (RV.x (Value.bool false)))))))) (by kernel_rfl) ?_
  simp only [Tree.sat, allP, fitP, fitL, valEq, inI64, true_and, and_true, decide_eq_true_eq, decide_eq_false_iff_not, Int.natCast_zero, Int.toNat_natCast, bne_iff_ne, ne_eq]
  refine ⟨fun h => ?_, fun h => ?_⟩
  · have : n ≠ m := by intro h'; subst h'; simp at h
    simp [this]
  · have e : n = m := by
      rw [bne_eq_false_iff_eq] at h
      omega
    subst e
    refine ⟨⟨by omega, rfl⟩, fun h2 => ?_, fun h2 => ?_⟩
    · simp [h2]
    · simp [h2]

def S_wider : Sx.Spec := fun l => match l with
  | [.lst 2 n f, .lst 2 m g] => some ([isRec 2 n f, isRec 2 m g, n ≤ 100000], bl (decide (n = m) && allI (wiB (col 0 f) (col 1 f) (col 0 g) (col 1 g)) n))
  | _ => none

theorem wider_ok : SoundSpec Try.prog 30 S_wider := by
  refine ⟨⟨_, Try.func30, by kernel_rfl, by kernel_rfl⟩, ?_⟩
  intro avs ns res h hn
  unfold S_wider at h
  split at h
  · rename_i n f m g
    cases h
    have hr0 : isRec 2 n f := hn _ (by simp)
    have hr1 : isRec 2 m g := hn _ (by simp)
    exact (wider_at n m (col 0 f) (col 1 f) (col 0 g) (col 1 g) (hn _ (by simp))).same (.cons (.lst 2 n _ _ hr0) (.cons (.lst 2 m _ _ hr1) .nil))
  · cases h


theorem mul_le2 {N x y : Int} (hN : 0 ≤ N) (h : x ≤ y) : N * x ≤ N * y := Int.mul_le_mul_of_nonneg_left h hN
/-- A truth, multiplied. -/
theorem scale_tr {c : Nat} {T lo hi : Int} {n : Nat} {a b u v : Nat → Int} {h : Nat → Int} {N : Int} (hN : 1 ≤ N) (k : Tr c T lo hi n a b u v h) : Tr c (N * T) (N * lo) (N * hi) n a b (fun j => N * u j) (fun j => N * v j) (fun j => N * h j) := by
  obtain ⟨k1, k2, k3, k4⟩ := k
  refine ⟨by show N * h 0 = 0; rw [k1]; simp, by show N * h c = N * T; rw [k2], fun j hj => ?_, fun j hj => ⟨?_, fun hb => ?_⟩⟩
  · have h1 := mul_le2 (N := N) (by omega) (k3 j hj).1
    have h2 := mul_le2 (N := N) (by omega) (k3 j hj).2
    rw [Int.mul_sub] at h1 h2
    exact ⟨h1, h2⟩
  · have h1 := mul_le2 (N := N) (by omega) (k4 j hj).1
    rw [Int.mul_sub] at h1
    exact h1
  · have h1 := mul_le2 (N := N) (by omega) ((k4 j hj).2 hb)
    rw [Int.mul_sub, Int.mul_add, Int.mul_one] at h1
    show N * u j + 1 ≤ N * h (b j + 1).toNat - N * h (a j).toNat
    omega
theorem scale_bd {c T lo hi : Int} {n : Nat} {a b u v : Nat → Int} {N : Int} (hN : 1 ≤ N) (h1 : flt c T lo hi n a b u v = 0) (h2 : okB c T lo hi n a b u v = true) (h3 : flt c (N * T) (N * lo) (N * hi) n a b (fun j => N * u j) (fun j => N * v j) = 0) :
    okB c (N * T) (N * lo) (N * hi) n a b (fun j => N * u j) (fun j => N * v j) = true ∧ ∀ k : Nat, (k : Int) ≤ c → -fwB c (N * T) (N * lo) (N * hi) n a b (fun j => N * u j) (fun j => N * v j) k 0 ≤ N * -fwB c T lo hi n a b u v k 0 ∧ N * fwB c T lo hi n a b u v 0 k ≤ fwB c (N * T) (N * lo) (N * hi) n a b (fun j => N * u j) (fun j => N * v j) 0 k := by
  have hf := flt_iff.1 h1
  have hb := tube_bd hf.1
  have hr := rdOk_of hb.1 hf.2.2
  have hf3 := flt_iff.1 h3
  have hb3 := tube_bd hf3.1
  have hr3 := rdOk_of hb3.1 hf3.2.2
  have tl := scale_tr hN (tr_lo hb.2.1 hr h2)
  have th := scale_tr hN (tr_hi hb.2.1 hr h2)
  refine ⟨ok_of_tr hb3.2.1 hr3 tl, fun k hk => ?_⟩
  have b1 := tr_bd hb3.2.1 hr3 tl (x := k) (by omega)
  have b2 := tr_bd hb3.2.1 hr3 th (x := k) (by omega)
  exact ⟨b1.1, b2.2⟩

noncomputable def E_sy (c T lo hi : Int) (n : Nat) (w : Nat → Int) (m : Nat) (z : Nat → Int) (by_ : Int) (q : Nat) (a b u v : Nat → Int) : St := (some
  {
    σ :=
      [AV.agg
          [AV.x (Value.int IntKind.i64 c), AV.x (Value.int IntKind.i64 T), AV.x (Value.int IntKind.i64 lo),
            AV.x (Value.int IntKind.i64 hi)],
        AV.lst (1 : Nat) n fun k => [AV.x (Value.int IntKind.u16 (w k))],
        AV.lst (1 : Nat) m fun k => [AV.x (Value.int IntKind.u16 (z k))], AV.x (Value.int IntKind.u8 by_),
        AV.ptr (0 : Nat) (0 : Nat), AV.top, AV.top, AV.top, AV.lit false,
        AV.lst (4 : Nat) (min m (12 : Nat)) fun k =>
          [AV.x (Value.int IntKind.i64 (seA c (wAt [AV.x (Value.int IntKind.u16 (z k))]))),
            AV.x
              (Value.int IntKind.i64
                (seB c T (trV c T lo hi n fun j => wAt [AV.x (Value.int IntKind.u16 (w j))])
                  (wAt [AV.x (Value.int IntKind.u16 (z k))]))),
            AV.x
              (Value.int IntKind.i64
                (seU c T (trV c T lo hi n fun j => wAt [AV.x (Value.int IntKind.u16 (w j))])
                  (wAt [AV.x (Value.int IntKind.u16 (z k))]))),
            AV.x
              (Value.int IntKind.i64
                (seV c T (trV c T lo hi n fun j => wAt [AV.x (Value.int IntKind.u16 (w j))])
                  (wAt [AV.x (Value.int IntKind.u16 (z k))])))],
        AV.x (Value.int IntKind.i64 ((2 : Int) + Int.tmod by_ (4 : Int))), AV.ptr (35 : Nat) (0 : Nat), AV.top, AV.top,
        AV.top, AV.top, AV.top, AV.top, AV.top, AV.top, AV.top, AV.top, AV.top, AV.top, AV.top, AV.top, AV.top, AV.top,
        AV.top, AV.top, AV.top, AV.top, AV.top, AV.top, AV.top, AV.top, AV.top, AV.top, AV.top, AV.top, AV.top, AV.top,
        AV.top, AV.top, AV.top, AV.top, AV.top, AV.top, AV.top, AV.top, AV.top, AV.top, AV.top, AV.top, AV.top, AV.top,
        AV.top, AV.top, AV.top, AV.top, AV.top, AV.top, AV.top, AV.top, AV.top, AV.top, AV.top, AV.top, AV.top, AV.top,
        AV.top, AV.top, AV.top, AV.top, AV.top, AV.top, AV.top, AV.top, AV.top, AV.top, AV.top, AV.top, AV.top, AV.top,
        AV.top, AV.top, AV.top, AV.top, AV.top, AV.top, AV.top, AV.top, AV.top, AV.top, AV.top, AV.top, AV.top, AV.top,
        AV.top, AV.top, AV.top, AV.top, AV.top, AV.top, AV.top, AV.top, AV.top, AV.top, AV.top, AV.top, AV.top, AV.top,
        AV.top, AV.top, AV.top, AV.top, AV.top, AV.top, AV.top, AV.top, AV.top, AV.top, AV.top, AV.top, AV.top, AV.top,
        AV.top, AV.top, AV.top, AV.top, AV.top, AV.top, AV.top, AV.top, AV.top, AV.top, AV.top, AV.top, AV.top, AV.top,
        AV.top, AV.top, AV.top, AV.top, AV.top, AV.top, AV.top, AV.top, AV.top, AV.top, AV.top, AV.top, AV.top, AV.top,
        AV.top, AV.top, AV.top, AV.top, AV.top, AV.top, AV.top, AV.top, AV.top, AV.top, AV.top],
    m :=
      [((900 : Nat), Res.row (47 : Nat) (4 : Nat) (0 : Nat) fun x => []),
        ((35 : Nat),
          Res.cells (25 : Nat)
            [AV.x (Value.int IntKind.i64 c), AV.x (Value.int IntKind.i64 (((2 : Int) + Int.tmod by_ (4 : Int)) * T)),
              AV.x (Value.int IntKind.i64 (((2 : Int) + Int.tmod by_ (4 : Int)) * lo)),
              AV.x (Value.int IntKind.i64 (((2 : Int) + Int.tmod by_ (4 : Int)) * hi))]),
        ((0 : Nat),
          Res.cells (25 : Nat)
            [AV.x (Value.int IntKind.i64 c), AV.x (Value.int IntKind.i64 T), AV.x (Value.int IntKind.i64 lo),
              AV.x (Value.int IntKind.i64 hi)])],
    nx := (901 : Nat) } : Option St).getD { σ := [], m := [], nx := 0 }
noncomputable def B_sy : Code := loopBody (loopAt (bodyOf Try.f6) 0)
noncomputable def inv_sy (c T lo hi : Int) (n : Nat) (w : Nat → Int) (m : Nat) (z : Nat → Int) (by_ : Int) (q : Nat) (a b u v : Nat → Int) (k : Nat) : St := { σ := ovrS [(9, rds q a b u v), (12, .row 900), (13, i k)] (E_sy c T lo hi n w m z by_ q a b u v).σ, m := [(900, .row 47 4 (k) (fun k => [i (a k), i (b k), i ((2 + by_.tmod 4) * u k), i ((2 + by_.tmod 4) * v k)])), (35, .cells 25 [i c, i ((2 + by_.tmod 4) * T), i ((2 + by_.tmod 4) * lo), i ((2 + by_.tmod 4) * hi)]), (0, .cells 25 [i c, i T, i lo, i hi])], nx := (E_sy c T lo hi n w m z by_ q a b u v).nx }
noncomputable def out_sy (c T lo hi : Int) (n : Nat) (w : Nat → Int) (m : Nat) (z : Nat → Int) (by_ : Int) (q : Nat) (a b u v : Nat → Int) (k : Nat) : AEx → Option St := fun ex => match ex with
  | .exit 0 => some { σ := ovrS [(9, rds q a b u v), (12, .row 900)] (E_sy c T lo hi n w m z by_ q a b u v).σ, m := [(900, .row 47 4 (q) (fun k => [i (a k), i (b k), i ((2 + by_.tmod 4) * u k), i ((2 + by_.tmod 4) * v k)])), (35, .cells 25 [i c, i ((2 + by_.tmod 4) * T), i ((2 + by_.tmod 4) * lo), i ((2 + by_.tmod 4) * hi)]), (0, .cells 25 [i c, i T, i lo, i hi])], nx := (E_sy c T lo hi n w m z by_ q a b u v).nx }
  | _ => none
noncomputable def T_sy (c T lo hi : Int) (n : Nat) (w : Nat → Int) (m : Nat) (z : Nat → Int) (by_ : Int) (q : Nat) (a b u v : Nat → Int) : CT := .leaf (.exit 0, ( out_sy c T lo hi n w m z by_ q a b u v 0 (.exit 0)).getD (E_sy c T lo hi n w m z by_ q a b u v))
noncomputable def LS_sy (c T lo hi : Int) (n : Nat) (w : Nat → Int) (m : Nat) (z : Nat → Int) (by_ : Int) (q : Nat) (a b u v : Nat → Int) : LSpec := normSp [(.slot 12, 900, 47, 4)] (sumL (inv_sy c T lo hi n w m z by_ q a b u v (0)) (T_sy c T lo hi n w m z by_ q a b u v))
set_option maxRecDepth 100000 in
theorem sy_ls (c T lo hi : Int) (n : Nat) (w : Nat → Int) (m : Nat) (z : Nat → Int) (by_ : Int) (q : Nat) (a b u v : Nat → Int) (pre0 : 0 ≤ by_ ∧ by_ ≤ 255) (pre1 : tubeB c T lo hi = true) (pre2 : q ≤ 12) (pre3 : ∀ k, k < q → (0 ≤ u k ∧ u k ≤ 2000) ∧ 0 ≤ v k ∧ v k ≤ 2000) : LSound Try.prog (.loop B_sy) (LS_sy c T lo hi n w m z by_ q a b u v) := by
  refine loop_roundsX [(.slot 12, 900, 47, 4)] (E := { R := [], H := [] }) (G := [(31, S_rIsTube), (20, S_wakes), (34, S_Truly), (33, S_Seen), (28, S_ready), (22, S_lTube), (23, S_lReadings), (29, S_Heights)]) (L := []) (SoundG.cons rIsTube_ok (SoundG.cons wakes_ok (SoundG.cons Truly_ok (SoundG.cons Seen_ok (SoundG.cons ready_ok (SoundG.cons lTube_ok (SoundG.cons lReadings_ok (SoundG.cons Heights_ok (SoundG.nil _))))))))) (SoundX.of (SoundRL.nil _) (SoundHL.nil _)) mixed noLoops (X := Nat) (inv_sy c T lo hi n w m z by_ q a b u v) (fun k => k ≤ q) (fun k => q - k) (out_sy c T lo hi n w m z by_ q a b u v) (x0 := 0) (by simp) ?_ ?_ ?_
  · rintro k
    kernel_rfl
  · rintro k y E h
    unfold out_sy at h
    split at h
    · cases h; kernel_rfl
    · cases h
  · rintro Q hQ k hx
    refine ⟨(k + 1), ?_⟩
    have e : roundX Try.prog [(31, S_rIsTube), (20, S_wakes), (34, S_Truly), (33, S_Seen), (28, S_ready), (22, S_lTube), (23, S_lReadings), (29, S_Heights)] { R := [], H := [] } [] [(.slot 12, 900, 47, 4)] B_sy (inv_sy c T lo hi n w m z by_ q a b u v k) (inv_sy c T lo hi n w m z by_ q a b u v ((k + 1))) (out_sy c T lo hi n w m z by_ q a b u v k) = (Tree.branch (decide ((↑k : Int) < (↑q : Int))) (Tree.need [(0 : Int) ≤ (↑k : Int) ∧ (↑k : Int) < (↑q : Int)] (Tree.need [(0 : Int) ≤ (↑k : Int) ∧ (↑k : Int) < (↑q : Int)] (Tree.need [(0 : Int) ≤ (↑k : Int) ∧ (↑k : Int) < (↑q : Int)] (Tree.need [inI64 (((2 : Int) + Int.tmod by_ (4 : Int)) * u k)] (Tree.need [(0 : Int) ≤ (↑k : Int) ∧ (↑k : Int) < (↑q : Int)] (Tree.need [inI64 (((2 : Int) + Int.tmod by_ (4 : Int)) * v k)] (Tree.need [(k + 1) * 32 ≤ 140737488355328, ∀ (i : Nat), i < 1 → ∀ (a_2 : AV), a_2 ∈ chunk 4 [iI (a k), iI (b k), iI (((2 : Int) + Int.tmod by_ (4 : Int)) * u k), iI (((2 : Int) + Int.tmod by_ (4 : Int)) * v k)] i → AV.one a_2 = true] (Tree.need [inI64 ((↑k : Int) + (1 : Int))] (Tree.need [AV.agg [iI c, iI T, iI lo, iI hi] = AV.agg [iI c, iI T, iI lo, iI hi], (AV.lst 1 n fun k => [AV.x (Value.int IntKind.u16 (w k))]) = AV.lst 1 n fun k => [AV.x (Value.int IntKind.u16 (w k))], (AV.lst 1 m fun k => [AV.x (Value.int IntKind.u16 (z k))]) = AV.lst 1 m fun k => [AV.x (Value.int IntKind.u16 (z k))], by_ = by_, AV.ptr 0 0 = AV.ptr 0 0, AV.lit false = AV.lit false, (AV.lst 4 q fun k => [iI (a k), iI (b k), iI (u k), iI (v k)]) = AV.lst 4 q fun k => [iI (a k), iI (b k), iI (u k), iI (v k)], (2 : Int) + Int.tmod by_ (4 : Int) = (2 : Int) + Int.tmod by_ (4 : Int), AV.ptr 35 0 = AV.ptr 35 0, AV.row 900 = AV.row 900, (↑k : Int) + (1 : Int) = (↑(k + 1) : Int), k + 1 = k + 1, ∀ (i : Nat), i < k + 1 → catF k (fun k => [Ytmdeoobmeokmeaa.i (a k), Ytmdeoobmeokmeaa.i (b k), Ytmdeoobmeokmeaa.i (((2 : Int) + Int.tmod by_ (4 : Int)) * u k), Ytmdeoobmeokmeaa.i (((2 : Int) + Int.tmod by_ (4 : Int)) * v k)]) (chunk 4 [iI (a k), iI (b k), iI (((2 : Int) + Int.tmod by_ (4 : Int)) * u k), iI (((2 : Int) + Int.tmod by_ (4 : Int)) * v k)]) i = [Ytmdeoobmeokmeaa.i (a i), Ytmdeoobmeokmeaa.i (b i), Ytmdeoobmeokmeaa.i (((2 : Int) + Int.tmod by_ (4 : Int)) * u i), Ytmdeoobmeokmeaa.i (((2 : Int) + Int.tmod by_ (4 : Int)) * v i)], c = c, ((2 : Int) + Int.tmod by_ (4 : Int)) * T = ((2 : Int) + Int.tmod by_ (4 : Int)) * T, ((2 : Int) + Int.tmod by_ (4 : Int)) * lo = ((2 : Int) + Int.tmod by_ (4 : Int)) * lo, ((2 : Int) + Int.tmod by_ (4 : Int)) * hi = ((2 : Int) + Int.tmod by_ (4 : Int)) * hi, c = c, T = T, lo = lo, hi = hi] (Tree.leaf AEx.normal)))))))))) (Tree.need [AV.agg [iI c, iI T, iI lo, iI hi] = AV.agg [iI c, iI T, iI lo, iI hi], (AV.lst 1 n fun k => [AV.x (Value.int IntKind.u16 (w k))]) = AV.lst 1 n fun k => [AV.x (Value.int IntKind.u16 (w k))], (AV.lst 1 m fun k => [AV.x (Value.int IntKind.u16 (z k))]) = AV.lst 1 m fun k => [AV.x (Value.int IntKind.u16 (z k))], by_ = by_, AV.ptr 0 0 = AV.ptr 0 0, AV.lit false = AV.lit false, (AV.lst 4 q fun k => [iI (a k), iI (b k), iI (u k), iI (v k)]) = AV.lst 4 q fun k => [iI (a k), iI (b k), iI (u k), iI (v k)], (2 : Int) + Int.tmod by_ (4 : Int) = (2 : Int) + Int.tmod by_ (4 : Int), AV.ptr 35 0 = AV.ptr 35 0, AV.row 900 = AV.row 900, k = q, ∀ (i : Nat), i < q → [Ytmdeoobmeokmeaa.i (a i), Ytmdeoobmeokmeaa.i (b i), Ytmdeoobmeokmeaa.i (((2 : Int) + Int.tmod by_ (4 : Int)) * u i), Ytmdeoobmeokmeaa.i (((2 : Int) + Int.tmod by_ (4 : Int)) * v i)] = [Ytmdeoobmeokmeaa.i (a i), Ytmdeoobmeokmeaa.i (b i), Ytmdeoobmeokmeaa.i (((2 : Int) + Int.tmod by_ (4 : Int)) * u i), Ytmdeoobmeokmeaa.i (((2 : Int) + Int.tmod by_ (4 : Int)) * v i)], c = c, ((2 : Int) + Int.tmod by_ (4 : Int)) * T = ((2 : Int) + Int.tmod by_ (4 : Int)) * T, ((2 : Int) + Int.tmod by_ (4 : Int)) * lo = ((2 : Int) + Int.tmod by_ (4 : Int)) * lo, ((2 : Int) + Int.tmod by_ (4 : Int)) * hi = ((2 : Int) + Int.tmod by_ (4 : Int)) * hi, c = c, T = T, lo = lo, hi = hi] (Tree.leaf (AEx.exit 0)))) := by kernel_rfl
    rw [e]
    simp only [T_sy, out_sy, Tree.sat, Option.getD_some] at hQ
    simp only [Tree.sat, allP, fitP, fitL, valEq, inI64, true_and, and_true, decide_eq_true_eq, decide_eq_false_iff_not, Int.natCast_zero, Int.toNat_natCast, List.length_cons, List.length_nil, updL_one, out_sy]
    clear e
    have hb := tube_bd pre1
    have hN := tmod_bd (x := by_) (d := 4) (by omega) (by omega)
    have huv := pre3 k
    have m1 := fun h : k < q => mul_bd (x := 2 + by_.tmod 4) (y := u k) (X := 5) (Y := 2000) (by omega) (by have := huv h; omega)
    have m2 := fun h : k < q => mul_bd (x := 2 + by_.tmod 4) (y := v k) (X := 5) (Y := 2000) (by omega) (by have := huv h; omega)
    refine ⟨fun h => ?_, fun h => ?_⟩
    · (repeat' first | with_reducible apply And.intro | with_reducible intro _)
      all_goals first | exact True.intro | omega | with_reducible rfl | exact one_of (by assumption) (by simp [AV.one, Value.oneCell']) | exact catF4 (by assumption) rfl rfl rfl rfl | exact catF2 (by assumption) rfl rfl | (rename_i E hE; cases hE; exact hQ) | rfl | assumption | (first | (have := m1 (by omega); omega) | (have := m2 (by omega); omega))
    · obtain rfl : k = q := by omega
      (repeat' first | with_reducible apply And.intro | with_reducible intro _)
      all_goals first | exact True.intro | omega | with_reducible rfl | exact one_of (by assumption) (by simp [AV.one, Value.oneCell']) | exact catF4 (by assumption) rfl rfl rfl rfl | exact catF2 (by assumption) rfl rfl | (rename_i E hE; cases hE; exact hQ) | rfl | assumption | (first | (have := m1 (by omega); omega) | (have := m2 (by omega); omega))

noncomputable def E_sk (c T lo hi : Int) (n : Nat) (w : Nat → Int) (m : Nat) (z : Nat → Int) (by_ : Int) (L L2 : Nat) (p r p2 r2 : Nat → Int) : St := (some { σ := [.agg [i c, i T, i lo, i hi], wds n w, wds m z, .x (.int .u8 by_), .ptr 0 0, .top, .top, .top, .lit false, .top, i (2 + by_.tmod 4), .ptr 35 0, .top, .top, .lst 2 L (fun k => [i (p k), i (r k)]), .top, .lst 2 L2 (fun k => [i (p2 k), i (r2 k)]), .top, .top, .top, .top, .top, .top, .top, .top, .top, .top, .top, .top, .top, .top, .top, .top, .top, .top, .top, .top, .top, .top, .top, .top, .top, .top, .top, .top, .top, .top, .top, .top, .top, .top, .top, .top, .top, .top, .top, .top, .top, .top, .top, .top, .top, .top, .top, .top, .top, .top, .top, .top, .top, .top, .top, .top, .top, .top, .top, .top, .top, .top, .top, .top, .top, .top, .top, .top, .top, .top, .top, .top, .top, .top, .top, .top, .top, .top, .top, .top, .top, .top, .top, .top, .top, .top, .top, .top, .top, .top, .top, .top, .top, .top, .top, .top, .top, .top, .top, .top, .top, .top, .top, .top, .top, .top, .top, .top, .top, .top, .top, .top, .top, .top, .top, .top, .top, .top, .top, .top, .top, .top, .top, .top, .top, .top, .top, .top, .top, .top, .top, .top, .top, .top, .top, .top, .top, .top, .top, .top, .top, .top, .top, .top, .top, .top, .top, .top], m := [(35, .cells 25 [i c, i ((2 + by_.tmod 4) * T), i ((2 + by_.tmod 4) * lo), i ((2 + by_.tmod 4) * hi)]), (0, .cells 25 [i c, i T, i lo, i hi])], nx := 2000 } : Option St).getD { σ := [], m := [], nx := 0 }
noncomputable def B_sk : Code := loopBody (loopAt (bodyOf Try.f6) 1)
noncomputable def inv_sk (c T lo hi : Int) (n : Nat) (w : Nat → Int) (m : Nat) (z : Nat → Int) (by_ : Int) (L L2 : Nat) (p r p2 r2 : Nat → Int) (k : Nat) : St := { σ := ovrS [(18, i k)] (E_sk c T lo hi n w m z by_ L L2 p r p2 r2).σ, m := (E_sk c T lo hi n w m z by_ L L2 p r p2 r2).m, nx := (E_sk c T lo hi n w m z by_ L L2 p r p2 r2).nx }
noncomputable def out_sk (c T lo hi : Int) (n : Nat) (w : Nat → Int) (m : Nat) (z : Nat → Int) (by_ : Int) (L L2 : Nat) (p r p2 r2 : Nat → Int) (k : Nat) : AEx → Option St := fun ex => match ex with
  | .exit 2 => some { σ := ovrS [] (E_sk c T lo hi n w m z by_ L L2 p r p2 r2).σ, m := (E_sk c T lo hi n w m z by_ L L2 p r p2 r2).m, nx := (E_sk c T lo hi n w m z by_ L L2 p r p2 r2).nx }
  | _ => none
noncomputable def T_sk (c T lo hi : Int) (n : Nat) (w : Nat → Int) (m : Nat) (z : Nat → Int) (by_ : Int) (L L2 : Nat) (p r p2 r2 : Nat → Int) : CT := .leaf (.exit 2, ( out_sk c T lo hi n w m z by_ L L2 p r p2 r2 0 (.exit 2)).getD (E_sk c T lo hi n w m z by_ L L2 p r p2 r2))
noncomputable def LS_sk (c T lo hi : Int) (n : Nat) (w : Nat → Int) (m : Nat) (z : Nat → Int) (by_ : Int) (L L2 : Nat) (p r p2 r2 : Nat → Int) : LSpec := normSp [] (sumL (inv_sk c T lo hi n w m z by_ L L2 p r p2 r2 (0)) (T_sk c T lo hi n w m z by_ L L2 p r p2 r2))
set_option maxRecDepth 100000 in
theorem sk_ls (c T lo hi : Int) (n : Nat) (w : Nat → Int) (m : Nat) (z : Nat → Int) (by_ : Int) (L L2 : Nat) (p r p2 r2 : Nat → Int) (pre0 : 0 ≤ by_ ∧ by_ ≤ 255) (pre1 : L = L2) (pre2 : L ≤ 100) (pre3 : ∀ k, k < L → (-1000000000000 ≤ p k ∧ p k ≤ 1000000000000) ∧ (-1000000000000 ≤ r k ∧ r k ≤ 1000000000000)) (pre4 : ∀ k, k < L → p2 k ≤ (2 + by_.tmod 4) * p k ∧ (2 + by_.tmod 4) * r k ≤ r2 k) : LSound Try.prog (.loop B_sk) (LS_sk c T lo hi n w m z by_ L L2 p r p2 r2) := by
  refine loop_roundsX [] (E := { R := [], H := [] }) (G := [(31, S_rIsTube), (20, S_wakes), (34, S_Truly), (33, S_Seen), (28, S_ready), (22, S_lTube), (23, S_lReadings), (29, S_Heights)]) (L := []) (SoundG.cons rIsTube_ok (SoundG.cons wakes_ok (SoundG.cons Truly_ok (SoundG.cons Seen_ok (SoundG.cons ready_ok (SoundG.cons lTube_ok (SoundG.cons lReadings_ok (SoundG.cons Heights_ok (SoundG.nil _))))))))) (SoundX.of (SoundRL.nil _) (SoundHL.nil _)) mixed noLoops (X := Nat) (inv_sk c T lo hi n w m z by_ L L2 p r p2 r2) (fun k => k ≤ L) (fun k => L - k) (out_sk c T lo hi n w m z by_ L L2 p r p2 r2) (x0 := 0) (by simp) ?_ ?_ ?_
  · rintro k
    kernel_rfl
  · rintro k y E h
    unfold out_sk at h
    split at h
    · cases h; kernel_rfl
    · cases h
  · rintro Q hQ k hx
    refine ⟨(k + 1), ?_⟩
    have e : roundX Try.prog [(31, S_rIsTube), (20, S_wakes), (34, S_Truly), (33, S_Seen), (28, S_ready), (22, S_lTube), (23, S_lReadings), (29, S_Heights)] { R := [], H := [] } [] [] B_sk (inv_sk c T lo hi n w m z by_ L L2 p r p2 r2 k) (inv_sk c T lo hi n w m z by_ L L2 p r p2 r2 ((k + 1))) (out_sk c T lo hi n w m z by_ L L2 p r p2 r2 k) = (Tree.branch (decide ((↑k : Int) < (↑L : Int))) (Tree.need [(0 : Int) ≤ (↑k : Int) ∧ (↑k : Int) < (↑L2 : Int)] (Tree.need [(0 : Int) ≤ (↑k : Int) ∧ (↑k : Int) < (↑L : Int)] (Tree.need [inI64 (((2 : Int) + Int.tmod by_ (4 : Int)) * p k)] (Tree.branch (decide (p2 k > ((2 : Int) + Int.tmod by_ (4 : Int)) * p k)) Tree.fail (Tree.need [(0 : Int) ≤ (↑k : Int) ∧ (↑k : Int) < (↑L2 : Int)] (Tree.need [(0 : Int) ≤ (↑k : Int) ∧ (↑k : Int) < (↑L : Int)] (Tree.need [inI64 (((2 : Int) + Int.tmod by_ (4 : Int)) * r k)] (Tree.branch (decide (r2 k < ((2 : Int) + Int.tmod by_ (4 : Int)) * r k)) Tree.fail (Tree.need [inI64 ((↑k : Int) + (1 : Int))] (Tree.need [AV.agg [iI c, iI T, iI lo, iI hi] = AV.agg [iI c, iI T, iI lo, iI hi], (AV.lst 1 n fun k => [AV.x (Value.int IntKind.u16 (w k))]) = AV.lst 1 n fun k => [AV.x (Value.int IntKind.u16 (w k))], (AV.lst 1 m fun k => [AV.x (Value.int IntKind.u16 (z k))]) = AV.lst 1 m fun k => [AV.x (Value.int IntKind.u16 (z k))], by_ = by_, AV.ptr 0 0 = AV.ptr 0 0, AV.lit false = AV.lit false, (2 : Int) + Int.tmod by_ (4 : Int) = (2 : Int) + Int.tmod by_ (4 : Int), AV.ptr 35 0 = AV.ptr 35 0, (AV.lst 2 L fun k => [iI (p k), iI (r k)]) = AV.lst 2 L fun k => [iI (p k), iI (r k)], (AV.lst 2 L2 fun k => [iI (p2 k), iI (r2 k)]) = AV.lst 2 L2 fun k => [iI (p2 k), iI (r2 k)], (↑k : Int) + (1 : Int) = (↑(k + 1) : Int), c = c, ((2 : Int) + Int.tmod by_ (4 : Int)) * T = ((2 : Int) + Int.tmod by_ (4 : Int)) * T, ((2 : Int) + Int.tmod by_ (4 : Int)) * lo = ((2 : Int) + Int.tmod by_ (4 : Int)) * lo, ((2 : Int) + Int.tmod by_ (4 : Int)) * hi = ((2 : Int) + Int.tmod by_ (4 : Int)) * hi, c = c, T = T, lo = lo, hi = hi] (Tree.leaf AEx.normal))))))))))) (Tree.need [AV.agg [iI c, iI T, iI lo, iI hi] = AV.agg [iI c, iI T, iI lo, iI hi], (AV.lst 1 n fun k => [AV.x (Value.int IntKind.u16 (w k))]) = AV.lst 1 n fun k => [AV.x (Value.int IntKind.u16 (w k))], (AV.lst 1 m fun k => [AV.x (Value.int IntKind.u16 (z k))]) = AV.lst 1 m fun k => [AV.x (Value.int IntKind.u16 (z k))], by_ = by_, AV.ptr 0 0 = AV.ptr 0 0, AV.lit false = AV.lit false, (2 : Int) + Int.tmod by_ (4 : Int) = (2 : Int) + Int.tmod by_ (4 : Int), AV.ptr 35 0 = AV.ptr 35 0, (AV.lst 2 L fun k => [iI (p k), iI (r k)]) = AV.lst 2 L fun k => [iI (p k), iI (r k)], (AV.lst 2 L2 fun k => [iI (p2 k), iI (r2 k)]) = AV.lst 2 L2 fun k => [iI (p2 k), iI (r2 k)], c = c, ((2 : Int) + Int.tmod by_ (4 : Int)) * T = ((2 : Int) + Int.tmod by_ (4 : Int)) * T, ((2 : Int) + Int.tmod by_ (4 : Int)) * lo = ((2 : Int) + Int.tmod by_ (4 : Int)) * lo, ((2 : Int) + Int.tmod by_ (4 : Int)) * hi = ((2 : Int) + Int.tmod by_ (4 : Int)) * hi, c = c, T = T, lo = lo, hi = hi] (Tree.leaf (AEx.exit 2)))) := by kernel_rfl
    rw [e]
    have hN := tmod_bd (x := by_) (d := 4) (by omega) (by omega)
    have m1 := fun h : k < L => mul_bd (x := 2 + by_.tmod 4) (y := p k) (X := 5) (Y := 1000000000000) (by omega) (by have := pre3 k h; omega)
    have m2 := fun h : k < L => mul_bd (x := 2 + by_.tmod 4) (y := r k) (X := 5) (Y := 1000000000000) (by omega) (by have := pre3 k h; omega)
    
    simp only [T_sk, out_sk, Tree.sat, Option.getD_some] at hQ
    simp only [Tree.sat, allP, fitP, fitL, valEq, inI64, true_and, and_true, decide_eq_true_eq, decide_eq_false_iff_not, Int.natCast_zero, Int.toNat_natCast, List.length_cons, List.length_nil, updL_one, out_sk]
    clear e
    have h4 := pre4 k
    refine ⟨fun h => ?_, fun h => ?_⟩
    · (repeat' first | with_reducible apply And.intro | with_reducible intro _)
      all_goals first | exact True.intro | omega | with_reducible rfl | exact one_of (by assumption) (by simp [AV.one, Value.oneCell']) | exact catF4 (by assumption) rfl rfl rfl rfl | exact catF2 (by assumption) rfl rfl | (rename_i E hE; cases hE; exact hQ) | rfl | assumption | (first | (have := m1 (by omega); omega) | (have := m2 (by omega); omega) | (have := h4 (by omega); omega))
    · obtain rfl : k = L := by omega
      (repeat' first | with_reducible apply And.intro | with_reducible intro _)
      all_goals first | exact True.intro | omega | with_reducible rfl | exact one_of (by assumption) (by simp [AV.one, Value.oneCell']) | exact catF4 (by assumption) rfl rfl rfl rfl | exact catF2 (by assumption) rfl rfl | (rename_i E hE; cases hE; exact hQ) | rfl | assumption | (first | (have := m1 (by omega); omega) | (have := m2 (by omega); omega) | (have := h4 (by omega); omega))

set_option maxRecDepth 100000 in
theorem BoreScaled_at (c T lo hi : Int) (n : Nat) (w : Nat → Int) (m : Nat) (z : Nat → Int) (by_ : Int) (pre0 : n ≤ 10000000000000000000) (pre1 : wOk n w) (pre2 : m ≤ 10000000000000000000) (pre3 : wOk m z) (pre4 : 0 ≤ by_ ∧ by_ ≤ 255) : SoundAt Try.prog 6 [.agg [i c, i T, i lo, i hi], wds n w, wds m z, .x (.int .u8 by_)] (bl true) := by
  refine soundAt_finX (G := [(31, S_rIsTube), (20, S_wakes), (34, S_Truly), (33, S_Seen), (28, S_ready), (22, S_lTube), (23, S_lReadings), (29, S_Heights)]) (X := { R := [], H := [] }) (L := [needSp [0 ≤ by_ ∧ by_ ≤ 255, tubeB c T lo hi = true, min m 12 ≤ 12, ∀ k, k < min m 12 → (0 ≤ zU c T lo hi n w z k ∧ zU c T lo hi n w z k ≤ 2000) ∧ 0 ≤ zV c T lo hi n w z k ∧ zV c T lo hi n w z k ≤ 2000] (LS_sy c T lo hi n w m z by_ (min m 12) (zA c z) (zB c T lo hi n w z) (zU c T lo hi n w z) (zV c T lo hi n w z)), needSp [0 ≤ by_ ∧ by_ ≤ 255, lenB c T lo hi (min m 12) (zA c z) (zB c T lo hi n w z) (zU c T lo hi n w z) (zV c T lo hi n w z) = lenB c ((2 + by_.tmod 4) * T) ((2 + by_.tmod 4) * lo) ((2 + by_.tmod 4) * hi) (min m 12) (zA c z) (zB c T lo hi n w z) (fun j => (2 + by_.tmod 4) * zU c T lo hi n w z j) (fun j => (2 + by_.tmod 4) * zV c T lo hi n w z j), lenB c T lo hi (min m 12) (zA c z) (zB c T lo hi n w z) (zU c T lo hi n w z) (zV c T lo hi n w z) ≤ 100, ∀ k, k < lenB c T lo hi (min m 12) (zA c z) (zB c T lo hi n w z) (zU c T lo hi n w z) (zV c T lo hi n w z) → (-1000000000000 ≤ -(fwB c T lo hi (min m 12) (zA c z) (zB c T lo hi n w z) (zU c T lo hi n w z) (zV c T lo hi n w z) k 0) ∧ -(fwB c T lo hi (min m 12) (zA c z) (zB c T lo hi n w z) (zU c T lo hi n w z) (zV c T lo hi n w z) k 0) ≤ 1000000000000) ∧ (-1000000000000 ≤ fwB c T lo hi (min m 12) (zA c z) (zB c T lo hi n w z) (zU c T lo hi n w z) (zV c T lo hi n w z) 0 k ∧ fwB c T lo hi (min m 12) (zA c z) (zB c T lo hi n w z) (zU c T lo hi n w z) (zV c T lo hi n w z) 0 k ≤ 1000000000000), ∀ k, k < lenB c T lo hi (min m 12) (zA c z) (zB c T lo hi n w z) (zU c T lo hi n w z) (zV c T lo hi n w z) → -(fwB c ((2 + by_.tmod 4) * T) ((2 + by_.tmod 4) * lo) ((2 + by_.tmod 4) * hi) (min m 12) (zA c z) (zB c T lo hi n w z) (fun j => (2 + by_.tmod 4) * zU c T lo hi n w z j) (fun j => (2 + by_.tmod 4) * zV c T lo hi n w z j) k 0) ≤ (2 + by_.tmod 4) * -(fwB c T lo hi (min m 12) (zA c z) (zB c T lo hi n w z) (zU c T lo hi n w z) (zV c T lo hi n w z) k 0) ∧ (2 + by_.tmod 4) * fwB c T lo hi (min m 12) (zA c z) (zB c T lo hi n w z) (zU c T lo hi n w z) (zV c T lo hi n w z) 0 k ≤ fwB c ((2 + by_.tmod 4) * T) ((2 + by_.tmod 4) * lo) ((2 + by_.tmod 4) * hi) (min m 12) (zA c z) (zB c T lo hi n w z) (fun j => (2 + by_.tmod 4) * zU c T lo hi n w z j) (fun j => (2 + by_.tmod 4) * zV c T lo hi n w z j) 0 k] (LS_sk c T lo hi n w m z by_ (lenB c T lo hi (min m 12) (zA c z) (zB c T lo hi n w z) (zU c T lo hi n w z) (zV c T lo hi n w z)) (lenB c ((2 + by_.tmod 4) * T) ((2 + by_.tmod 4) * lo) ((2 + by_.tmod 4) * hi) (min m 12) (zA c z) (zB c T lo hi n w z) (fun j => (2 + by_.tmod 4) * zU c T lo hi n w z j) (fun j => (2 + by_.tmod 4) * zV c T lo hi n w z j)) (fun k => -(fwB c T lo hi (min m 12) (zA c z) (zB c T lo hi n w z) (zU c T lo hi n w z) (zV c T lo hi n w z) k 0)) (fun k => fwB c T lo hi (min m 12) (zA c z) (zB c T lo hi n w z) (zU c T lo hi n w z) (zV c T lo hi n w z) 0 k) (fun k => -(fwB c ((2 + by_.tmod 4) * T) ((2 + by_.tmod 4) * lo) ((2 + by_.tmod 4) * hi) (min m 12) (zA c z) (zB c T lo hi n w z) (fun j => (2 + by_.tmod 4) * zU c T lo hi n w z j) (fun j => (2 + by_.tmod 4) * zV c T lo hi n w z j) k 0)) (fun k => fwB c ((2 + by_.tmod 4) * T) ((2 + by_.tmod 4) * lo) ((2 + by_.tmod 4) * hi) (min m 12) (zA c z) (zB c T lo hi n w z) (fun j => (2 + by_.tmod 4) * zU c T lo hi n w z j) (fun j => (2 + by_.tmod 4) * zV c T lo hi n w z j) 0 k))]) (SoundG.cons rIsTube_ok (SoundG.cons wakes_ok (SoundG.cons Truly_ok (SoundG.cons Seen_ok (SoundG.cons ready_ok (SoundG.cons lTube_ok (SoundG.cons lReadings_ok (SoundG.cons Heights_ok (SoundG.nil _))))))))) (SoundX.of (SoundRL.nil _) (SoundHL.nil _)) mixed Try.func6 (show Try.f6.body = some (bodyOf Try.f6) by kernel_rfl) (two_loopsN (fun cj hcj => by
    have e : loopAt (bodyOf Try.f6) 0 = some (.loop B_sy) := by kernel_rfl
    rw [e] at hcj; cases hcj
    exact (needSp_sound (ps := [0 ≤ by_ ∧ by_ ≤ 255, tubeB c T lo hi = true, min m 12 ≤ 12, ∀ k, k < min m 12 → (0 ≤ zU c T lo hi n w z k ∧ zU c T lo hi n w z k ≤ 2000) ∧ 0 ≤ zV c T lo hi n w z k ∧ zV c T lo hi n w z k ≤ 2000]) (fun h => sy_ls c T lo hi n w m z by_ (min m 12) (zA c z) (zB c T lo hi n w z) (zU c T lo hi n w z) (zV c T lo hi n w z) h.1 h.2.1 h.2.2.1 h.2.2.2)).N) (fun cj hcj => by
    have e : loopAt (bodyOf Try.f6) 1 = some (.loop B_sk) := by kernel_rfl
    rw [e] at hcj; cases hcj
    exact (needSp_sound (ps := [0 ≤ by_ ∧ by_ ≤ 255, lenB c T lo hi (min m 12) (zA c z) (zB c T lo hi n w z) (zU c T lo hi n w z) (zV c T lo hi n w z) = lenB c ((2 + by_.tmod 4) * T) ((2 + by_.tmod 4) * lo) ((2 + by_.tmod 4) * hi) (min m 12) (zA c z) (zB c T lo hi n w z) (fun j => (2 + by_.tmod 4) * zU c T lo hi n w z j) (fun j => (2 + by_.tmod 4) * zV c T lo hi n w z j), lenB c T lo hi (min m 12) (zA c z) (zB c T lo hi n w z) (zU c T lo hi n w z) (zV c T lo hi n w z) ≤ 100, ∀ k, k < lenB c T lo hi (min m 12) (zA c z) (zB c T lo hi n w z) (zU c T lo hi n w z) (zV c T lo hi n w z) → (-1000000000000 ≤ -(fwB c T lo hi (min m 12) (zA c z) (zB c T lo hi n w z) (zU c T lo hi n w z) (zV c T lo hi n w z) k 0) ∧ -(fwB c T lo hi (min m 12) (zA c z) (zB c T lo hi n w z) (zU c T lo hi n w z) (zV c T lo hi n w z) k 0) ≤ 1000000000000) ∧ (-1000000000000 ≤ fwB c T lo hi (min m 12) (zA c z) (zB c T lo hi n w z) (zU c T lo hi n w z) (zV c T lo hi n w z) 0 k ∧ fwB c T lo hi (min m 12) (zA c z) (zB c T lo hi n w z) (zU c T lo hi n w z) (zV c T lo hi n w z) 0 k ≤ 1000000000000), ∀ k, k < lenB c T lo hi (min m 12) (zA c z) (zB c T lo hi n w z) (zU c T lo hi n w z) (zV c T lo hi n w z) → -(fwB c ((2 + by_.tmod 4) * T) ((2 + by_.tmod 4) * lo) ((2 + by_.tmod 4) * hi) (min m 12) (zA c z) (zB c T lo hi n w z) (fun j => (2 + by_.tmod 4) * zU c T lo hi n w z j) (fun j => (2 + by_.tmod 4) * zV c T lo hi n w z j) k 0) ≤ (2 + by_.tmod 4) * -(fwB c T lo hi (min m 12) (zA c z) (zB c T lo hi n w z) (zU c T lo hi n w z) (zV c T lo hi n w z) k 0) ∧ (2 + by_.tmod 4) * fwB c T lo hi (min m 12) (zA c z) (zB c T lo hi n w z) (zU c T lo hi n w z) (zV c T lo hi n w z) 0 k ≤ fwB c ((2 + by_.tmod 4) * T) ((2 + by_.tmod 4) * lo) ((2 + by_.tmod 4) * hi) (min m 12) (zA c z) (zB c T lo hi n w z) (fun j => (2 + by_.tmod 4) * zU c T lo hi n w z j) (fun j => (2 + by_.tmod 4) * zV c T lo hi n w z j) 0 k]) (fun h => sk_ls c T lo hi n w m z by_ (lenB c T lo hi (min m 12) (zA c z) (zB c T lo hi n w z) (zU c T lo hi n w z) (zV c T lo hi n w z)) (lenB c ((2 + by_.tmod 4) * T) ((2 + by_.tmod 4) * lo) ((2 + by_.tmod 4) * hi) (min m 12) (zA c z) (zB c T lo hi n w z) (fun j => (2 + by_.tmod 4) * zU c T lo hi n w z j) (fun j => (2 + by_.tmod 4) * zV c T lo hi n w z j)) (fun k => -(fwB c T lo hi (min m 12) (zA c z) (zB c T lo hi n w z) (zU c T lo hi n w z) (zV c T lo hi n w z) k 0)) (fun k => fwB c T lo hi (min m 12) (zA c z) (zB c T lo hi n w z) (zU c T lo hi n w z) (zV c T lo hi n w z) 0 k) (fun k => -(fwB c ((2 + by_.tmod 4) * T) ((2 + by_.tmod 4) * lo) ((2 + by_.tmod 4) * hi) (min m 12) (zA c z) (zB c T lo hi n w z) (fun j => (2 + by_.tmod 4) * zU c T lo hi n w z j) (fun j => (2 + by_.tmod 4) * zV c T lo hi n w z j) k 0)) (fun k => fwB c ((2 + by_.tmod 4) * T) ((2 + by_.tmod 4) * lo) ((2 + by_.tmod 4) * hi) (min m 12) (zA c z) (zB c T lo hi n w z) (fun j => (2 + by_.tmod 4) * zU c T lo hi n w z j) (fun j => (2 + by_.tmod 4) * zV c T lo hi n w z j) 0 k) h.1 h.2.1 h.2.2.1 h.2.2.2.1 h.2.2.2.2)).N)) (t := (Tree.branch (!tubeB c T lo hi) (Tree.leaf (RV.x (Value.bool true))) (Tree.need [isW n fun k => [AV.x (Value.int IntKind.u16 (w k))], tubeB c T lo hi = true, n ≤ 10000000000000000000, wOk n fun j => wAt [AV.x (Value.int IntKind.u16 (w j))]] (Tree.need [isRec 1 (Int.toNat c) fun k => [i (trV c T lo hi n (fun j => wAt [AV.x (Value.int IntKind.u16 (w j))]) k)], isW m fun k => [AV.x (Value.int IntKind.u16 (z k))], tubeB c T lo hi = true, (↑(Int.toNat c) : Int) = c, ∀ (j : Nat), j < Int.toNat c → lo ≤ trV c T lo hi n (fun j => wAt [AV.x (Value.int IntKind.u16 (w j))]) j ∧ trV c T lo hi n (fun j => wAt [AV.x (Value.int IntKind.u16 (w j))]) j ≤ hi, m ≤ 10000000000000000000, wOk m fun j => wAt [AV.x (Value.int IntKind.u16 (z j))]] (Tree.need [inI64 by_] (Tree.need [(4 : Int) ≠ (0 : Int)] (Tree.need [inI64 ((2 : Int) + Int.tmod by_ (4 : Int))] (Tree.need [inI64 (((2 : Int) + Int.tmod by_ (4 : Int)) * T)] (Tree.need [inI64 (((2 : Int) + Int.tmod by_ (4 : Int)) * lo)] (Tree.need [inI64 (((2 : Int) + Int.tmod by_ (4 : Int)) * hi)] (Tree.need [(0 : Int) ≤ by_ ∧ by_ ≤ (255 : Int), tubeB c T lo hi = true, min m 12 ≤ 12, ∀ (k : Nat), k < min m 12 → ((0 : Int) ≤ zU c T lo hi n w z k ∧ zU c T lo hi n w z k ≤ (2000 : Int)) ∧ (0 : Int) ≤ zV c T lo hi n w z k ∧ zV c T lo hi n w z k ≤ (2000 : Int)] (Tree.need [AV.agg [iI c, iI T, iI lo, iI hi] = AV.agg [iI c, iI T, iI lo, iI hi], (AV.lst 1 n fun k => [AV.x (Value.int IntKind.u16 (w k))]) = AV.lst 1 n fun k => [AV.x (Value.int IntKind.u16 (w k))], (AV.lst 1 m fun k => [AV.x (Value.int IntKind.u16 (z k))]) = AV.lst 1 m fun k => [AV.x (Value.int IntKind.u16 (z k))], by_ = by_, AV.ptr 0 0 = AV.ptr 0 0, AV.lit false = AV.lit false, (AV.lst 4 (min m 12) fun k => [iI (seA c (wAt [AV.x (Value.int IntKind.u16 (z k))])), iI (seB c T (trV c T lo hi n fun j => wAt [AV.x (Value.int IntKind.u16 (w j))]) (wAt [AV.x (Value.int IntKind.u16 (z k))])), iI (seU c T (trV c T lo hi n fun j => wAt [AV.x (Value.int IntKind.u16 (w j))]) (wAt [AV.x (Value.int IntKind.u16 (z k))])), iI (seV c T (trV c T lo hi n fun j => wAt [AV.x (Value.int IntKind.u16 (w j))]) (wAt [AV.x (Value.int IntKind.u16 (z k))]))]) = AV.lst 4 (min m 12) fun k => [iI (zA c z k), iI (zB c T lo hi n w z k), iI (zU c T lo hi n w z k), iI (zV c T lo hi n w z k)], (2 : Int) + Int.tmod by_ (4 : Int) = (2 : Int) + Int.tmod by_ (4 : Int), AV.ptr 35 0 = AV.ptr 35 0, AV.row 900 = AV.row 900, (0 : Int) = (↑(0 : Nat) : Int), 0 = 0, ∀ (i : Nat), i < 0 → [] = [Ytmdeoobmeokmeaa.i (zA c z i), Ytmdeoobmeokmeaa.i (zB c T lo hi n w z i), Ytmdeoobmeokmeaa.i (((2 : Int) + Int.tmod by_ (4 : Int)) * zU c T lo hi n w z i), Ytmdeoobmeokmeaa.i (((2 : Int) + Int.tmod by_ (4 : Int)) * zV c T lo hi n w z i)], c = c, ((2 : Int) + Int.tmod by_ (4 : Int)) * T = ((2 : Int) + Int.tmod by_ (4 : Int)) * T, ((2 : Int) + Int.tmod by_ (4 : Int)) * lo = ((2 : Int) + Int.tmod by_ (4 : Int)) * lo, ((2 : Int) + Int.tmod by_ (4 : Int)) * hi = ((2 : Int) + Int.tmod by_ (4 : Int)) * hi, c = c, T = T, lo = lo, hi = hi] (Tree.need [isRec 4 (min m 12) fun k => [i (zA c z k), i (zB c T lo hi n w z k), i (((2 : Int) + Int.tmod by_ (4 : Int)) * zU c T lo hi n w z k), i (((2 : Int) + Int.tmod by_ (4 : Int)) * zV c T lo hi n w z k)]] (Tree.branch (!rdyB c (((2 : Int) + Int.tmod by_ (4 : Int)) * T) (((2 : Int) + Int.tmod by_ (4 : Int)) * lo) (((2 : Int) + Int.tmod by_ (4 : Int)) * hi) (min m 12) (zA c z) (zB c T lo hi n w z) (fun k => ((2 : Int) + Int.tmod by_ (4 : Int)) * zU c T lo hi n w z k) fun k => ((2 : Int) + Int.tmod by_ (4 : Int)) * zV c T lo hi n w z k) (Tree.leaf (RV.x (Value.bool true))) (Tree.need [isRec 4 (min m 12) fun k => [i (zA c z k), i (zB c T lo hi n w z k), i (zU c T lo hi n w z k), i (zV c T lo hi n w z k)], min m 12 ≤ 100000] (Tree.need [isRec 4 (min m 12) fun k => [i (zA c z k), i (zB c T lo hi n w z k), i (zU c T lo hi n w z k), i (zV c T lo hi n w z k)]] (Tree.need [isRec 4 (min m 12) fun k => [i (zA c z k), i (zB c T lo hi n w z k), i (((2 : Int) + Int.tmod by_ (4 : Int)) * zU c T lo hi n w z k), i (((2 : Int) + Int.tmod by_ (4 : Int)) * zV c T lo hi n w z k)], min m 12 ≤ 100000] (Tree.need [isRec 4 (min m 12) fun k => [i (zA c z k), i (zB c T lo hi n w z k), i (((2 : Int) + Int.tmod by_ (4 : Int)) * zU c T lo hi n w z k), i (((2 : Int) + Int.tmod by_ (4 : Int)) * zV c T lo hi n w z k)]] (Tree.branch (eB c T lo hi (min m 12) (zA c z) (zB c T lo hi n w z) (zU c T lo hi n w z) (zV c T lo hi n w z) != (0 : Int)) (Tree.leaf (RV.x (Value.bool false))) (Tree.branch ((eB c (((2 : Int) + Int.tmod by_ (4 : Int)) * T) (((2 : Int) + Int.tmod by_ (4 : Int)) * lo) (((2 : Int) + Int.tmod by_ (4 : Int)) * hi) (min m 12) (zA c z) (zB c T lo hi n w z) (fun k => ((2 : Int) + Int.tmod by_ (4 : Int)) * zU c T lo hi n w z k) fun k => ((2 : Int) + Int.tmod by_ (4 : Int)) * zV c T lo hi n w z k) != (0 : Int)) (Tree.leaf (RV.x (Value.bool false))) (Tree.need [inI64 (c + (1 : Int))] (Tree.branch ((↑(lenB c T lo hi (min m 12) (zA c z) (zB c T lo hi n w z) (zU c T lo hi n w z) (zV c T lo hi n w z)) : Int) != c + (1 : Int)) (Tree.leaf (RV.x (Value.bool false))) (Tree.branch ((↑(lenB c (((2 : Int) + Int.tmod by_ (4 : Int)) * T) (((2 : Int) + Int.tmod by_ (4 : Int)) * lo) (((2 : Int) + Int.tmod by_ (4 : Int)) * hi) (min m 12) (zA c z) (zB c T lo hi n w z) (fun k => ((2 : Int) + Int.tmod by_ (4 : Int)) * zU c T lo hi n w z k) fun k => ((2 : Int) + Int.tmod by_ (4 : Int)) * zV c T lo hi n w z k) : Int) != (↑(lenB c T lo hi (min m 12) (zA c z) (zB c T lo hi n w z) (zU c T lo hi n w z) (zV c T lo hi n w z)) : Int)) (Tree.leaf (RV.x (Value.bool false))) (Tree.need [(0 : Int) ≤ by_ ∧ by_ ≤ (255 : Int), lenB c T lo hi (min m 12) (zA c z) (zB c T lo hi n w z) (zU c T lo hi n w z) (zV c T lo hi n w z) = lenB c (((2 : Int) + Int.tmod by_ (4 : Int)) * T) (((2 : Int) + Int.tmod by_ (4 : Int)) * lo) (((2 : Int) + Int.tmod by_ (4 : Int)) * hi) (min m 12) (zA c z) (zB c T lo hi n w z) (fun j => ((2 : Int) + Int.tmod by_ (4 : Int)) * zU c T lo hi n w z j) fun j => ((2 : Int) + Int.tmod by_ (4 : Int)) * zV c T lo hi n w z j, lenB c T lo hi (min m 12) (zA c z) (zB c T lo hi n w z) (zU c T lo hi n w z) (zV c T lo hi n w z) ≤ 100, ∀ (k : Nat), k < lenB c T lo hi (min m 12) (zA c z) (zB c T lo hi n w z) (zU c T lo hi n w z) (zV c T lo hi n w z) → ((-1000000000000 : Int) ≤ -fwB c T lo hi (min m 12) (zA c z) (zB c T lo hi n w z) (zU c T lo hi n w z) (zV c T lo hi n w z) k 0 ∧ -fwB c T lo hi (min m 12) (zA c z) (zB c T lo hi n w z) (zU c T lo hi n w z) (zV c T lo hi n w z) k 0 ≤ (1000000000000 : Int)) ∧ (-1000000000000 : Int) ≤ fwB c T lo hi (min m 12) (zA c z) (zB c T lo hi n w z) (zU c T lo hi n w z) (zV c T lo hi n w z) 0 k ∧ fwB c T lo hi (min m 12) (zA c z) (zB c T lo hi n w z) (zU c T lo hi n w z) (zV c T lo hi n w z) 0 k ≤ (1000000000000 : Int), ∀ (k : Nat), k < lenB c T lo hi (min m 12) (zA c z) (zB c T lo hi n w z) (zU c T lo hi n w z) (zV c T lo hi n w z) → -fwB c (((2 : Int) + Int.tmod by_ (4 : Int)) * T) (((2 : Int) + Int.tmod by_ (4 : Int)) * lo) (((2 : Int) + Int.tmod by_ (4 : Int)) * hi) (min m 12) (zA c z) (zB c T lo hi n w z) (fun j => ((2 : Int) + Int.tmod by_ (4 : Int)) * zU c T lo hi n w z j) (fun j => ((2 : Int) + Int.tmod by_ (4 : Int)) * zV c T lo hi n w z j) k 0 ≤ ((2 : Int) + Int.tmod by_ (4 : Int)) * -fwB c T lo hi (min m 12) (zA c z) (zB c T lo hi n w z) (zU c T lo hi n w z) (zV c T lo hi n w z) k 0 ∧ ((2 : Int) + Int.tmod by_ (4 : Int)) * fwB c T lo hi (min m 12) (zA c z) (zB c T lo hi n w z) (zU c T lo hi n w z) (zV c T lo hi n w z) 0 k ≤ fwB c (((2 : Int) + Int.tmod by_ (4 : Int)) * T) (((2 : Int) + Int.tmod by_ (4 : Int)) * lo) (((2 : Int) + Int.tmod by_ (4 : Int)) * hi) (min m 12) (zA c z) (zB c T lo hi n w z) (fun j => ((2 : Int) + Int.tmod by_ (4 : Int)) * zU c T lo hi n w z j) (fun j => ((2 : Int) + Int.tmod by_ (4 : Int)) * zV c T lo hi n w z j) 0 k] (Tree.need [AV.agg [iI c, iI T, iI lo, iI hi] = AV.agg [iI c, iI T, iI lo, iI hi], (AV.lst 1 n fun k => [AV.x (Value.int IntKind.u16 (w k))]) = AV.lst 1 n fun k => [AV.x (Value.int IntKind.u16 (w k))], (AV.lst 1 m fun k => [AV.x (Value.int IntKind.u16 (z k))]) = AV.lst 1 m fun k => [AV.x (Value.int IntKind.u16 (z k))], by_ = by_, AV.ptr 0 0 = AV.ptr 0 0, AV.lit false = AV.lit false, (2 : Int) + Int.tmod by_ (4 : Int) = (2 : Int) + Int.tmod by_ (4 : Int), AV.ptr 35 0 = AV.ptr 35 0, (AV.lst 2 (lenB c T lo hi (min m 12) (zA c z) (zB c T lo hi n w z) (zU c T lo hi n w z) (zV c T lo hi n w z)) fun k => [iI (-fwB c T lo hi (min m 12) (zA c z) (zB c T lo hi n w z) (zU c T lo hi n w z) (zV c T lo hi n w z) k 0), iI (fwB c T lo hi (min m 12) (zA c z) (zB c T lo hi n w z) (zU c T lo hi n w z) (zV c T lo hi n w z) 0 k)]) = AV.lst 2 (lenB c T lo hi (min m 12) (zA c z) (zB c T lo hi n w z) (zU c T lo hi n w z) (zV c T lo hi n w z)) fun k => [iI (-fwB c T lo hi (min m 12) (zA c z) (zB c T lo hi n w z) (zU c T lo hi n w z) (zV c T lo hi n w z) k 0), iI (fwB c T lo hi (min m 12) (zA c z) (zB c T lo hi n w z) (zU c T lo hi n w z) (zV c T lo hi n w z) 0 k)], (AV.lst 2 (lenB c (((2 : Int) + Int.tmod by_ (4 : Int)) * T) (((2 : Int) + Int.tmod by_ (4 : Int)) * lo) (((2 : Int) + Int.tmod by_ (4 : Int)) * hi) (min m 12) (zA c z) (zB c T lo hi n w z) (fun k => ((2 : Int) + Int.tmod by_ (4 : Int)) * zU c T lo hi n w z k) fun k => ((2 : Int) + Int.tmod by_ (4 : Int)) * zV c T lo hi n w z k) fun k => [iI (-fwB c (((2 : Int) + Int.tmod by_ (4 : Int)) * T) (((2 : Int) + Int.tmod by_ (4 : Int)) * lo) (((2 : Int) + Int.tmod by_ (4 : Int)) * hi) (min m 12) (zA c z) (zB c T lo hi n w z) (fun k => ((2 : Int) + Int.tmod by_ (4 : Int)) * zU c T lo hi n w z k) (fun k => ((2 : Int) + Int.tmod by_ (4 : Int)) * zV c T lo hi n w z k) k 0), iI (fwB c (((2 : Int) + Int.tmod by_ (4 : Int)) * T) (((2 : Int) + Int.tmod by_ (4 : Int)) * lo) (((2 : Int) + Int.tmod by_ (4 : Int)) * hi) (min m 12) (zA c z) (zB c T lo hi n w z) (fun k => ((2 : Int) + Int.tmod by_ (4 : Int)) * zU c T lo hi n w z k) (fun k => ((2 : Int) + Int.tmod by_ (4 : Int)) * zV c T lo hi n w z k) 0 k)]) = AV.lst 2 (lenB c (((2 : Int) + Int.tmod by_ (4 : Int)) * T) (((2 : Int) + Int.tmod by_ (4 : Int)) * lo) (((2 : Int) + Int.tmod by_ (4 : Int)) * hi) (min m 12) (zA c z) (zB c T lo hi n w z) (fun j => ((2 : Int) + Int.tmod by_ (4 : Int)) * zU c T lo hi n w z j) fun j => ((2 : Int) + Int.tmod by_ (4 : Int)) * zV c T lo hi n w z j) fun k => [iI (-fwB c (((2 : Int) + Int.tmod by_ (4 : Int)) * T) (((2 : Int) + Int.tmod by_ (4 : Int)) * lo) (((2 : Int) + Int.tmod by_ (4 : Int)) * hi) (min m 12) (zA c z) (zB c T lo hi n w z) (fun j => ((2 : Int) + Int.tmod by_ (4 : Int)) * zU c T lo hi n w z j) (fun j => ((2 : Int) + Int.tmod by_ (4 : Int)) * zV c T lo hi n w z j) k 0), iI (fwB c (((2 : Int) + Int.tmod by_ (4 : Int)) * T) (((2 : Int) + Int.tmod by_ (4 : Int)) * lo) (((2 : Int) + Int.tmod by_ (4 : Int)) * hi) (min m 12) (zA c z) (zB c T lo hi n w z) (fun j => ((2 : Int) + Int.tmod by_ (4 : Int)) * zU c T lo hi n w z j) (fun j => ((2 : Int) + Int.tmod by_ (4 : Int)) * zV c T lo hi n w z j) 0 k)], (0 : Int) = (↑(0 : Nat) : Int), c = c, ((2 : Int) + Int.tmod by_ (4 : Int)) * T = ((2 : Int) + Int.tmod by_ (4 : Int)) * T, ((2 : Int) + Int.tmod by_ (4 : Int)) * lo = ((2 : Int) + Int.tmod by_ (4 : Int)) * lo, ((2 : Int) + Int.tmod by_ (4 : Int)) * hi = ((2 : Int) + Int.tmod by_ (4 : Int)) * hi, c = c, T = T, lo = lo, hi = hi] (Tree.leaf (RV.x (Value.bool true)))))))))))))))))))))))))))) (by kernel_rfl) ?_
  simp only [Tree.sat, allP, fitP, fitL, valEq, inI64, true_and, and_true, decide_eq_true_eq, decide_eq_false_iff_not, Bool.not_eq_true', Bool.not_eq_false', bne_iff_ne, ne_eq, bne_eq_false_iff_eq, c40, c41, c42, c43, c10, wAt1]
  refine ⟨fun _ => ?_, fun h0 => ?_⟩
  · trivial
  have hall := seen_all (n := n) h0 pre1 pre3
  have hb := tube_bd h0
  have hF := tF_bd (n := n) h0 pre1
  
  have hN := tmod_bd (x := by_) (d := 4) (by omega) (by omega)
  have hr := fun k (h : k < min m 12) => rdB_v (allI_iff.1 (flt_iff.1 hall.1).2.2 k h)
  have hfl : rdyB c ((2 + by_.tmod 4) * T) ((2 + by_.tmod 4) * lo) ((2 + by_.tmod 4) * hi) (min m 12) (zA c z) (zB c T lo hi n w z) (fun j => (2 + by_.tmod 4) * zU c T lo hi n w z j) (fun j => (2 + by_.tmod 4) * zV c T lo hi n w z j) = true → flt c ((2 + by_.tmod 4) * T) ((2 + by_.tmod 4) * lo) ((2 + by_.tmod 4) * hi) (min m 12) (zA c z) (zB c T lo hi n w z) (fun j => (2 + by_.tmod 4) * zU c T lo hi n w z j) (fun j => (2 + by_.tmod 4) * zV c T lo hi n w z j) = 0 := rdy_iff.1
  have hsc : rdyB c ((2 + by_.tmod 4) * T) ((2 + by_.tmod 4) * lo) ((2 + by_.tmod 4) * hi) (min m 12) (zA c z) (zB c T lo hi n w z) (fun j => (2 + by_.tmod 4) * zU c T lo hi n w z j) (fun j => (2 + by_.tmod 4) * zV c T lo hi n w z j) = true → _ := fun h => scale_bd (N := (2 + by_.tmod 4)) (by omega) hall.1 hall.2.2.1 (hfl h)
  have he2 : rdyB c ((2 + by_.tmod 4) * T) ((2 + by_.tmod 4) * lo) ((2 + by_.tmod 4) * hi) (min m 12) (zA c z) (zB c T lo hi n w z) (fun j => (2 + by_.tmod 4) * zU c T lo hi n w z j) (fun j => (2 + by_.tmod 4) * zV c T lo hi n w z j) = true → eB c ((2 + by_.tmod 4) * T) ((2 + by_.tmod 4) * lo) ((2 + by_.tmod 4) * hi) (min m 12) (zA c z) (zB c T lo hi n w z) (fun j => (2 + by_.tmod 4) * zU c T lo hi n w z j) (fun j => (2 + by_.tmod 4) * zV c T lo hi n w z j) = 0 := fun h => fltB_ok (hfl h) (hsc h).1
  have hl2 : rdyB c ((2 + by_.tmod 4) * T) ((2 + by_.tmod 4) * lo) ((2 + by_.tmod 4) * hi) (min m 12) (zA c z) (zB c T lo hi n w z) (fun j => (2 + by_.tmod 4) * zU c T lo hi n w z j) (fun j => (2 + by_.tmod 4) * zV c T lo hi n w z j) = true → lenB c ((2 + by_.tmod 4) * T) ((2 + by_.tmod 4) * lo) ((2 + by_.tmod 4) * hi) (min m 12) (zA c z) (zB c T lo hi n w z) (fun j => (2 + by_.tmod 4) * zU c T lo hi n w z j) (fun j => (2 + by_.tmod 4) * zV c T lo hi n w z j) = c.toNat + 1 := fun h => if_pos (he2 h)
  have hq4 : ∀ k, k < c.toNat + 1 → (-1000000000000 ≤ -(fwB c T lo hi (min m 12) (zA c z) (zB c T lo hi n w z) (zU c T lo hi n w z) (zV c T lo hi n w z) k 0) ∧ -(fwB c T lo hi (min m 12) (zA c z) (zB c T lo hi n w z) (zU c T lo hi n w z) (zV c T lo hi n w z) k 0) ≤ 1000000000000) ∧ (-1000000000000 ≤ fwB c T lo hi (min m 12) (zA c z) (zB c T lo hi n w z) (zU c T lo hi n w z) (zV c T lo hi n w z) 0 k ∧ fwB c T lo hi (min m 12) (zA c z) (zB c T lo hi n w z) (zU c T lo hi n w z) (zV c T lo hi n w z) 0 k ≤ 1000000000000) := fun k _ => by
    have h1 := fwM_bd hall.1 k 0
    have h2 := fwM_bd hall.1 0 k
    omega
  have m1 := mul_bd (x := (2 + by_.tmod 4)) (y := T) (X := 5) (Y := 2000) (by omega) (by omega)
  have m2 := mul_bd (x := (2 + by_.tmod 4)) (y := lo) (X := 5) (Y := 200) (by omega) (by omega)
  have m3 := mul_bd (x := (2 + by_.tmod 4)) (y := hi) (X := 5) (Y := 200) (by omega) (by omega)
  
  simp only [hall.2.2.2.1, hall.2.2.2.2]
  (repeat' first | with_reducible apply And.intro | with_reducible intro _)
  all_goals first | exact True.intro | omega | with_reducible rfl | exact isRec4 _ _ _ _ _ | exact isRec1 _ _ | exact isWn _ _ | exact pre1 | exact pre3 | exact h0 | exact hall.1 | exact hall.2.2.1 | exact (hF.1 _ (by assumption)).1 | exact (hF.1 _ (by assumption)).2 | (rename_i h; exact absurd rfl h) | (rename_i h; exact absurd True.intro h) | rfl | assumption | (have := hr _ (by assumption); omega) | exact absurd (he2 (by assumption)) (by assumption) | (have := hl2 (by assumption); omega) | exact (hq4 _ (by assumption)).1.1 | exact (hq4 _ (by assumption)).1.2 | exact (hq4 _ (by assumption)).2.1 | exact (hq4 _ (by assumption)).2.2 | exact ((hsc (by assumption)).2 _ (by omega)).1 | exact ((hsc (by assumption)).2 _ (by omega)).2

end Go.Proofs.Ytmdeoobmeokmeaa
