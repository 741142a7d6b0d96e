/- Texts of this claim, put together: BoV -/
import Derived.Test.YtmdeoobmeokmeaaMk
/- Contracts of functions of the program, by the engine Sx: what each call comes to. Printed by a program of this repo (sxgen.py). -/
set_option linter.unusedSimpArgs false
set_option linter.unusedVariables false
namespace Go.Proofs.Ytmdeoobmeokmeaa
open Go Go.Sx Go.RowKit
noncomputable def E_fa (c T lo hi : Int) (n : Nat) (a b u v : Nat → Int) : St := (some
  {
    σ :=
      [AV.agg
          [AV.x (Value.int IntKind.i64 c), AV.x (Value.int IntKind.i64 T), AV.x (Value.int IntKind.i64 lo),
            AV.x (Value.int IntKind.i64 hi)],
        AV.lst (4 : Nat) n fun k =>
          [AV.x (Value.int IntKind.i64 (a k)), AV.x (Value.int IntKind.i64 (b k)), AV.x (Value.int IntKind.i64 (u k)),
            AV.x (Value.int IntKind.i64 (v k))],
        AV.ptr (0 : Nat) (0 : Nat), AV.top, AV.top, AV.top, AV.top, AV.top, AV.top, AV.top, AV.top, AV.top, AV.top,
        AV.top, AV.top, AV.top, AV.top, AV.top, AV.top, AV.top, AV.top, AV.top, AV.top, AV.top, AV.top, AV.top, AV.top,
        AV.top, AV.top, AV.top, AV.top, AV.top, AV.top, AV.top, AV.top, AV.top, AV.top, AV.top, AV.top, AV.top, AV.top,
        AV.top, AV.top, AV.top, AV.top, AV.top],
    m :=
      [((0 : Nat),
          Res.cells (25 : Nat)
            [AV.x (Value.int IntKind.i64 c), AV.x (Value.int IntKind.i64 T), AV.x (Value.int IntKind.i64 lo),
              AV.x (Value.int IntKind.i64 hi)])],
    nx := (9 : Nat) } : Option St).getD { σ := [], m := [], nx := 0 }
noncomputable def B_fa : Code := loopBody (loopAt (bodyOf Try.f63) 0)
noncomputable def inv_fa (c T lo hi : Int) (n : Nat) (a b u v : Nat → Int) (k : Nat) : St := { σ := ovrS [(5, i k)] (E_fa c T lo hi n a b u v).σ, m := (E_fa c T lo hi n a b u v).m, nx := (E_fa c T lo hi n a b u v).nx }
noncomputable def out_fa (c T lo hi : Int) (n : Nat) (a b u v : Nat → Int) (k : Nat) : AEx → Option St := fun ex => match ex with
  | .exit 0 => some { σ := ovrS [] (E_fa c T lo hi n a b u v).σ, m := (E_fa c T lo hi n a b u v).m, nx := (E_fa c T lo hi n a b u v).nx }
  | .ret => some { σ := ovrS [(4, i 2)] (E_fa c T lo hi n a b u v).σ, m := (E_fa c T lo hi n a b u v).m, nx := (E_fa c T lo hi n a b u v).nx }
  | _ => none
noncomputable def T_fa (c T lo hi : Int) (n : Nat) (a b u v : Nat → Int) : CT := .branch (allI ((fun k => rdB c (a k) (b k) (u k) (v k))) n) (.leaf (.exit 0, ( out_fa c T lo hi n a b u v 0 (.exit 0)).getD (E_fa c T lo hi n a b u v))) (.leaf (.ret, ( out_fa c T lo hi n a b u v 0 .ret).getD (E_fa c T lo hi n a b u v)))
noncomputable def LS_fa (c T lo hi : Int) (n : Nat) (a b u v : Nat → Int) : LSpec := (sumL (inv_fa c T lo hi n a b u v (0)) (T_fa c T lo hi n a b u v))
set_option maxRecDepth 100000 in
theorem fa_ls (c T lo hi : Int) (n : Nat) (a b u v : Nat → Int) (pre0 : n ≤ 100000) (pre1 : 1 ≤ c ∧ c ≤ 10) : LSound Try.prog (.loop B_fa) (LS_fa c T lo hi n a b u v) := by
  refine loop_rounds (G := [(42, S_rIn), (26, S_rSpan), (31, S_rIsTube)]) (L := []) (SoundG.cons rIn_ok (SoundG.cons rSpan_ok (SoundG.cons rIsTube_ok (SoundG.nil _)))) mixed noLoops (X := Nat) (inv_fa c T lo hi n a b u v) (fun k => k ≤ n ∧ ∀ j, j < k → ((fun k => rdB c (a k) (b k) (u k) (v k))) j = true) (fun k => n - k) (out_fa c T lo hi n a b u v) (x0 := 0) ⟨by omega, fun j hj => by omega⟩ ?_ ?_ ?_
  · rintro k
    kernel_rfl
  · rintro k y E h
    unfold out_fa at h
    split at h
    · cases h; kernel_rfl
    · cases h; kernel_rfl
    · cases h
  · rintro Q hQ k hx
    refine ⟨(k + 1), ?_⟩
    have e : roundT Try.prog [(42, S_rIn), (26, S_rSpan), (31, S_rIsTube)] [] B_fa (inv_fa c T lo hi n a b u v k) (inv_fa c T lo hi n a b u v ((k + 1))) (out_fa c T lo hi n a b u v k) = (Tree.branch (decide ((↑k : Int) < (↑n : Int))) (Tree.need [(0 : Int) ≤ (↑k : Int) ∧ (↑k : Int) < (↑n : Int)] (Tree.need [inI64 (c - (1 : Int))] (Tree.branch (!bt (0 : Int) (a k) (c - (1 : Int))) (Tree.need [AV.agg [iI c, iI T, iI lo, iI hi] = AV.agg [iI c, iI T, iI lo, iI hi], (AV.lst 4 n fun k => [iI (a k), iI (b k), iI (u k), iI (v k)]) = AV.lst 4 n fun k => [iI (a k), iI (b k), iI (u k), iI (v k)], AV.ptr 0 0 = AV.ptr 0 0, (2 : Int) = (2 : Int), c = c, T = T, lo = lo, hi = hi] (Tree.leaf AEx.ret)) (Tree.branch (!bt (a k) (b k) c) (Tree.need [AV.agg [iI c, iI T, iI lo, iI hi] = AV.agg [iI c, iI T, iI lo, iI hi], (AV.lst 4 n fun k => [iI (a k), iI (b k), iI (u k), iI (v k)]) = AV.lst 4 n fun k => [iI (a k), iI (b k), iI (u k), iI (v k)], AV.ptr 0 0 = AV.ptr 0 0, (2 : Int) = (2 : Int), c = c, T = T, lo = lo, hi = hi] (Tree.leaf AEx.ret)) (Tree.branch (!insB (0 : Int) (u k) (v k) (2000 : Int)) (Tree.need [AV.agg [iI c, iI T, iI lo, iI hi] = AV.agg [iI c, iI T, iI lo, iI hi], (AV.lst 4 n fun k => [iI (a k), iI (b k), iI (u k), iI (v k)]) = AV.lst 4 n fun k => [iI (a k), iI (b k), iI (u k), iI (v k)], AV.ptr 0 0 = AV.ptr 0 0, (2 : Int) = (2 : Int), c = c, T = T, lo = lo, hi = hi] (Tree.leaf AEx.ret)) (Tree.need [inI64 ((↑k : Int) + (1 : Int))] (Tree.need [AV.agg [iI c, iI T, iI lo, iI hi] = AV.agg [iI c, iI T, iI lo, iI hi], (AV.lst 4 n fun k => [iI (a k), iI (b k), iI (u k), iI (v k)]) = AV.lst 4 n fun k => [iI (a k), iI (b k), iI (u k), iI (v k)], AV.ptr 0 0 = AV.ptr 0 0, (↑k : Int) + (1 : Int) = (↑(k + 1) : Int), c = c, T = T, lo = lo, hi = hi] (Tree.leaf AEx.normal)))))))) (Tree.need [AV.agg [iI c, iI T, iI lo, iI hi] = AV.agg [iI c, iI T, iI lo, iI hi], (AV.lst 4 n fun k => [iI (a k), iI (b k), iI (u k), iI (v k)]) = AV.lst 4 n fun k => [iI (a k), iI (b k), iI (u k), iI (v k)], AV.ptr 0 0 = AV.ptr 0 0, c = c, T = T, lo = lo, hi = hi] (Tree.leaf (AEx.exit 0)))) := by kernel_rfl
    rw [e]
    simp only [T_fa, out_fa, Tree.sat, Option.getD_some] at hQ
    have hbad : k < n → ((fun k => rdB c (a k) (b k) (u k) (v k))) k = false → allI ((fun k => rdB c (a k) (b k) (u k) (v k))) n = false := by
      intro h1 h2
      rw [← Bool.not_eq_true]
      intro h3
      have := allI_iff.1 h3 k h1
      exact Bool.noConfusion (h2.symm.trans this)
    have hgood : ((fun k => rdB c (a k) (b k) (u k) (v k))) k = true → ∀ j, j < k + 1 → ((fun k => rdB c (a k) (b k) (u k) (v k))) j = true := by
      intro h1 j hj
      rcases (show j < k ∨ j = k by omega) with h | rfl
      · exact hx.2 j h
      · exact h1
    have hend : ¬ k < n → allI ((fun k => rdB c (a k) (b k) (u k) (v k))) n = true := fun h => allI_iff.2 (fun j hj => hx.2 j (by omega))
    have hQ1 : ∀ E, out_fa c T lo hi n a b u v k .ret = some E → allI ((fun k => rdB c (a k) (b k) (u k) (v k))) n = false → Q (.ret, E) := by
      intro E hE hf
      cases hE
      exact hQ.2 hf
    have hQ2 : ∀ E, out_fa c T lo hi n a b u v k (.exit 0) = some E → allI ((fun k => rdB c (a k) (b k) (u k) (v k))) n = true → Q (.exit 0, E) := by
      intro E hE hf
      cases hE
      exact hQ.1 hf
    simp only [Tree.sat, allP, true_and, and_true, decide_eq_true_eq, decide_eq_false_iff_not, inI64, Int.toNat_natCast]
    
    clear e
    repeat' first | with_reducible apply And.intro | with_reducible intro _
    all_goals first | exact True.intro | omega | exact hQ1 _ (by assumption) (hbad (by omega) (by simp_all [rdB])) | exact hQ2 _ (by assumption) (hend (by omega)) | exact hgood (by simp_all [rdB]) _ (by assumption)

set_option maxRecDepth 100000 in
theorem rFault_at (c T lo hi : Int) (n : Nat) (a b u v : Nat → Int) : SoundAt Try.prog 63 [.agg [i c, i T, i lo, i hi], rds n a b u v] (i (flt c T lo hi n a b u v)) := by
  refine soundAt_fin (G := [(42, S_rIn), (26, S_rSpan), (31, S_rIsTube)]) (L := [needSp [n ≤ 100000, 1 ≤ c ∧ c ≤ 10] (LS_fa c T lo hi n a b u v)]) (SoundG.cons rIn_ok (SoundG.cons rSpan_ok (SoundG.cons rIsTube_ok (SoundG.nil _)))) mixed Try.func63 (show Try.f63.body = some (bodyOf Try.f63) by kernel_rfl) (one_loop (fun cj hcj => by
    have e : loopAt (bodyOf Try.f63) 0 = some (.loop B_fa) := by kernel_rfl
    rw [e] at hcj; cases hcj
    exact needSp_sound (fun h => fa_ls c T lo hi n a b u v h.1 h.2))) (t := (Tree.branch (!tubeB c T lo hi) (Tree.leaf (RV.x (Value.int IntKind.i64 (1 : Int)))) (Tree.branch (decide ((↑n : Int) > (12 : Int))) (Tree.leaf (RV.x (Value.int IntKind.i64 (3 : Int)))) (Tree.need [n ≤ 100000, (1 : Int) ≤ c ∧ c ≤ (10 : Int)] (Tree.need [AV.agg [iI c, iI T, iI lo, iI hi] = AV.agg [iI c, iI T, iI lo, iI hi], (AV.lst 4 n fun k => [iI (a k), iI (b k), iI (u k), iI (v k)]) = AV.lst 4 n fun k => [iI (a k), iI (b k), iI (u k), iI (v k)], AV.ptr 0 0 = AV.ptr 0 0, (0 : Int) = (↑(0 : Nat) : Int), c = c, T = T, lo = lo, hi = hi] (Tree.branch (allI (fun k => rdB c (a k) (b k) (u k) (v k)) n) (Tree.leaf (RV.x (Value.int IntKind.i64 (0 : Int)))) (Tree.leaf (RV.x (Value.int IntKind.i64 (2 : Int)))))))))) (by kernel_rfl) ?_
  simp only [Tree.sat, allP, fitP, fitL, valEq, inI64, true_and, and_true, Bool.not_eq_true', Bool.not_eq_false', decide_eq_true_eq, decide_eq_false_iff_not]
  unfold flt allR
  refine ⟨fun h1 => ?_, fun h1 => ⟨fun h2 => ?_, fun h2 => ⟨?_, rfl, fun h3 => ?_, fun h3 => ?_⟩⟩⟩
  · rw [h1]; rfl
  · rw [h1]; simp; omega
  · have hb := tube_bd h1
    omega
  · rw [h1, h3]; simp; omega
  · rw [h1, h3]; simp; omega

def S_rFault : Sx.Spec := fun l => match l with
  | [.agg [.x (.int .i64 c), .x (.int .i64 T), .x (.int .i64 lo), .x (.int .i64 hi)], .lst 4 n f] => some ([isRec 4 n f], i (flt c T lo hi n (col 0 f) (col 1 f) (col 2 f) (col 3 f)))
  | _ => none

theorem rFault_ok : SoundSpec Try.prog 63 S_rFault := by
  refine ⟨⟨_, Try.func63, by kernel_rfl, by kernel_rfl⟩, ?_⟩
  intro avs ns res h hn
  unfold S_rFault at h
  split at h
  · rename_i c T lo hi n f
    cases h
    have hr0 : isRec 4 n f := hn _ (by simp)
    exact (rFault_at c T lo hi n (col 0 f) (col 1 f) (col 2 f) (col 3 f)).same (.cons (.refl _) (.cons (.lst 4 n _ _ hr0) .nil))
  · cases h

set_option maxRecDepth 100000 in
theorem fault_at (c T lo hi : Int) (n : Nat) (a b u v : Nat → Int) : SoundAt Try.prog 47 [.agg [i c, i T, i lo, i hi], rds n a b u v] (i (flt c T lo hi n a b u v)) := by
  refine soundAt_fin (G := [(63, S_rFault)]) (L := []) (SoundG.cons rFault_ok (SoundG.nil _)) mixed Try.func47 (show Try.f47.body = some (bodyOf Try.f47) by kernel_rfl) noLoops (t := (Tree.need [isRec 4 n fun k => [i (a k), i (b k), i (u k), i (v k)]] (Tree.leaf (RV.x (Value.int IntKind.i64 (flt c T lo hi n a b u v)))))) (by kernel_rfl) ?_
  simp only [Tree.sat, allP, fitP, fitL, valEq, inI64, true_and, and_true]
  exact isRec4 n a b u v

def S_fault : Sx.Spec := fun l => match l with
  | [.agg [.x (.int .i64 c), .x (.int .i64 T), .x (.int .i64 lo), .x (.int .i64 hi)], .lst 4 n f] => some ([isRec 4 n f], i (flt c T lo hi n (col 0 f) (col 1 f) (col 2 f) (col 3 f)))
  | _ => none

theorem fault_ok : SoundSpec Try.prog 47 S_fault := by
  refine ⟨⟨_, Try.func47, by kernel_rfl, by kernel_rfl⟩, ?_⟩
  intro avs ns res h hn
  unfold S_fault at h
  split at h
  · rename_i c T lo hi n f
    cases h
    have hr0 : isRec 4 n f := hn _ (by simp)
    exact (fault_at c T lo hi n (col 0 f) (col 1 f) (col 2 f) (col 3 f)).same (.cons (.refl _) (.cons (.lst 4 n _ _ hr0) .nil))
  · cases h

noncomputable def E_he (n : Nat) (f : Nat → Int) (k : Int) : St := (some
  {
    σ :=
      [AV.lst (1 : Nat) n fun k => [AV.x (Value.int IntKind.i64 (f k))], AV.x (Value.int IntKind.i64 k), AV.top, AV.top,
        AV.x (Value.int IntKind.i64 (0 : Int)), AV.top, AV.top, AV.top, AV.top, AV.top, AV.top, AV.top, AV.top, AV.top,
        AV.top, AV.top, AV.top, AV.top, AV.top],
    m := [], nx := (3 : Nat) } : Option St).getD { σ := [], m := [], nx := 0 }
noncomputable def B_he : Code := loopBody (loopAt (bodyOf Try.f40) 0)
noncomputable def inv_he (n : Nat) (f : Nat → Int) (k : Int) (j : Nat) : St := { σ := ovrS [(6, i j), (5, i (sumF f j))] (E_he n f k).σ, m := (E_he n f k).m, nx := (E_he n f k).nx }
noncomputable def out_he (n : Nat) (f : Nat → Int) (k : Int) (j : Nat) : AEx → Option St := fun ex => match ex with
  | .exit 0 => some { σ := ovrS [(6, i k.toNat), (5, i (sumF f k.toNat))] (E_he n f k).σ, m := (E_he n f k).m, nx := (E_he n f k).nx }
  | _ => none
noncomputable def T_he (n : Nat) (f : Nat → Int) (k : Int) : CT := .leaf (.exit 0, ( out_he n f k 0 (.exit 0)).getD (E_he n f k))
noncomputable def LS_he (n : Nat) (f : Nat → Int) (k : Int) : LSpec := normSp [] (sumL (inv_he n f k (0)) (T_he n f k))
set_option maxRecDepth 100000 in
theorem he_ls (n : Nat) (f : Nat → Int) (k : Int) (pre0 : k ≤ n) (pre1 : n ≤ 100) (pre2 : ∀ k, k < n → -1000000 ≤ f k ∧ f k ≤ 1000000) : LSound Try.prog (.loop B_he) (LS_he n f k) := by
  refine loop_roundsX [] (E := { R := [], H := [] }) (G := []) (L := []) (SoundG.nil _) (SoundX.of (SoundRL.nil _) (SoundHL.nil _)) mixed noLoops (X := Nat) (inv_he n f k) (fun j => j ≤ k.toNat) (fun j => k.toNat - j) (out_he n f k) (x0 := 0) (by simp) ?_ ?_ ?_
  · rintro j
    kernel_rfl
  · rintro j y E h
    unfold out_he at h
    split at h
    · cases h; kernel_rfl
    · cases h
  · rintro Q hQ j hx
    refine ⟨(j + 1), ?_⟩
    have e : roundX Try.prog [] { R := [], H := [] } [] [] B_he (inv_he n f k j) (inv_he n f k ((j + 1))) (out_he n f k j) = (Tree.branch (decide ((↑j : Int) < k)) (Tree.need [(0 : Int) ≤ (↑j : Int) ∧ (↑j : Int) < (↑n : Int)] (Tree.need [inI64 (sumF f j + f j)] (Tree.need [inI64 ((↑j : Int) + (1 : Int))] (Tree.need [(AV.lst 1 n fun k => [iI (f k)]) = AV.lst 1 n fun k => [iI (f k)], k = k, (0 : Int) = (0 : Int), sumF f j + f j = sumF f (j + 1), (↑j : Int) + (1 : Int) = (↑(j + 1) : Int)] (Tree.leaf AEx.normal))))) (Tree.need [(AV.lst 1 n fun k => [iI (f k)]) = AV.lst 1 n fun k => [iI (f k)], k = k, (0 : Int) = (0 : Int), sumF f j = sumF f (Int.toNat k), (↑j : Int) = (↑(Int.toNat k) : Int)] (Tree.leaf (AEx.exit 0)))) := by kernel_rfl
    rw [e]
    simp only [T_he, out_he, Tree.sat, Option.getD_some] at hQ
    simp only [Tree.sat, allP, fitP, fitL, valEq, inI64, true_and, and_true, decide_eq_true_eq, decide_eq_false_iff_not, Int.natCast_zero, Int.toNat_natCast, List.length_cons, List.length_nil, updL_one, out_he]
    clear e
    have hf := pre2 j
    have hs := sumF_bd (f := f) (n := n) (N := 1000000) (by omega) pre2 j (by omega)
    have hs2 := sumF_bd (f := f) (n := n) (N := 1000000) (by omega) pre2 (j + 1)
    have he : sumF f (j + 1) = sumF f j + f j := rfl
    refine ⟨fun h => ?_, fun h => ?_⟩
    · (repeat' first | with_reducible apply And.intro | with_reducible intro _)
      all_goals first | exact True.intro | omega | with_reducible rfl | exact one_of (by assumption) (by simp [AV.one, Value.oneCell']) | exact catF4 (by assumption) rfl rfl rfl rfl | exact catF2 (by assumption) rfl rfl | (rename_i E hE; cases hE; exact hQ) | rfl | assumption
    · obtain rfl : j = k.toNat := by omega
      (repeat' first | with_reducible apply And.intro | with_reducible intro _)
      all_goals first | exact True.intro | omega | with_reducible rfl | exact one_of (by assumption) (by simp [AV.one, Value.oneCell']) | exact catF4 (by assumption) rfl rfl rfl rfl | exact catF2 (by assumption) rfl rfl | (rename_i E hE; cases hE; exact hQ) | rfl | assumption

set_option maxRecDepth 100000 in
theorem rHeight_at (n : Nat) (f : Nat → Int) (k : Int) (pre0 : k ≤ n) (pre1 : n ≤ 100) (pre2 : ∀ k, k < n → -1000000 ≤ f k ∧ f k ≤ 1000000) : SoundAt Try.prog 40 [.lst 1 n (fun k => [i (f k)]), i k] (i (sumF f k.toNat)) := by
  refine soundAt_fin (G := []) (L := [LS_he n f k]) (SoundG.nil _) mixed Try.func40 (show Try.f40.body = some (bodyOf Try.f40) by kernel_rfl) (one_loop (fun cj hcj => by
    have e : loopAt (bodyOf Try.f40) 0 = some (.loop B_he) := by kernel_rfl
    rw [e] at hcj; cases hcj
    exact he_ls n f k pre0 pre1 pre2)) (t := (Tree.need [(AV.lst 1 n fun k => [iI (f k)]) = AV.lst 1 n fun k => [iI (f k)], k = k, (0 : Int) = (0 : Int), (0 : Int) = sumF f 0, (0 : Int) = (↑(0 : Nat) : Int)] (Tree.leaf (RV.x (Value.int IntKind.i64 (sumF f (Int.toNat k))))))) (by kernel_rfl) ?_
  simp only [Tree.sat, allP, fitP, fitL, valEq, inI64, true_and, and_true]
  (repeat' first | with_reducible apply And.intro | with_reducible intro _)
  all_goals first | exact True.intro | omega | with_reducible rfl | rfl

def S_rHeight : Sx.Spec := fun l => match l with
  | [.lst 1 n f, .x (.int .i64 k)] => some ([isRec 1 n f, k ≤ n, n ≤ 100, ∀ k, k < n → -1000000 ≤ col 0 f k ∧ col 0 f k ≤ 1000000], i (sumF (col 0 f) k.toNat))
  | _ => none

theorem rHeight_ok : SoundSpec Try.prog 40 S_rHeight := by
  refine ⟨⟨_, Try.func40, by kernel_rfl, by kernel_rfl⟩, ?_⟩
  intro avs ns res h hn
  unfold S_rHeight at h
  split at h
  · rename_i n f k
    cases h
    have hr0 : isRec 1 n f := hn _ (by simp)
    exact (rHeight_at n (col 0 f) k (hn _ (by simp)) (hn _ (by simp)) (hn _ (by simp))).same (.cons (.lst 1 n _ _ hr0) (.cons (.refl _) .nil))
  · cases h


/-- Whether a reading is right, by heights. -/
def rrB (c : Int) (h : Nat → Int) (a b u v : Int) : Bool := decide (max u (h b.toNat - h a.toNat) ≤ if b < c then min v (h (b + 1).toNat - h a.toNat - 1) else v)

set_option maxRecDepth 100000 in
theorem rRight_at (c T lo hi a b u v : Int) (n : Nat) (f : Nat → Int) (pre0 : (n : Int) = c) (pre1 : 1 ≤ c ∧ c ≤ 10) (pre2 : 0 ≤ a ∧ a ≤ c - 1 ∧ a ≤ b ∧ b ≤ c) (pre3 : 0 ≤ u ∧ u ≤ v ∧ v ≤ 2000) (pre4 : ∀ k, k < n → -1000000 ≤ f k ∧ f k ≤ 1000000) : SoundAt Try.prog 78 [.agg [i c, i T, i lo, i hi], .agg [i a, i b, i u, i v], .lst 1 n (fun k => [i (f k)])] (bl (rrB c (sumF f) a b u v)) := by
  refine soundAt_fin (G := [(40, S_rHeight)]) (L := []) (SoundG.cons rHeight_ok (SoundG.nil _)) mixed Try.func78 (show Try.f78.body = some (bodyOf Try.f78) by kernel_rfl) noLoops (t := (Tree.need [isRec 1 n fun k => [i (f k)], a ≤ (↑n : Int), n ≤ 100, ∀ (k : Nat), k < n → (-1000000 : Int) ≤ f k ∧ f k ≤ (1000000 : Int)] (Tree.need [isRec 1 n fun k => [i (f k)], b ≤ (↑n : Int), n ≤ 100, ∀ (k : Nat), k < n → (-1000000 : Int) ≤ f k ∧ f k ≤ (1000000 : Int)] (Tree.need [inI64 (sumF f (Int.toNat b) - sumF f (Int.toNat a))] (Tree.branch (decide (b < c)) (Tree.need [inI64 (b + (1 : Int))] (Tree.need [isRec 1 n fun k => [i (f k)], b + (1 : Int) ≤ (↑n : Int), n ≤ 100, ∀ (k : Nat), k < n → (-1000000 : Int) ≤ f k ∧ f k ≤ (1000000 : Int)] (Tree.need [inI64 (sumF f (Int.toNat (b + (1 : Int))) - sumF f (Int.toNat a))] (Tree.need [inI64 (sumF f (Int.toNat (b + (1 : Int))) - sumF f (Int.toNat a) - (1 : Int))] (Tree.leaf (RV.x (Value.bool (decide (max u (sumF f (Int.toNat b) - sumF f (Int.toNat a)) ≤ min v (sumF f (Int.toNat (b + (1 : Int))) - sumF f (Int.toNat a) - (1 : Int))))))))))) (Tree.leaf (RV.x (Value.bool (decide (max u (sumF f (Int.toNat b) - sumF f (Int.toNat a)) ≤ v)))))))))) (by kernel_rfl) ?_
  have hs : ∀ j, j ≤ n → -10000000 ≤ sumF f j ∧ sumF f j ≤ 10000000 := fun j hj => by
    have := sumF_bd (f := f) (n := n) (N := 1000000) (by omega) pre4 j hj
    omega
  have h1 := hs a.toNat (by omega)
  have h2 := hs b.toNat (by omega)
  have h3 := fun h => hs (b + 1).toNat h
  simp only [Tree.sat, allP, fitP, fitL, valEq, inI64, true_and, and_true, decide_eq_true_eq, decide_eq_false_iff_not]
  refine ⟨⟨isRec1 _ _, by omega, by omega, pre4⟩, ⟨isRec1 _ _, by omega, by omega, pre4⟩, by omega, fun hb => ⟨by omega, ⟨isRec1 _ _, by omega, by omega, pre4⟩, by have := h3 (by omega); omega, by have := h3 (by omega); omega, ?_⟩, fun hb => ?_⟩
  · unfold rrB
    rw [if_pos hb]
  · unfold rrB
    rw [if_neg hb]

def S_rRight : Sx.Spec := fun l => match l with
  | [.agg [.x (.int .i64 c), .x (.int .i64 T), .x (.int .i64 lo), .x (.int .i64 hi)], .agg [.x (.int .i64 a), .x (.int .i64 b), .x (.int .i64 u), .x (.int .i64 v)], .lst 1 n f] => some ([isRec 1 n f, (n : Int) = c, 1 ≤ c ∧ c ≤ 10, 0 ≤ a ∧ a ≤ c - 1 ∧ a ≤ b ∧ b ≤ c, 0 ≤ u ∧ u ≤ v ∧ v ≤ 2000, ∀ k, k < n → -1000000 ≤ col 0 f k ∧ col 0 f k ≤ 1000000], bl (rrB c (sumF (col 0 f)) a b u v))
  | _ => none

theorem rRight_ok : SoundSpec Try.prog 78 S_rRight := by
  refine ⟨⟨_, Try.func78, by kernel_rfl, by kernel_rfl⟩, ?_⟩
  intro avs ns res h hn
  unfold S_rRight at h
  split at h
  · rename_i c T lo hi a b u v n f
    cases h
    have hr0 : isRec 1 n f := hn _ (by simp)
    exact (rRight_at c T lo hi a b u v n (col 0 f) (hn _ (by simp)) (hn _ (by simp)) (hn _ (by simp)) (hn _ (by simp)) (hn _ (by simp))).same (.cons (.refl _) (.cons (.refl _) (.cons (.lst 1 n _ _ hr0) .nil)))
  · cases h


/-- Whether volumes are a truth, as the reference says. -/
def itB (c T lo hi : Int) (n : Nat) (a b u v : Nat → Int) (m : Nat) (f : Nat → Int) : Bool := cellsB c lo hi m f && allI (fun j => rrB c (sumF f) (a j) (b j) (u j) (v j)) n && decide (sumF f c.toNat = T)

noncomputable def E_i1 (c T lo hi : Int) (n : Nat) (a b u v : Nat → Int) (m : Nat) (f : Nat → Int) : St := (some
  {
    σ :=
      [AV.agg
          [AV.x (Value.int IntKind.i64 c), AV.x (Value.int IntKind.i64 T), AV.x (Value.int IntKind.i64 lo),
            AV.x (Value.int IntKind.i64 hi)],
        AV.lst (4 : Nat) n fun k =>
          [AV.x (Value.int IntKind.i64 (a k)), AV.x (Value.int IntKind.i64 (b k)), AV.x (Value.int IntKind.i64 (u k)),
            AV.x (Value.int IntKind.i64 (v k))],
        AV.lst (1 : Nat) m fun k => [AV.x (Value.int IntKind.i64 (f k))], AV.ptr (0 : Nat) (0 : Nat), AV.top, AV.top,
        AV.top, AV.top, AV.top, AV.top, AV.top, AV.top, AV.top, AV.top, AV.top, AV.top, AV.top, AV.top, AV.top, AV.top,
        AV.top, AV.top, AV.top, AV.top, AV.top, AV.top, AV.top, AV.top, AV.top, AV.top, AV.top, AV.top, AV.top, AV.top,
        AV.top, AV.top, AV.top, AV.top, AV.top, AV.top, AV.top, AV.top, AV.top, AV.top, AV.top, AV.top, AV.top, AV.top,
        AV.top, AV.top, AV.top, AV.top, AV.top],
    m :=
      [((0 : Nat),
          Res.cells (25 : Nat)
            [AV.x (Value.int IntKind.i64 c), AV.x (Value.int IntKind.i64 T), AV.x (Value.int IntKind.i64 lo),
              AV.x (Value.int IntKind.i64 hi)])],
    nx := (8 : Nat) } : Option St).getD { σ := [], m := [], nx := 0 }
noncomputable def B_i1 : Code := loopBody (loopAt (bodyOf Try.f43) 0)
noncomputable def inv_i1 (c T lo hi : Int) (n : Nat) (a b u v : Nat → Int) (m : Nat) (f : Nat → Int) (k : Nat) : St := { σ := ovrS [(7, i k)] (E_i1 c T lo hi n a b u v m f).σ, m := (E_i1 c T lo hi n a b u v m f).m, nx := (E_i1 c T lo hi n a b u v m f).nx }
noncomputable def out_i1 (c T lo hi : Int) (n : Nat) (a b u v : Nat → Int) (m : Nat) (f : Nat → Int) (k : Nat) : AEx → Option St := fun ex => match ex with
  | .exit 0 => some { σ := ovrS [] (E_i1 c T lo hi n a b u v m f).σ, m := (E_i1 c T lo hi n a b u v m f).m, nx := (E_i1 c T lo hi n a b u v m f).nx }
  | .ret => some { σ := ovrS [(6, .lit false)] (E_i1 c T lo hi n a b u v m f).σ, m := (E_i1 c T lo hi n a b u v m f).m, nx := (E_i1 c T lo hi n a b u v m f).nx }
  | _ => none
noncomputable def T_i1 (c T lo hi : Int) (n : Nat) (a b u v : Nat → Int) (m : Nat) (f : Nat → Int) : CT := .branch (allI ((fun k => bt lo (f k) hi)) m) (.leaf (.exit 0, ( out_i1 c T lo hi n a b u v m f 0 (.exit 0)).getD (E_i1 c T lo hi n a b u v m f))) (.leaf (.ret, ( out_i1 c T lo hi n a b u v m f 0 .ret).getD (E_i1 c T lo hi n a b u v m f)))
noncomputable def LS_i1 (c T lo hi : Int) (n : Nat) (a b u v : Nat → Int) (m : Nat) (f : Nat → Int) : LSpec := (sumL (inv_i1 c T lo hi n a b u v m f (0)) (T_i1 c T lo hi n a b u v m f))
set_option maxRecDepth 100000 in
theorem i1_ls (c T lo hi : Int) (n : Nat) (a b u v : Nat → Int) (m : Nat) (f : Nat → Int) (pre0 : m ≤ 100000) : LSound Try.prog (.loop B_i1) (LS_i1 c T lo hi n a b u v m f) := by
  refine loop_rounds (G := [(42, S_rIn)]) (L := []) (SoundG.cons rIn_ok (SoundG.nil _)) mixed noLoops (X := Nat) (inv_i1 c T lo hi n a b u v m f) (fun k => k ≤ m ∧ ∀ j, j < k → ((fun k => bt lo (f k) hi)) j = true) (fun k => m - k) (out_i1 c T lo hi n a b u v m f) (x0 := 0) ⟨by omega, fun j hj => by omega⟩ ?_ ?_ ?_
  · rintro k
    kernel_rfl
  · rintro k y E h
    unfold out_i1 at h
    split at h
    · cases h; kernel_rfl
    · cases h; kernel_rfl
    · cases h
  · rintro Q hQ k hx
    refine ⟨(k + 1), ?_⟩
    have e : roundT Try.prog [(42, S_rIn)] [] B_i1 (inv_i1 c T lo hi n a b u v m f k) (inv_i1 c T lo hi n a b u v m f ((k + 1))) (out_i1 c T lo hi n a b u v m f k) = (Tree.branch (decide ((↑k : Int) < (↑m : Int))) (Tree.need [(0 : Int) ≤ (↑k : Int) ∧ (↑k : Int) < (↑m : Int)] (Tree.branch (!bt lo (f k) hi) (Tree.need [AV.agg [iI c, iI T, iI lo, iI hi] = AV.agg [iI c, iI T, iI lo, iI hi], (AV.lst 4 n fun k => [iI (a k), iI (b k), iI (u k), iI (v k)]) = AV.lst 4 n fun k => [iI (a k), iI (b k), iI (u k), iI (v k)], (AV.lst 1 m fun k => [iI (f k)]) = AV.lst 1 m fun k => [iI (f k)], AV.ptr 0 0 = AV.ptr 0 0, AV.lit false = AV.lit false, c = c, T = T, lo = lo, hi = hi] (Tree.leaf AEx.ret)) (Tree.need [inI64 ((↑k : Int) + (1 : Int))] (Tree.need [AV.agg [iI c, iI T, iI lo, iI hi] = AV.agg [iI c, iI T, iI lo, iI hi], (AV.lst 4 n fun k => [iI (a k), iI (b k), iI (u k), iI (v k)]) = AV.lst 4 n fun k => [iI (a k), iI (b k), iI (u k), iI (v k)], (AV.lst 1 m fun k => [iI (f k)]) = AV.lst 1 m fun k => [iI (f k)], AV.ptr 0 0 = AV.ptr 0 0, (↑k : Int) + (1 : Int) = (↑(k + 1) : Int), c = c, T = T, lo = lo, hi = hi] (Tree.leaf AEx.normal))))) (Tree.need [AV.agg [iI c, iI T, iI lo, iI hi] = AV.agg [iI c, iI T, iI lo, iI hi], (AV.lst 4 n fun k => [iI (a k), iI (b k), iI (u k), iI (v k)]) = AV.lst 4 n fun k => [iI (a k), iI (b k), iI (u k), iI (v k)], (AV.lst 1 m fun k => [iI (f k)]) = AV.lst 1 m fun k => [iI (f k)], AV.ptr 0 0 = AV.ptr 0 0, c = c, T = T, lo = lo, hi = hi] (Tree.leaf (AEx.exit 0)))) := by kernel_rfl
    rw [e]
    simp only [T_i1, out_i1, Tree.sat, Option.getD_some] at hQ
    have hbad : k < m → ((fun k => bt lo (f k) hi)) k = false → allI ((fun k => bt lo (f k) hi)) m = false := by
      intro h1 h2
      rw [← Bool.not_eq_true]
      intro h3
      have := allI_iff.1 h3 k h1
      exact Bool.noConfusion (h2.symm.trans this)
    have hgood : ((fun k => bt lo (f k) hi)) k = true → ∀ j, j < k + 1 → ((fun k => bt lo (f k) hi)) j = true := by
      intro h1 j hj
      rcases (show j < k ∨ j = k by omega) with h | rfl
      · exact hx.2 j h
      · exact h1
    have hend : ¬ k < m → allI ((fun k => bt lo (f k) hi)) m = true := fun h => allI_iff.2 (fun j hj => hx.2 j (by omega))
    have hQ1 : ∀ E, out_i1 c T lo hi n a b u v m f k .ret = some E → allI ((fun k => bt lo (f k) hi)) m = false → Q (.ret, E) := by
      intro E hE hf
      cases hE
      exact hQ.2 hf
    have hQ2 : ∀ E, out_i1 c T lo hi n a b u v m f k (.exit 0) = some E → allI ((fun k => bt lo (f k) hi)) m = true → Q (.exit 0, E) := by
      intro E hE hf
      cases hE
      exact hQ.1 hf
    simp only [Tree.sat, allP, true_and, and_true, decide_eq_true_eq, decide_eq_false_iff_not, inI64, Int.toNat_natCast]
    
    clear e
    repeat' first | with_reducible apply And.intro | with_reducible intro _
    all_goals first | exact True.intro | omega | exact hQ1 _ (by assumption) (hbad (by omega) (by simp_all)) | exact hQ2 _ (by assumption) (hend (by omega)) | exact hgood (by simp_all) _ (by assumption)

noncomputable def E_i2 (c T lo hi : Int) (n : Nat) (a b u v : Nat → Int) (m : Nat) (f : Nat → Int) : St := (some
  {
    σ :=
      [AV.agg
          [AV.x (Value.int IntKind.i64 c), AV.x (Value.int IntKind.i64 T), AV.x (Value.int IntKind.i64 lo),
            AV.x (Value.int IntKind.i64 hi)],
        AV.lst (4 : Nat) n fun k =>
          [AV.x (Value.int IntKind.i64 (a k)), AV.x (Value.int IntKind.i64 (b k)), AV.x (Value.int IntKind.i64 (u k)),
            AV.x (Value.int IntKind.i64 (v k))],
        AV.lst (1 : Nat) m fun k => [AV.x (Value.int IntKind.i64 (f k))], AV.ptr (0 : Nat) (0 : Nat), AV.top, AV.top,
        AV.top, AV.top, AV.top, AV.top, AV.top, AV.top, AV.top, AV.top, AV.top, AV.top, AV.top, AV.top, AV.top, AV.top,
        AV.top, AV.top, AV.top, AV.top, AV.top, AV.top, AV.top, AV.top, AV.top, AV.top, AV.top, AV.top, AV.top, AV.top,
        AV.top, AV.top, AV.top, AV.top, AV.top, AV.top, AV.top, AV.top, AV.top, AV.top, AV.top, AV.top, AV.top, AV.top,
        AV.top, AV.top, AV.top, AV.top, AV.top],
    m :=
      [((0 : Nat),
          Res.cells (25 : Nat)
            [AV.x (Value.int IntKind.i64 c), AV.x (Value.int IntKind.i64 T), AV.x (Value.int IntKind.i64 lo),
              AV.x (Value.int IntKind.i64 hi)])],
    nx := (9 : Nat) } : Option St).getD { σ := [], m := [], nx := 0 }
noncomputable def B_i2 : Code := loopBody (loopAt (bodyOf Try.f43) 1)
noncomputable def inv_i2 (c T lo hi : Int) (n : Nat) (a b u v : Nat → Int) (m : Nat) (f : Nat → Int) (k : Nat) : St := { σ := ovrS [(8, i k)] (E_i2 c T lo hi n a b u v m f).σ, m := (E_i2 c T lo hi n a b u v m f).m, nx := (E_i2 c T lo hi n a b u v m f).nx }
noncomputable def out_i2 (c T lo hi : Int) (n : Nat) (a b u v : Nat → Int) (m : Nat) (f : Nat → Int) (k : Nat) : AEx → Option St := fun ex => match ex with
  | .exit 2 => some { σ := ovrS [] (E_i2 c T lo hi n a b u v m f).σ, m := (E_i2 c T lo hi n a b u v m f).m, nx := (E_i2 c T lo hi n a b u v m f).nx }
  | .ret => some { σ := ovrS [(6, .lit false)] (E_i2 c T lo hi n a b u v m f).σ, m := (E_i2 c T lo hi n a b u v m f).m, nx := (E_i2 c T lo hi n a b u v m f).nx }
  | _ => none
noncomputable def T_i2 (c T lo hi : Int) (n : Nat) (a b u v : Nat → Int) (m : Nat) (f : Nat → Int) : CT := .branch (allI ((fun j => rrB c (sumF f) (a j) (b j) (u j) (v j))) n) (.leaf (.exit 2, ( out_i2 c T lo hi n a b u v m f 0 (.exit 2)).getD (E_i2 c T lo hi n a b u v m f))) (.leaf (.ret, ( out_i2 c T lo hi n a b u v m f 0 .ret).getD (E_i2 c T lo hi n a b u v m f)))
noncomputable def LS_i2 (c T lo hi : Int) (n : Nat) (a b u v : Nat → Int) (m : Nat) (f : Nat → Int) : LSpec := (sumL (inv_i2 c T lo hi n a b u v m f (0)) (T_i2 c T lo hi n a b u v m f))
set_option maxRecDepth 100000 in
theorem i2_ls (c T lo hi : Int) (n : Nat) (a b u v : Nat → Int) (m : Nat) (f : Nat → Int) (pre0 : n ≤ 100000) (pre1 : cellsB c lo hi m f = true) (pre2 : flt c T lo hi n a b u v = 0) : LSound Try.prog (.loop B_i2) (LS_i2 c T lo hi n a b u v m f) := by
  refine loop_rounds (G := [(42, S_rIn), (78, S_rRight)]) (L := []) (SoundG.cons rIn_ok (SoundG.cons rRight_ok (SoundG.nil _))) mixed noLoops (X := Nat) (inv_i2 c T lo hi n a b u v m f) (fun k => k ≤ n ∧ ∀ j, j < k → ((fun j => rrB c (sumF f) (a j) (b j) (u j) (v j))) j = true) (fun k => n - k) (out_i2 c T lo hi n a b u v m f) (x0 := 0) ⟨by omega, fun j hj => by omega⟩ ?_ ?_ ?_
  · rintro k
    kernel_rfl
  · rintro k y E h
    unfold out_i2 at h
    split at h
    · cases h; kernel_rfl
    · cases h; kernel_rfl
    · cases h
  · rintro Q hQ k hx
    refine ⟨(k + 1), ?_⟩
    have e : roundT Try.prog [(42, S_rIn), (78, S_rRight)] [] B_i2 (inv_i2 c T lo hi n a b u v m f k) (inv_i2 c T lo hi n a b u v m f ((k + 1))) (out_i2 c T lo hi n a b u v m f k) = (Tree.branch (decide ((↑k : Int) < (↑n : Int))) (Tree.need [(0 : Int) ≤ (↑k : Int) ∧ (↑k : Int) < (↑n : Int)] (Tree.need [isRec 1 m fun k => [iI (f k)], (↑m : Int) = c, (1 : Int) ≤ c ∧ c ≤ (10 : Int), (0 : Int) ≤ a k ∧ a k ≤ c - (1 : Int) ∧ a k ≤ b k ∧ b k ≤ c, (0 : Int) ≤ u k ∧ u k ≤ v k ∧ v k ≤ (2000 : Int), ∀ (k : Nat), k < m → (-1000000 : Int) ≤ f k ∧ f k ≤ (1000000 : Int)] (Tree.branch (!rrB c (sumF f) (a k) (b k) (u k) (v k)) (Tree.need [AV.agg [iI c, iI T, iI lo, iI hi] = AV.agg [iI c, iI T, iI lo, iI hi], (AV.lst 4 n fun k => [iI (a k), iI (b k), iI (u k), iI (v k)]) = AV.lst 4 n fun k => [iI (a k), iI (b k), iI (u k), iI (v k)], (AV.lst 1 m fun k => [iI (f k)]) = AV.lst 1 m fun k => [iI (f k)], AV.ptr 0 0 = AV.ptr 0 0, AV.lit false = AV.lit false, c = c, T = T, lo = lo, hi = hi] (Tree.leaf AEx.ret)) (Tree.need [inI64 ((↑k : Int) + (1 : Int))] (Tree.need [AV.agg [iI c, iI T, iI lo, iI hi] = AV.agg [iI c, iI T, iI lo, iI hi], (AV.lst 4 n fun k => [iI (a k), iI (b k), iI (u k), iI (v k)]) = AV.lst 4 n fun k => [iI (a k), iI (b k), iI (u k), iI (v k)], (AV.lst 1 m fun k => [iI (f k)]) = AV.lst 1 m fun k => [iI (f k)], AV.ptr 0 0 = AV.ptr 0 0, (↑k : Int) + (1 : Int) = (↑(k + 1) : Int), c = c, T = T, lo = lo, hi = hi] (Tree.leaf AEx.normal)))))) (Tree.need [AV.agg [iI c, iI T, iI lo, iI hi] = AV.agg [iI c, iI T, iI lo, iI hi], (AV.lst 4 n fun k => [iI (a k), iI (b k), iI (u k), iI (v k)]) = AV.lst 4 n fun k => [iI (a k), iI (b k), iI (u k), iI (v k)], (AV.lst 1 m fun k => [iI (f k)]) = AV.lst 1 m fun k => [iI (f k)], AV.ptr 0 0 = AV.ptr 0 0, c = c, T = T, lo = lo, hi = hi] (Tree.leaf (AEx.exit 2)))) := by kernel_rfl
    rw [e]
    simp only [T_i2, out_i2, Tree.sat, Option.getD_some] at hQ
    have hbad : k < n → ((fun j => rrB c (sumF f) (a j) (b j) (u j) (v j))) k = false → allI ((fun j => rrB c (sumF f) (a j) (b j) (u j) (v j))) n = false := by
      intro h1 h2
      rw [← Bool.not_eq_true]
      intro h3
      have := allI_iff.1 h3 k h1
      exact Bool.noConfusion (h2.symm.trans this)
    have hgood : ((fun j => rrB c (sumF f) (a j) (b j) (u j) (v j))) k = true → ∀ j, j < k + 1 → ((fun j => rrB c (sumF f) (a j) (b j) (u j) (v j))) j = true := by
      intro h1 j hj
      rcases (show j < k ∨ j = k by omega) with h | rfl
      · exact hx.2 j h
      · exact h1
    have hend : ¬ k < n → allI ((fun j => rrB c (sumF f) (a j) (b j) (u j) (v j))) n = true := fun h => allI_iff.2 (fun j hj => hx.2 j (by omega))
    have hQ1 : ∀ E, out_i2 c T lo hi n a b u v m f k .ret = some E → allI ((fun j => rrB c (sumF f) (a j) (b j) (u j) (v j))) n = false → Q (.ret, E) := by
      intro E hE hf
      cases hE
      exact hQ.2 hf
    have hQ2 : ∀ E, out_i2 c T lo hi n a b u v m f k (.exit 2) = some E → allI ((fun j => rrB c (sumF f) (a j) (b j) (u j) (v j))) n = true → Q (.exit 2, E) := by
      intro E hE hf
      cases hE
      exact hQ.1 hf
    simp only [Tree.sat, allP, true_and, and_true, decide_eq_true_eq, decide_eq_false_iff_not, inI64, Int.toNat_natCast]
    have hf := flt_iff.1 pre2
    have hb := tube_bd hf.1
    have hcell := cellsB_iff.1 pre1
    have hk := fun (h : k < n) => rdB_v (allI_iff.1 hf.2.2 k h)
    have hfb : ∀ k, k < m → -1000000 ≤ f k ∧ f k ≤ 1000000 := fun k hk => by have := hcell.2 k hk; omega
    have hrec := isRec1 m f
    clear e
    repeat' first | with_reducible apply And.intro | with_reducible intro _
    all_goals first | exact True.intro | omega | exact hQ1 _ (by assumption) (hbad (by omega) (by simp_all)) | exact hQ2 _ (by assumption) (hend (by omega)) | exact hgood (by simp_all) _ (by assumption) | (have := hk (by omega); omega) | exact hrec | (have := hfb _ (by assumption); omega)

set_option maxRecDepth 100000 in
theorem rIsTruth_at (c T lo hi : Int) (n : Nat) (a b u v : Nat → Int) (m : Nat) (f : Nat → Int) (pre0 : m ≤ 100000) (pre1 : flt c T lo hi n a b u v = 0) : SoundAt Try.prog 43 [.agg [i c, i T, i lo, i hi], rds n a b u v, .lst 1 m (fun k => [i (f k)])] (bl (itB c T lo hi n a b u v m f)) := by
  refine soundAt_fin (G := [(42, S_rIn), (78, S_rRight), (40, S_rHeight)]) (L := [needSp [m ≤ 100000] (LS_i1 c T lo hi n a b u v m f), needSp [n ≤ 100000, cellsB c lo hi m f = true, flt c T lo hi n a b u v = 0] (LS_i2 c T lo hi n a b u v m f)]) (SoundG.cons rIn_ok (SoundG.cons rRight_ok (SoundG.cons rHeight_ok (SoundG.nil _)))) mixed Try.func43 (show Try.f43.body = some (bodyOf Try.f43) by kernel_rfl) (two_loops (fun cj hcj => by
    have e : loopAt (bodyOf Try.f43) 0 = some (.loop B_i1) := by kernel_rfl
    rw [e] at hcj; cases hcj
    exact needSp_sound (fun h => i1_ls c T lo hi n a b u v m f h)) (fun cj hcj => by
    have e : loopAt (bodyOf Try.f43) 1 = some (.loop B_i2) := by kernel_rfl
    rw [e] at hcj; cases hcj
    exact needSp_sound (fun h => i2_ls c T lo hi n a b u v m f h.1 h.2.1 h.2.2))) (t := (Tree.branch ((↑m : Int) != c) (Tree.leaf (RV.x (Value.bool false))) (Tree.need [m ≤ 100000] (Tree.need [AV.agg [iI c, iI T, iI lo, iI hi] = AV.agg [iI c, iI T, iI lo, iI hi], (AV.lst 4 n fun k => [iI (a k), iI (b k), iI (u k), iI (v k)]) = AV.lst 4 n fun k => [iI (a k), iI (b k), iI (u k), iI (v k)], (AV.lst 1 m fun k => [iI (f k)]) = AV.lst 1 m fun k => [iI (f k)], AV.ptr 0 0 = AV.ptr 0 0, (0 : Int) = (↑(0 : Nat) : Int), c = c, T = T, lo = lo, hi = hi] (Tree.branch (allI (fun k => bt lo (f k) hi) m) (Tree.need [n ≤ 100000, cellsB c lo hi m f = true, flt c T lo hi n a b u v = (0 : Int)] (Tree.need [AV.agg [iI c, iI T, iI lo, iI hi] = AV.agg [iI c, iI T, iI lo, iI hi], (AV.lst 4 n fun k => [iI (a k), iI (b k), iI (u k), iI (v k)]) = AV.lst 4 n fun k => [iI (a k), iI (b k), iI (u k), iI (v k)], (AV.lst 1 m fun k => [iI (f k)]) = AV.lst 1 m fun k => [iI (f k)], AV.ptr 0 0 = AV.ptr 0 0, (0 : Int) = (↑(0 : Nat) : Int), c = c, T = T, lo = lo, hi = hi] (Tree.branch (allI (fun j => rrB c (sumF f) (a j) (b j) (u j) (v j)) n) (Tree.need [isRec 1 m fun k => [iI (f k)], c ≤ (↑m : Int), m ≤ 100, ∀ (k : Nat), k < m → (-1000000 : Int) ≤ f k ∧ f k ≤ (1000000 : Int)] (Tree.leaf (RV.x (Value.bool (sumF f (Int.toNat c) == T))))) (Tree.leaf (RV.x (Value.bool false)))))) (Tree.leaf (RV.x (Value.bool false)))))))) (by kernel_rfl) ?_
  simp only [Tree.sat, allP, fitP, fitL, valEq, true_and, and_true, bne_iff_ne, ne_eq, bne_eq_false_iff_eq, decide_eq_true_eq, decide_eq_false_iff_not]
  have hf := flt_iff.1 pre1
  have hb := tube_bd hf.1
  refine ⟨fun h2 => ?_, fun h2 => ⟨pre0, rfl, fun h3 => ?_, fun h3 => ?_⟩⟩
  · simp [itB, cellsB, h2]
  · have hcell : cellsB c lo hi m f = true := by simp [cellsB, h2, h3]
    have hc2 := cellsB_iff.1 hcell
    have e0 : itB c T lo hi n a b u v m f = (allI (fun j => rrB c (sumF f) (a j) (b j) (u j) (v j)) n && decide (sumF f c.toNat = T)) := by simp [itB, hcell]
    rw [e0]
    refine ⟨⟨by omega, hcell, pre1⟩, rfl, fun h4 => ⟨⟨isRec1 _ _, by omega, by omega, fun k hk => by have := hc2.2 k hk; omega⟩, ?_⟩, fun h4 => ?_⟩
    · rw [h4]
      rfl
    · rw [h4]
      rfl
  · simp [itB, cellsB, h3]

def S_rIsTruth : Sx.Spec := fun l => match l with
  | [.agg [.x (.int .i64 c), .x (.int .i64 T), .x (.int .i64 lo), .x (.int .i64 hi)], .lst 4 n f, .lst 1 m g] => some ([isRec 4 n f, isRec 1 m g, m ≤ 100000, flt c T lo hi n (col 0 f) (col 1 f) (col 2 f) (col 3 f) = 0], bl (itB c T lo hi n (col 0 f) (col 1 f) (col 2 f) (col 3 f) m (col 0 g)))
  | _ => none

theorem rIsTruth_ok : SoundSpec Try.prog 43 S_rIsTruth := by
  refine ⟨⟨_, Try.func43, by kernel_rfl, by kernel_rfl⟩, ?_⟩
  intro avs ns res h hn
  unfold S_rIsTruth at h
  split at h
  · rename_i c T lo hi n f m g
    cases h
    have hr0 : isRec 4 n f := hn _ (by simp)
    have hr1 : isRec 1 m g := hn _ (by simp)
    exact (rIsTruth_at c T lo hi n (col 0 f) (col 1 f) (col 2 f) (col 3 f) m (col 0 g) (hn _ (by simp)) (hn _ (by simp))).same (.cons (.refl _) (.cons (.lst 4 n _ _ hr0) (.cons (.lst 1 m _ _ hr1) .nil)))
  · cases h


theorem hgA_in {f : Nat → Int} {m j : Nat} (h : j ≤ m) : hgA f m j = sumF f j := if_pos h
theorem rr_ok {c lo hi : Int} {m : Nat} {f : Nat → Int} {a b u v : Int} (hl : 1 ≤ lo) (hm : (m : Int) = c) (hf : ∀ j, j < m → lo ≤ f j ∧ f j ≤ hi) (hr : (0 ≤ a ∧ a ≤ c - 1) ∧ (a ≤ b ∧ b ≤ c) ∧ 0 ≤ u ∧ u ≤ v ∧ v ≤ 2000) : rrB c (sumF f) a b u v = okH c (hgA f m) a b u v := by
  rw [Bool.eq_iff_iff, okH_iff]
  unfold rrB
  rw [decide_eq_true_eq, hgA_in (show b.toNat ≤ m by omega), hgA_in (show a.toNat ≤ m by omega)]
  by_cases hb : b < c
  · rw [if_pos hb, hgA_in (show (b + 1).toNat ≤ m by omega)]
    have e : (b + 1).toNat = b.toNat + 1 := by omega
    have h1 : sumF f (b.toNat + 1) = sumF f b.toNat + f b.toNat := rfl
    have h2 := hf b.toNat (by omega)
    rw [e]
    omega
  · rw [if_neg hb]
    omega
theorem it_pt {c T lo hi : Int} {n : Nat} {a b u v : Nat → Int} {m : Nat} {f : Nat → Int} (h : flt c T lo hi n a b u v = 0) : itB c T lo hi n a b u v m f = ptB c T lo hi n a b u v m f := by
  have hf := flt_iff.1 h
  have hb := tube_bd hf.1
  unfold itB ptB
  rw [decide_eq_true h, Bool.true_and]
  cases hc : cellsB c lo hi m f with
  | false => rfl
  | true =>
    have hc2 := cellsB_iff.1 hc
    have e1 : allI (fun j => rrB c (sumF f) (a j) (b j) (u j) (v j)) n = allI (fun j => okH c (hgA f m) (a j) (b j) (u j) (v j)) n := by
      rw [Bool.eq_iff_iff, allI_iff, allI_iff]
      constructor
      · intro k j hj
        rw [← rr_ok hb.2.1.1 hc2.1 hc2.2 (rdB_v (allI_iff.1 hf.2.2 j hj))]
        exact k j hj
      · intro k j hj
        rw [rr_ok hb.2.1.1 hc2.1 hc2.2 (rdB_v (allI_iff.1 hf.2.2 j hj))]
        exact k j hj
    rw [e1, hgA_in (show c.toNat ≤ m by omega)]


theorem c40 (a b u v : Nat → Int) : col 0 (fun k => [i (a k), i (b k), i (u k), i (v k)]) = a := rfl
theorem c41 (a b u v : Nat → Int) : col 1 (fun k => [i (a k), i (b k), i (u k), i (v k)]) = b := rfl
theorem c42 (a b u v : Nat → Int) : col 2 (fun k => [i (a k), i (b k), i (u k), i (v k)]) = u := rfl
theorem c43 (a b u v : Nat → Int) : col 3 (fun k => [i (a k), i (b k), i (u k), i (v k)]) = v := rfl
theorem c10 (a : Nat → Int) : col 0 (fun k => [i (a k)]) = a := rfl
theorem flt_tube {c T lo hi : Int} {n : Nat} {a b u v : Nat → Int} (h : tubeB c T lo hi = false) : flt c T lo hi n a b u v = 1 := by
  unfold flt
  rw [h]
  rfl
theorem pt_flt {c T lo hi : Int} {n : Nat} {a b u v : Nat → Int} {m : Nat} {f : Nat → Int} (h : flt c T lo hi n a b u v ≠ 0) : ptB c T lo hi n a b u v m f = false := by simp [ptB, h]

set_option maxRecDepth 100000 in
theorem BoreProves_at (c T lo hi : Int) (n : Nat) (a b u v : Nat → Int) (m : Nat) (f : Nat → Int) : SoundAt Try.prog 11 [.agg [i c, i T, i lo, i hi], rds n a b u v, .lst 1 m (fun k => [i (f k)])] (bl true) := by
  refine soundAt_fin (G := [(44, S_CheckTube), (22, S_lTube), (23, S_lReadings), (45, S_ProveTruth), (46, S_llist), (31, S_rIsTube), (47, S_fault), (43, S_rIsTruth), (20, S_wakes)]) (L := []) (SoundG.cons CheckTube_ok (SoundG.cons lTube_ok (SoundG.cons lReadings_ok (SoundG.cons ProveTruth_ok (SoundG.cons llist_ok (SoundG.cons rIsTube_ok (SoundG.cons fault_ok (SoundG.cons rIsTruth_ok (SoundG.cons wakes_ok (SoundG.nil _)))))))))) mixed Try.func11 (show Try.f11.body = some (bodyOf Try.f11) by kernel_rfl) noLoops (t := (Tree.branch (decide ((↑n : Int) > (15 : Int))) (Tree.leaf (RV.x (Value.bool true))) (Tree.branch (decide ((↑m : Int) > (15 : Int))) (Tree.leaf (RV.x (Value.bool true))) (Tree.need [isRec 4 n fun k => [i (a k), i (b k), i (u k), i (v k)], n ≤ 100000] (Tree.need [isRec 1 m fun k => [i (f k)], m ≤ 100000] (Tree.need [isRec 4 n fun k => [i (a k), i (b k), i (u k), i (v k)], isRec 1 m fun k => [i (f k)], m ≤ 100000] (Tree.branch (!tubeB c T lo hi) (Tree.branch ((if tubeB c T lo hi = true then (0 : Int) else (1 : Int)) == (1 : Int)) (Tree.need [isRec 4 n fun k => [i (a k), i (b k), i (u k), i (v k)]] (Tree.branch (flt c T lo hi n a b u v == (0 : Int)) (Tree.need [isRec 4 n fun k => [i (a k), i (b k), i (u k), i (v k)], isRec 1 m fun k => [i (f k)], m ≤ 100000, flt c T lo hi n a b u v = (0 : Int)] (Tree.branch (ptB c T lo hi n a b u v m f == itB c T lo hi n a b u v m f) (Tree.leaf (RV.x (Value.bool true))) (Tree.leaf (RV.x (Value.bool false))))) (Tree.branch (ptB c T lo hi n a b u v m f == false) (Tree.leaf (RV.x (Value.bool true))) (Tree.leaf (RV.x (Value.bool false)))))) (Tree.leaf (RV.x (Value.bool false)))) (Tree.branch ((if tubeB c T lo hi = true then (0 : Int) else (1 : Int)) == (0 : Int)) (Tree.need [isRec 4 n fun k => [i (a k), i (b k), i (u k), i (v k)]] (Tree.branch (flt c T lo hi n a b u v == (0 : Int)) (Tree.need [isRec 4 n fun k => [i (a k), i (b k), i (u k), i (v k)], isRec 1 m fun k => [i (f k)], m ≤ 100000, flt c T lo hi n a b u v = (0 : Int)] (Tree.branch (ptB c T lo hi n a b u v m f == itB c T lo hi n a b u v m f) (Tree.leaf (RV.x (Value.bool true))) (Tree.leaf (RV.x (Value.bool false))))) (Tree.branch (ptB c T lo hi n a b u v m f == false) (Tree.leaf (RV.x (Value.bool true))) (Tree.leaf (RV.x (Value.bool false)))))) (Tree.leaf (RV.x (Value.bool false))))))))))) (by kernel_rfl) ?_
  simp only [Tree.sat, allP, fitP, fitL, valEq, inI64, true_and, and_true, decide_eq_true_eq, decide_eq_false_iff_not, Bool.not_eq_true', Bool.not_eq_false', bne_iff_ne, ne_eq, bne_eq_false_iff_eq, beq_iff_eq, beq_eq_false_iff_ne, c40, c41, c42, c43, c10]
  
  (repeat' first | with_reducible apply And.intro | with_reducible intro _)
  all_goals first | exact True.intro | with_reducible rfl | omega | exact isRec4 _ _ _ _ _ | exact isRec1 _ _ | assumption | (rename_i h6; exact absurd (it_pt (by assumption)).symm h6) | (rename_i h; exact absurd (pt_flt (by assumption)) h) | (simp_all; done)

end Go.Proofs.Ytmdeoobmeokmeaa
