/- Contracts of functions of the program, by the engine Sx: what each call comes to. Printed by a program of this repo (sxgen.py). -/
import Derived.Test.YtchcegfhamngkaaPtI
set_option linter.unusedSimpArgs false
set_option linter.unusedVariables false
namespace Go.Proofs.Ytchcegfhamngkaa
open Go Go.Sx Go.RowKit
noncomputable def E_sd (n : Nat) (a b : Nat → Int) (lo hi : Int) : St := (some
  {
    σ :=
      [AV.lst (2 : Nat) n fun k => [AV.x (Value.int IntKind.i64 (a k)), AV.x (Value.int IntKind.i64 (b k))],
        AV.agg [AV.x (Value.int IntKind.i64 lo), AV.x (Value.int IntKind.i64 hi)], AV.top, AV.ptr (0 : Nat) (0 : Nat),
        AV.top, AV.top,
        AV.lst (2 : Nat) n fun k => [AV.x (Value.int IntKind.i64 (a k)), AV.x (Value.int IntKind.i64 (b k))],
        AV.x (Value.int IntKind.i64 (↑n : Int)), AV.lit false, AV.top, AV.top, AV.top, AV.top, AV.top, AV.top, AV.top,
        AV.top, AV.top, AV.top, AV.top, AV.top, AV.top, AV.top, AV.top],
    m := [((0 : Nat), Res.cells (24 : Nat) [AV.x (Value.int IntKind.i64 lo), AV.x (Value.int IntKind.i64 hi)])],
    nx := (6 : Nat) } : Option St).getD { σ := [], m := [], nx := 0 }
noncomputable def B_sd : Code := loopBody (loopAt (bodyOf Try.f20) 0)
noncomputable def inv_sd (n : Nat) (a b : Nat → Int) (lo hi : Int) (k : Nat) : St := { σ := ovrS [(5, i k)] (E_sd n a b lo hi).σ, m := (E_sd n a b lo hi).m, nx := (E_sd n a b lo hi).nx }
noncomputable def out_sd (n : Nat) (a b : Nat → Int) (lo hi : Int) (k : Nat) : AEx → Option St := fun ex => match ex with
  | .exit 0 => some { σ := ovrS [] (E_sd n a b lo hi).σ, m := (E_sd n a b lo hi).m, nx := (E_sd n a b lo hi).nx }
  | .ret => some { σ := ovrS [(4, i 1)] (E_sd n a b lo hi).σ, m := (E_sd n a b lo hi).m, nx := (E_sd n a b lo hi).nx }
  | _ => none
noncomputable def T_sd (n : Nat) (a b : Nat → Int) (lo hi : Int) : CT := .branch (allI ((fun k => scB (a k) (b k))) n) (.leaf (.exit 0, ( out_sd n a b lo hi 0 (.exit 0)).getD (E_sd n a b lo hi))) (.leaf (.ret, ( out_sd n a b lo hi 0 .ret).getD (E_sd n a b lo hi)))
noncomputable def LS_sd (n : Nat) (a b : Nat → Int) (lo hi : Int) : LSpec := (sumL (inv_sd n a b lo hi (0)) (T_sd n a b lo hi))
set_option maxRecDepth 100000 in
theorem sd_ls (n : Nat) (a b : Nat → Int) (lo hi : Int) (pre0 : n ≤ 100000) : LSound Try.prog (.loop B_sd) (LS_sd n a b lo hi) := by
  refine loop_rounds (G := [(31, S_rIsScale), (25, S_rAreReadings)]) (L := []) (SoundG.cons rIsScale_ok (SoundG.cons rAreReadings_ok (SoundG.nil _))) mixed noLoops (X := Nat) (inv_sd n a b lo hi) (fun k => k ≤ n ∧ ∀ j, j < k → ((fun k => scB (a k) (b k))) j = true) (fun k => n - k) (out_sd n a b lo hi) (x0 := 0) ⟨by omega, fun j hj => by omega⟩ ?_ ?_ ?_
  · rintro k
    kernel_rfl
  · rintro k y E h
    unfold out_sd at h
    split at h
    · cases h; kernel_rfl
    · cases h; kernel_rfl
    · cases h
  · rintro Q hQ k hx
    refine ⟨(k + 1), ?_⟩
    have e : roundT Try.prog [(31, S_rIsScale), (25, S_rAreReadings)] [] B_sd (inv_sd n a b lo hi k) (inv_sd n a b lo hi ((k + 1))) (out_sd n a b lo hi k) = (Tree.branch (decide ((↑k : Int) < (↑n : Int))) (Tree.need [(0 : Int) ≤ (↑k : Int) ∧ (↑k : Int) < (↑n : Int)] (Tree.branch (!scB (a (Int.toNat (↑k : Int))) (b (Int.toNat (↑k : Int)))) (Tree.need [(AV.lst 2 n fun k => [iI (a k), iI (b k)]) = AV.lst 2 n fun k => [iI (a k), iI (b k)], AV.agg [iI lo, iI hi] = AV.agg [iI lo, iI hi], AV.ptr 0 0 = AV.ptr 0 0, (1 : Int) = (1 : Int), (AV.lst 2 n fun k => [iI (a k), iI (b k)]) = AV.lst 2 n fun k => [iI (a k), iI (b k)], (↑n : Int) = (↑n : Int), AV.lit false = AV.lit false, lo = lo, hi = hi] (Tree.leaf AEx.ret)) (Tree.need [inI64 ((↑k : Int) + (1 : Int))] (Tree.need [(AV.lst 2 n fun k => [iI (a k), iI (b k)]) = AV.lst 2 n fun k => [iI (a k), iI (b k)], AV.agg [iI lo, iI hi] = AV.agg [iI lo, iI hi], AV.ptr 0 0 = AV.ptr 0 0, (↑k : Int) + (1 : Int) = (↑(k + 1) : Int), (AV.lst 2 n fun k => [iI (a k), iI (b k)]) = AV.lst 2 n fun k => [iI (a k), iI (b k)], (↑n : Int) = (↑n : Int), AV.lit false = AV.lit false, lo = lo, hi = hi] (Tree.leaf AEx.normal))))) (Tree.need [(AV.lst 2 n fun k => [iI (a k), iI (b k)]) = AV.lst 2 n fun k => [iI (a k), iI (b k)], AV.agg [iI lo, iI hi] = AV.agg [iI lo, iI hi], AV.ptr 0 0 = AV.ptr 0 0, (AV.lst 2 n fun k => [iI (a k), iI (b k)]) = AV.lst 2 n fun k => [iI (a k), iI (b k)], (↑n : Int) = (↑n : Int), AV.lit false = AV.lit false, lo = lo, hi = hi] (Tree.leaf (AEx.exit 0)))) := by kernel_rfl
    rw [e]
    simp only [T_sd, out_sd, Tree.sat, Option.getD_some] at hQ
    have hbad : k < n → ((fun k => scB (a k) (b k))) k = false → allI ((fun k => scB (a k) (b k))) n = false := by
      intro h1 h2
      rw [← Bool.not_eq_true]
      intro h3
      have := allI_iff.1 h3 k h1
      exact Bool.noConfusion (h2.symm.trans this)
    have hgood : ((fun k => scB (a k) (b k))) k = true → ∀ j, j < k + 1 → ((fun k => scB (a k) (b k))) j = true := by
      intro h1 j hj
      rcases (show j < k ∨ j = k by omega) with h | rfl
      · exact hx.2 j h
      · exact h1
    have hend : ¬ k < n → allI ((fun k => scB (a k) (b k))) n = true := fun h => allI_iff.2 (fun j hj => hx.2 j (by omega))
    have hQ1 : ∀ E, out_sd n a b lo hi k .ret = some E → allI ((fun k => scB (a k) (b k))) n = false → Q (.ret, E) := by
      intro E hE hf
      cases hE
      exact hQ.2 hf
    have hQ2 : ∀ E, out_sd n a b lo hi k (.exit 0) = some E → allI ((fun k => scB (a k) (b k))) n = true → Q (.exit 0, E) := by
      intro E hE hf
      cases hE
      exact hQ.1 hf
    simp only [Tree.sat, allP, true_and, and_true, decide_eq_true_eq, decide_eq_false_iff_not, inI64, Int.toNat_natCast]
    clear e
    repeat' first | with_reducible apply And.intro | with_reducible intro _
    all_goals first | exact True.intro | omega | exact hQ1 _ (by assumption) (hbad (by omega) (by simp_all)) | exact hQ2 _ (by assumption) (hend (by omega)) | exact hgood (by simp_all) _ (by assumption)


def sdE (n : Nat) (a b : Nat → Int) (lo hi : Int) : Int := if 8 < n then 3 else if allS n a b then (if insB (-1000000) lo hi 1000000 then 0 else 2) else 1
def S_scaled : Sx.Spec := fun l => match l with
  | [.lst 2 n f, .agg [.x (.int .i64 lo), .x (.int .i64 hi)]] => some ([isRec 2 n f, n ≤ 100000], i (sdE n (col 0 f) (col 1 f) lo hi))
  | _ => none
def S_lScales : Sx.Spec := fun l => match l with
  | [.lst 2 n f] => some ([isRec 2 n f, n ≤ 100000], scs n (col 0 f) (col 1 f))
  | _ => none
def S_lTable : Sx.Spec := S_lScales

set_option maxRecDepth 100000 in
theorem scaled_at (n : Nat) (a b : Nat → Int) (lo hi : Int) (pre0 : n ≤ 100000) : SoundAt Try.prog 20 [scs n a b, .agg [i lo, i hi]] (i (sdE n a b lo hi)) := by
  refine soundAt_fin (G := [(31, S_rIsScale), (25, S_rAreReadings)]) (L := [LS_sd n a b lo hi]) (SoundG.cons rIsScale_ok (SoundG.cons rAreReadings_ok (SoundG.nil _))) mixed Try.func20 (show Try.f20.body = some (bodyOf Try.f20) by kernel_rfl) (one_loop (fun cj hcj => by
    have e : loopAt (bodyOf Try.f20) 0 = some (.loop B_sd) := by kernel_rfl
    rw [e] at hcj; cases hcj
    exact sd_ls n a b lo hi pre0)) (t := (Tree.branch (decide ((↑n : Int) > (8 : Int))) (Tree.leaf (RV.x (Value.int IntKind.i64 (3 : Int)))) (Tree.need [(AV.lst 2 n fun k => [iI (a k), iI (b k)]) = AV.lst 2 n fun k => [iI (a k), iI (b k)], AV.agg [iI lo, iI hi] = AV.agg [iI lo, iI hi], AV.ptr 0 0 = AV.ptr 0 0, (0 : Int) = (↑(0 : Nat) : Int), (AV.lst 2 n fun k => [iI (a k), iI (b k)]) = AV.lst 2 n fun k => [iI (a k), iI (b k)], (↑n : Int) = (↑n : Int), AV.lit false = AV.lit false, lo = lo, hi = hi] (Tree.branch (allI (fun k => scB (a k) (b k)) n) (Tree.branch (!insB (-1000000 : Int) lo hi (1000000 : Int)) (Tree.leaf (RV.x (Value.int IntKind.i64 (2 : Int)))) (Tree.leaf (RV.x (Value.int IntKind.i64 (0 : Int))))) (Tree.leaf (RV.x (Value.int IntKind.i64 (1 : Int)))))))) (by kernel_rfl) ?_
  simp only [Tree.sat, allP, fitP, fitL, valEq, inI64, true_and, and_true, decide_eq_true_eq, decide_eq_false_iff_not, Int.natCast_zero, Int.toNat_natCast, sdE, allS]
  refine ⟨fun h => ?_, fun h => ⟨fun h2 => ⟨fun h3 => ?_, fun h3 => ?_⟩, fun h2 => ?_⟩⟩
  · simp [show 8 < n by omega]
  · simp [show ¬ 8 < n by omega, h2]
    simpa using h3
  · simp [show ¬ 8 < n by omega, h2]
    simpa using h3
  · simp [show ¬ 8 < n by omega, h2]


theorem scaled_ok : SoundSpec Try.prog 20 S_scaled := by
  refine ⟨⟨_, Try.func20, by kernel_rfl, by kernel_rfl⟩, ?_⟩
  intro avs ns res h hn
  unfold S_scaled at h
  split at h
  · rename_i n f lo hi
    cases h
    have hr : isRec 2 n f := hn _ (by simp)
    exact (scaled_at n (col 0 f) (col 1 f) lo hi (hn _ (by simp))).same (.cons (.lst 2 n _ _ hr) (.cons (.refl _) .nil))
  · cases h


theorem lScales_ok : SoundSpec Try.prog 18 S_lScales := by
  refine ⟨⟨_, Try.func18, by kernel_rfl, by kernel_rfl⟩, ?_⟩
  intro avs ns res h hn
  unfold S_lScales at h
  split at h
  · rename_i n f
    cases h
    have hr : isRec 2 n f := hn _ (by simp)
    exact (lScales_at n (col 0 f) (col 1 f) (hn _ (by simp))).same (.cons (.lst 2 n _ _ hr) .nil)
  · cases h

noncomputable def E_lt (n : Nat) (a b : Nat → Int) : St := (some
  {
    σ :=
      [AV.lst (2 : Nat) n fun k => [AV.x (Value.int IntKind.i64 (a k)), AV.x (Value.int IntKind.i64 (b k))], AV.top,
        AV.x (Value.slice none (0 : Nat) (0 : Nat)), AV.top, AV.top, AV.top, AV.top, AV.top, AV.top, AV.top, AV.top,
        AV.top, AV.top, AV.top, AV.top, AV.top, AV.top, AV.top, AV.top, AV.top, AV.top, AV.top, AV.top, AV.top, AV.top,
        AV.top],
    m := [((900 : Nat), Res.row (68 : Nat) (2 : Nat) (0 : Nat) fun x => [])], nx := (901 : Nat) } : Option St).getD { σ := [], m := [], nx := 0 }
noncomputable def B_lt : Code := loopBody (loopAt (bodyOf Try.f27) 0)
noncomputable def inv_lt (n : Nat) (a b : Nat → Int) (k : Nat) : St := { σ := ovrS [(3, .row 900), (4, i k)] (E_lt n a b).σ, m := [(900, .row 68 2 (k) (fun k => [i (a k), i (b k)]))], nx := (E_lt n a b).nx }
noncomputable def out_lt (n : Nat) (a b : Nat → Int) (k : Nat) : AEx → Option St := fun ex => match ex with
  | .exit 0 => some { σ := ovrS [(3, .row 900)] (E_lt n a b).σ, m := [(900, .row 68 2 (n) (fun k => [i (a k), i (b k)]))], nx := (E_lt n a b).nx }
  | _ => none
noncomputable def T_lt (n : Nat) (a b : Nat → Int) : CT := .leaf (.exit 0, ( out_lt n a b 0 (.exit 0)).getD (E_lt n a b))
noncomputable def LS_lt (n : Nat) (a b : Nat → Int) : LSpec := normSp [(.slot 3, 900, 68, 2)] (sumL (inv_lt n a b (0)) (T_lt n a b))
set_option maxRecDepth 100000 in
theorem lt_ls (n : Nat) (a b : Nat → Int) (pre0 : n ≤ 100000) : LSound Try.prog (.loop B_lt) (LS_lt n a b) := by
  refine loop_roundsN [(.slot 3, 900, 68, 2)] (G := []) (L := []) (SoundG.nil _) mixed noLoops (X := Nat) (inv_lt n a b) (fun k => k ≤ n) (fun k => n - k) (out_lt n a b) (x0 := 0) (by simp) ?_ ?_ ?_
  · rintro k
    kernel_rfl
  · rintro k y E h
    unfold out_lt at h
    split at h
    · cases h; kernel_rfl
    · cases h
  · rintro Q hQ k hx
    refine ⟨(k + 1), ?_⟩
    have e : roundN Try.prog [] [] [(.slot 3, 900, 68, 2)] B_lt (inv_lt n a b k) (inv_lt n a b ((k + 1))) (out_lt n a b k) = (Tree.branch (decide ((↑k : Int) < (↑n : Int))) (Tree.need [(0 : Int) ≤ (↑k : Int) ∧ (↑k : Int) < (↑n : Int)] (Tree.need [(0 : Int) ≤ (↑k : Int) ∧ (↑k : Int) < (↑n : Int)] (Tree.need [(k + 1) * 16 ≤ 140737488355328, ∀ (i : Nat), i < 1 → ∀ (a_2 : AV), a_2 ∈ chunk 2 [iI (a (Int.toNat (↑k : Int))), iI (b (Int.toNat (↑k : Int)))] i → AV.one a_2 = true] (Tree.need [inI64 ((↑k : Int) + (1 : Int))] (Tree.need [(AV.lst 2 n fun k => [iI (a k), iI (b k)]) = AV.lst 2 n fun k => [iI (a k), iI (b k)], AV.x (Value.slice none 0 0) = AV.x (Value.slice none 0 0), AV.row 900 = AV.row 900, (↑k : Int) + (1 : Int) = (↑(k + 1) : Int), k + 1 = k + 1, ∀ (i : Nat), i < k + 1 → catF k (fun k => [Ytchcegfhamngkaa.i (a k), Ytchcegfhamngkaa.i (b k)]) (chunk 2 [iI (a (Int.toNat (↑k : Int))), iI (b (Int.toNat (↑k : Int)))]) i = [Ytchcegfhamngkaa.i (a i), Ytchcegfhamngkaa.i (b i)]] (Tree.leaf AEx.normal)))))) (Tree.need [(AV.lst 2 n fun k => [iI (a k), iI (b k)]) = AV.lst 2 n fun k => [iI (a k), iI (b k)], AV.x (Value.slice none 0 0) = AV.x (Value.slice none 0 0), AV.row 900 = AV.row 900, k = n, ∀ (i : Nat), i < n → [Ytchcegfhamngkaa.i (a i), Ytchcegfhamngkaa.i (b i)] = [Ytchcegfhamngkaa.i (a i), Ytchcegfhamngkaa.i (b i)]] (Tree.leaf (AEx.exit 0)))) := by kernel_rfl
    rw [e]
    simp only [T_lt, out_lt, Tree.sat, Option.getD_some] at hQ
    simp only [Tree.sat, allP, fitP, fitL, valEq, inI64, true_and, and_true, decide_eq_true_eq, decide_eq_false_iff_not, Int.natCast_zero, Int.toNat_natCast, out_lt]
    clear e
    repeat' first | with_reducible apply And.intro | with_reducible intro _
    all_goals first | exact True.intro | omega | exact catF2 (by assumption) rfl rfl | (rename_i hm; exact one_of hm (by simp [AV.one, Value.oneCell'])) | (rename_i hE; cases hE; exact hQ)

set_option maxRecDepth 100000 in
theorem lTable_at (n : Nat) (a b : Nat → Int) (pre0 : n ≤ 100000) : SoundAt Try.prog 27 [scs n a b] (scs n a b) := by
  refine soundAt_fin (G := []) (L := [LS_lt n a b]) (SoundG.nil _) mixed Try.func27 (show Try.f27.body = some (bodyOf Try.f27) by kernel_rfl) (one_loop (fun cj hcj => by
    have e : loopAt (bodyOf Try.f27) 0 = some (.loop B_lt) := by kernel_rfl
    rw [e] at hcj; cases hcj
    exact lt_ls n a b pre0)) (t := (Tree.need [(AV.lst 2 n fun k => [iI (a k), iI (b k)]) = AV.lst 2 n fun k => [iI (a k), iI (b k)], AV.x (Value.slice none 0 0) = AV.x (Value.slice none 0 0), AV.row 900 = AV.row 900, (0 : Int) = (↑(0 : Nat) : Int), 0 = 0, ∀ (i : Nat), i < 0 → [] = [Ytchcegfhamngkaa.i (a i), Ytchcegfhamngkaa.i (b i)]] (Tree.leaf (RV.lst 2 n fun k => [iI (a k), iI (b k)])))) (by kernel_rfl) ?_
  simp only [Tree.sat, allP, fitP, fitL, valEq, inI64, true_and, and_true, decide_eq_true_eq, decide_eq_false_iff_not, Int.natCast_zero, Int.toNat_natCast, List.mem_cons, List.not_mem_nil, or_false, isX]
  repeat' first | with_reducible apply And.intro | with_reducible intro _
  all_goals first | exact True.intro | omega | with_reducible rfl | (rename_i hm; rcases hm with rfl | rfl <;> exact True.intro) | (rename_i hm; rcases hm with rfl | rfl | rfl <;> exact True.intro) | (rename_i hm; subst hm; exact True.intro)


theorem lTable_ok : SoundSpec Try.prog 27 S_lTable := by
  refine ⟨⟨_, Try.func27, by kernel_rfl, by kernel_rfl⟩, ?_⟩
  intro avs ns res h hn
  unfold S_lTable S_lScales at h
  split at h
  · rename_i n f
    cases h
    have hr : isRec 2 n f := hn _ (by simp)
    exact (lTable_at n (col 0 f) (col 1 f) (hn _ (by simp))).same (.cons (.lst 2 n _ _ hr) .nil)
  · cases h


abbrev ens (n : Nat) (r u v : Nat → Int) : AV := .lst 3 n (fun k => [i (r k), i (u k), i (v k)])
def S_lDiary : Sx.Spec := fun l => match l with
  | [.lst 3 n f] => some ([isRec 3 n f, n ≤ 100000], ens n (col 0 f) (col 1 f) (col 2 f))
  | _ => none

noncomputable def E_ld (n : Nat) (r u v : Nat → Int) : St := (some
  {
    σ :=
      [AV.lst (3 : Nat) n fun k =>
          [AV.x (Value.int IntKind.i64 (r k)), AV.x (Value.int IntKind.i64 (u k)), AV.x (Value.int IntKind.i64 (v k))],
        AV.top, AV.x (Value.slice none (0 : Nat) (0 : Nat)), AV.top, AV.top, AV.top, AV.top, AV.top, AV.top, AV.top,
        AV.top, AV.top, AV.top, AV.top, AV.top, AV.top, AV.top, AV.top, AV.top, AV.top, AV.top, AV.top, AV.top, AV.top,
        AV.top, AV.top, AV.top],
    m := [((900 : Nat), Res.row (94 : Nat) (3 : Nat) (0 : Nat) fun x => [])], nx := (901 : Nat) } : Option St).getD { σ := [], m := [], nx := 0 }
noncomputable def B_ld : Code := loopBody (loopAt (bodyOf Try.f44) 0)
noncomputable def inv_ld (n : Nat) (r u v : Nat → Int) (k : Nat) : St := { σ := ovrS [(3, .row 900), (4, i k)] (E_ld n r u v).σ, m := [(900, .row 94 3 (k) (fun k => [i (r k), i (u k), i (v k)]))], nx := (E_ld n r u v).nx }
noncomputable def out_ld (n : Nat) (r u v : Nat → Int) (k : Nat) : AEx → Option St := fun ex => match ex with
  | .exit 0 => some { σ := ovrS [(3, .row 900)] (E_ld n r u v).σ, m := [(900, .row 94 3 (n) (fun k => [i (r k), i (u k), i (v k)]))], nx := (E_ld n r u v).nx }
  | _ => none
noncomputable def T_ld (n : Nat) (r u v : Nat → Int) : CT := .leaf (.exit 0, ( out_ld n r u v 0 (.exit 0)).getD (E_ld n r u v))
noncomputable def LS_ld (n : Nat) (r u v : Nat → Int) : LSpec := normSp [(.slot 3, 900, 94, 3)] (sumL (inv_ld n r u v (0)) (T_ld n r u v))
set_option maxRecDepth 100000 in
theorem ld_ls (n : Nat) (r u v : Nat → Int) (pre0 : n ≤ 100000) : LSound Try.prog (.loop B_ld) (LS_ld n r u v) := by
  refine loop_roundsN [(.slot 3, 900, 94, 3)] (G := [(19, S_lto)]) (L := []) (SoundG.cons lto_ok (SoundG.nil _)) mixed noLoops (X := Nat) (inv_ld n r u v) (fun k => k ≤ n) (fun k => n - k) (out_ld n r u v) (x0 := 0) (by simp) ?_ ?_ ?_
  · rintro k
    kernel_rfl
  · rintro k y E h
    unfold out_ld at h
    split at h
    · cases h; kernel_rfl
    · cases h
  · rintro Q hQ k hx
    refine ⟨(k + 1), ?_⟩
    have e : roundN Try.prog [(19, S_lto)] [] [(.slot 3, 900, 94, 3)] B_ld (inv_ld n r u v k) (inv_ld n r u v ((k + 1))) (out_ld n r u v k) = (Tree.branch (decide ((↑k : Int) < (↑n : Int))) (Tree.need [(0 : Int) ≤ (↑k : Int) ∧ (↑k : Int) < (↑n : Int)] (Tree.need [(0 : Int) ≤ (↑k : Int) ∧ (↑k : Int) < (↑n : Int)] (Tree.need [(k + 1) * 24 ≤ 140737488355328, ∀ (i : Nat), i < 1 → ∀ (a : AV), a ∈ chunk 3 [iI (r (Int.toNat (↑k : Int))), iI (u (Int.toNat (↑k : Int))), iI (v (Int.toNat (↑k : Int)))] i → AV.one a = true] (Tree.need [inI64 ((↑k : Int) + (1 : Int))] (Tree.need [(AV.lst 3 n fun k => [iI (r k), iI (u k), iI (v k)]) = AV.lst 3 n fun k => [iI (r k), iI (u k), iI (v k)], AV.x (Value.slice none 0 0) = AV.x (Value.slice none 0 0), AV.row 900 = AV.row 900, (↑k : Int) + (1 : Int) = (↑(k + 1) : Int), k + 1 = k + 1, ∀ (i : Nat), i < k + 1 → catF k (fun k => [Ytchcegfhamngkaa.i (r k), Ytchcegfhamngkaa.i (u k), Ytchcegfhamngkaa.i (v k)]) (chunk 3 [iI (r (Int.toNat (↑k : Int))), iI (u (Int.toNat (↑k : Int))), iI (v (Int.toNat (↑k : Int)))]) i = [Ytchcegfhamngkaa.i (r i), Ytchcegfhamngkaa.i (u i), Ytchcegfhamngkaa.i (v i)]] (Tree.leaf AEx.normal)))))) (Tree.need [(AV.lst 3 n fun k => [iI (r k), iI (u k), iI (v k)]) = AV.lst 3 n fun k => [iI (r k), iI (u k), iI (v k)], AV.x (Value.slice none 0 0) = AV.x (Value.slice none 0 0), AV.row 900 = AV.row 900, k = n, ∀ (i : Nat), i < n → [Ytchcegfhamngkaa.i (r i), Ytchcegfhamngkaa.i (u i), Ytchcegfhamngkaa.i (v i)] = [Ytchcegfhamngkaa.i (r i), Ytchcegfhamngkaa.i (u i), Ytchcegfhamngkaa.i (v i)]] (Tree.leaf (AEx.exit 0)))) := by kernel_rfl
    rw [e]
    simp only [T_ld, out_ld, Tree.sat, Option.getD_some] at hQ
    simp only [Tree.sat, allP, fitP, fitL, valEq, inI64, true_and, and_true, decide_eq_true_eq, decide_eq_false_iff_not, Int.natCast_zero, Int.toNat_natCast, out_ld]
    clear e
    repeat' first | with_reducible apply And.intro | with_reducible intro _
    all_goals first | exact True.intro | omega | exact catF3 (by assumption) rfl rfl rfl | (rename_i hm; exact one_of hm (by simp [AV.one, Value.oneCell'])) | (rename_i hE; cases hE; exact hQ)

set_option maxRecDepth 100000 in
theorem lDiary_at (n : Nat) (r u v : Nat → Int) (pre0 : n ≤ 100000) : SoundAt Try.prog 44 [ens n r u v] (ens n r u v) := by
  refine soundAt_fin (G := [(19, S_lto)]) (L := [LS_ld n r u v]) (SoundG.cons lto_ok (SoundG.nil _)) mixed Try.func44 (show Try.f44.body = some (bodyOf Try.f44) by kernel_rfl) (one_loop (fun cj hcj => by
    have e : loopAt (bodyOf Try.f44) 0 = some (.loop B_ld) := by kernel_rfl
    rw [e] at hcj; cases hcj
    exact ld_ls n r u v pre0)) (t := (Tree.need [(AV.lst 3 n fun k => [iI (r k), iI (u k), iI (v k)]) = AV.lst 3 n fun k => [iI (r k), iI (u k), iI (v k)], AV.x (Value.slice none 0 0) = AV.x (Value.slice none 0 0), AV.row 900 = AV.row 900, (0 : Int) = (↑(0 : Nat) : Int), 0 = 0, ∀ (i : Nat), i < 0 → [] = [Ytchcegfhamngkaa.i (r i), Ytchcegfhamngkaa.i (u i), Ytchcegfhamngkaa.i (v i)]] (Tree.leaf (RV.lst 3 n fun k => [iI (r k), iI (u k), iI (v k)])))) (by kernel_rfl) ?_
  simp only [Tree.sat, allP, fitP, fitL, valEq, inI64, true_and, and_true, decide_eq_true_eq, decide_eq_false_iff_not, Int.natCast_zero, Int.toNat_natCast, List.mem_cons, List.not_mem_nil, or_false, isX]
  repeat' first | with_reducible apply And.intro | with_reducible intro _
  all_goals first | exact True.intro | omega | with_reducible rfl | (rename_i hm; rcases hm with rfl | rfl <;> exact True.intro) | (rename_i hm; rcases hm with rfl | rfl | rfl <;> exact True.intro) | (rename_i hm; subst hm; exact True.intro)


theorem lDiary_ok : SoundSpec Try.prog 44 S_lDiary := by
  refine ⟨⟨_, Try.func44, by kernel_rfl, by kernel_rfl⟩, ?_⟩
  intro avs ns res h hn
  unfold S_lDiary at h
  split at h
  · rename_i n f
    cases h
    have hr : isRec 3 n f := hn _ (by simp)
    exact (lDiary_at n (col 0 f) (col 1 f) (col 2 f) (hn _ (by simp))).same (.cons (.lst 3 n _ _ hr) .nil)
  · cases h

end Go.Proofs.Ytchcegfhamngkaa
