/- Texts of this claim, put together: BqA, BqB, BqC, BqD, BqE, BqF, BqI -/
import Derived.Test.YtmdeoobmeokmeaaMk
/- Contracts of functions of the program, by the engine Sx: what each call comes to. Printed by a program of this repo (sxgen.py). -/
set_option linter.unusedSimpArgs false
set_option linter.unusedVariables false
namespace Go.Proofs.Ytmdeoobmeokmeaa
open Go Go.Sx Go.RowKit

/-- Lists of numbers, and lists of these. -/
abbrev LI (l : List Int) : AV := .lst 1 l.length (fun k => [i (nthJ l k)])
def nL : List (List Int) → Nat → List Int
  | [], _ => []
  | w :: _, 0 => w
  | _ :: L, k + 1 => nL L k
abbrev LL (L : List (List Int)) : AV := .lst 1 L.length (fun k => [LI (nL L k)])
def tol (n : Nat) (f : Nat → Int) : List Int := (List.range n).map f
/-- All volumes that begin so: so many cells are left besides the last one. -/
def allV (T lo hi : Int) : Nat → List Int → List (List Int)
  | 0, bs => if bt lo (T - bs.sum) hi then [bs ++ [T - bs.sum]] else []
  | d + 1, bs => (List.range (hi - lo + 1).toNat).flatMap fun (q : Nat) => allV T lo hi d (bs ++ [lo + (q : Int)])
def alP (T lo hi : Int) (d : Nat) (bs : List Int) (k : Nat) : List (List Int) := (List.range k).flatMap fun (q : Nat) => allV T lo hi d (bs ++ [lo + (q : Int)])
/-- What 'All' asks. -/
def alQ (c T lo hi : Int) (d n : Nat) (f : Nat → Int) : Prop := (n : Int) + d + 1 = c ∧ c ≤ 10 ∧ (1 ≤ lo ∧ lo ≤ hi ∧ hi ≤ 200 ∧ 1 ≤ T ∧ T ≤ 2000) ∧ (∀ k, k < n → 0 ≤ f k ∧ f k ≤ 200) ∧ (allV T lo hi d (tol n f)).length ≤ 1000000
noncomputable def C_All (d : Nat) : CSpec := fun l => match l with
  | [.agg [.x (.int .i64 c), .x (.int .i64 T), .x (.int .i64 lo), .x (.int .i64 hi)], .lst 1 n f] => some (.need [isRec 1 n f, alQ c T lo hi d n (col 0 f)] (.leaf (LL (allV T lo hi d (tol n (col 0 f))))))
  | [.agg [.x (.int .i64 c), .x (.int .i64 T), .x (.int .i64 lo), .x (.int .i64 hi)], .x (.slice none 0 0)] => some (.need [alQ c T lo hi d 0 (fun _ => 0)] (.leaf (LL (allV T lo hi d []))))
  | _ => none
def AllOk' (d : Nat) : Prop := Enters Try.prog 51 ∧ ∀ avs t, C_All d avs = some t → SoundCAt Try.prog 51 avs t


theorem nthJ_app (l m : List Int) : ∀ k, nthJ (l ++ m) k = if k < l.length then nthJ l k else nthJ m (k - l.length) := by
  induction l with
  | nil => intro k; simp
  | cons x l ih =>
    intro k
    cases k with
    | zero => simp [nthJ]
    | succ k =>
      show nthJ (l ++ m) k = _
      rw [ih]
      simp only [List.length_cons, Nat.add_lt_add_iff_right, Nat.add_sub_add_right]
      rfl
theorem nL_app (l m : List (List Int)) : ∀ k, nL (l ++ m) k = if k < l.length then nL l k else nL m (k - l.length) := by
  induction l with
  | nil => intro k; simp
  | cons x l ih =>
    intro k
    cases k with
    | zero => simp [nL]
    | succ k =>
      show nL (l ++ m) k = _
      rw [ih]
      simp only [List.length_cons, Nat.add_lt_add_iff_right, Nat.add_sub_add_right]
      rfl
theorem nthJ_get : ∀ {l : List Int} {k : Nat} (h : k < l.length), nthJ l k = l[k]
  | x :: l, 0, h => rfl
  | x :: l, k + 1, h => nthJ_get (l := l) (k := k) (by simpa using h)
theorem nL_get : ∀ {l : List (List Int)} {k : Nat} (h : k < l.length), nL l k = l[k]
  | x :: l, 0, h => rfl
  | x :: l, k + 1, h => nL_get (l := l) (k := k) (by simpa using h)
theorem catLL (L M : List (List Int)) (j : Nat) : catF L.length (fun j => [LI (nL L j)]) (fun j => [LI (nL M j)]) j = [LI (nL (L ++ M) j)] := by
  unfold catF
  rw [nL_app]
  by_cases h : j < L.length
  · rw [if_pos h, decide_eq_true h]; rfl
  · rw [if_neg h, decide_eq_false h]; rfl
theorem tol_len (n : Nat) (f : Nat → Int) : (tol n f).length = n := by simp [tol]
theorem tol_get {n k : Nat} {f : Nat → Int} (h : k < n) : nthJ (tol n f) k = f k := by
  rw [nthJ_get (by rw [tol_len]; exact h)]
  simp [tol]
theorem tol_succ (n : Nat) (f : Nat → Int) : tol (n + 1) f = tol n f ++ [f n] := by simp [tol, List.range_succ]
theorem tol_sum (n : Nat) (f : Nat → Int) : (tol n f).sum = sumF f n := by
  induction n with
  | zero => rfl
  | succ n ih => rw [tol_succ, List.sum_append, ih]; simp [sumF]
theorem tol_congr {n : Nat} {f g : Nat → Int} (h : ∀ k, k < n → f k = g k) : tol n f = tol n g := by
  unfold tol
  exact List.map_congr_left fun k hk => h k (List.mem_range.1 hk)
/-- A list, copied, with one number more. -/
theorem cat_more (n : Nat) (f : Nat → Int) (x : Int) : (∀ j, j < n → catF (0 + n) (catF 0 (fun _ => []) fun k => [iI (f k)]) (chunk 1 [iI x]) j = [iI (f j)]) ∧ catF (0 + n) (catF 0 (fun _ => []) fun k => [iI (f k)]) (chunk 1 [iI x]) n = [iI x] := by
  have e1 : ∀ j, catF 0 (fun _ => []) (fun k => [iI (f k)]) j = [iI (f j)] := fun j => by
    show mergeL (decide (j < 0)) [] [iI (f (j - 0))] = _
    rw [show decide (j < 0) = false by simp]
    rfl
  constructor
  · intro j hj
    show mergeL (decide (j < 0 + n)) (catF 0 (fun _ => []) (fun k => [iI (f k)]) j) (chunk 1 [iI x] (j - (0 + n))) = _
    rw [e1, show decide (j < 0 + n) = true by simp [hj], show j - (0 + n) = 0 by omega]
    rfl
  · show mergeL (decide (n < 0 + n)) (catF 0 (fun _ => []) (fun k => [iI (f k)]) n) (chunk 1 [iI x] (n - (0 + n))) = _
    rw [e1, show decide (n < 0 + n) = false by simp, show n - (0 + n) = 0 by omega]
    rfl
theorem cat_tol (n : Nat) (f : Nat → Int) (x : Int) : isRec 1 (0 + n + 1) (catF (0 + n) (catF 0 (fun _ => []) fun k => [iI (f k)]) (chunk 1 [iI x])) ∧ tol (0 + n + 1) (col 0 (catF (0 + n) (catF 0 (fun _ => []) fun k => [iI (f k)]) (chunk 1 [iI x]))) = tol n f ++ [x] ∧ (∀ j, j < n → col 0 (catF (0 + n) (catF 0 (fun _ => []) fun k => [iI (f k)]) (chunk 1 [iI x])) j = f j) ∧ col 0 (catF (0 + n) (catF 0 (fun _ => []) fun k => [iI (f k)]) (chunk 1 [iI x])) n = x := by
  obtain ⟨h1, h2⟩ := cat_more n f x
  have c1 : ∀ j, j < n → col 0 (catF (0 + n) (catF 0 (fun _ => []) fun k => [iI (f k)]) (chunk 1 [iI x])) j = f j := fun j hj => by unfold col; rw [h1 j hj]; rfl
  have c2 : col 0 (catF (0 + n) (catF 0 (fun _ => []) fun k => [iI (f k)]) (chunk 1 [iI x])) n = x := by unfold col; rw [h2]; rfl
  refine ⟨fun k hk => ?_, ?_, c1, c2⟩
  · rcases (show k < n ∨ k = n by omega) with h | rfl
    · rw [h1 k h]; rfl
    · rw [h2]; rfl
  · rw [show 0 + n + 1 = n + 1 by omega, tol_succ, c2, tol_congr c1]
/-- Lists that agree as far as they go, inside a list. -/
theorem Rep.lst1 {e : Env} {w : World} {n : Nat} {f g : Nat → List AV} {v : Value} (h : ∀ k, k < n → f k = g k) (r : Rep e w (.lst 1 n f) v) : Rep e w (.lst 1 n g) v := Same.rep (.lst 1 n f g h) r
theorem Rep.lstMono {e : Env} {w : World} {sz n : Nat} {f g : Nat → List AV} {v : Value} (h1 : ∀ k, k < n → (f k).length = (g k).length) (h2 : ∀ k, k < n → ∀ a ∈ g k, Idf a) (h3 : ∀ (k j : Nat) (a b : AV), k < n → (f k)[j]? = some a → (g k)[j]? = some b → ∀ u, Rep e w a u → Rep e w b u) (r : Rep e w (.lst sz n f) v) : Rep e w (.lst sz n g) v := by
  cases r with
  | lstNil sz f => exact .lstNil sz g
  | lst sz n f b o cap q k1 k2 k3 k4 k5 k6 k7 k8 =>
    refine .lst sz n g b o cap q k1 k2 h2 k4 k5 k6 (fun i hi => by rw [← h1 i hi]; exact k7 i hi) (fun i j a hi ha => ?_)
    have hj : j < (f i).length := by rw [h1 i hi]; exact (List.getElem?_eq_some_iff.1 ha).1
    exact h3 i j _ a hi (List.getElem?_eq_getElem hj) ha _ (k8 i j _ hi (List.getElem?_eq_getElem hj))
theorem idf_LI (l : List Int) : Idf (LI l) := .lst _ _ _ fun k hk a ha => by
  cases List.mem_singleton.1 ha
  exact .x _
theorem SoundCAt.weaken {P : Program} {f : FuncId} {avs : List AV} {t t' : Tree AV} (h : SoundCAt P f avs t) (k : ∀ Q : AV → Prop, t'.sat Q → t.sat (fun r => ∃ r', Q r' ∧ ∀ e w v, Rep e w r v → Rep e w r' v)) : SoundCAt P f avs t' := by
  intro Q hQ e w args hro hidf hrep
  refine (h _ (k Q hQ) e w args hro hidf hrep).mono ?_
  rintro en w' ⟨v, r, h1, ⟨r', h2, h3⟩, h4, h5⟩
  exact ⟨v, r', h1, h2, h4, h3 _ _ _ h5⟩
theorem cat_li (n : Nat) (f : Nat → Int) (x : Int) {e : Env} {w : World} {v : Value} (r : Rep e w (.lst 1 1 (chunk 1 [.lst 1 (0 + n + 1) (catF (0 + n) (catF 0 (fun _ => []) fun k => [iI (f k)]) (chunk 1 [iI x]))])) v) : Rep e w (LL [tol n f ++ [x]]) v := by
  obtain ⟨h1, h2⟩ := cat_more n f x
  have hl : (tol n f ++ [x]).length = 0 + n + 1 := by simp [tol_len]
  refine Rep.lstMono (fun k hk => ?_) (fun k hk a ha => ?_) (fun k j a b hk ha hb u hu => ?_) r
  · obtain rfl : k = 0 := by have : k < 1 := hk; omega
    rfl
  · cases List.mem_singleton.1 ha
    exact idf_LI _
  · obtain rfl : k = 0 := by have : k < 1 := hk; omega
    have hj : j = 0 := by
      have := (List.getElem?_eq_some_iff.1 hb).1
      simp at this
      exact this
    subst hj
    cases ha
    cases hb
    show Rep e w (.lst 1 (tol n f ++ [x]).length _) u
    rw [hl]
    refine Rep.lst1 (fun q hq => ?_) hu
    show _ = [i (nthJ (tol n f ++ [x]) q)]
    rw [nthJ_app, tol_len]
    rcases (show q < n ∨ q = n by omega) with h | rfl
    · rw [if_pos h, tol_get h, h1 q h]
    · rw [if_neg (by omega), h2, Nat.sub_self]; rfl
theorem alP_succ (T lo hi : Int) (d : Nat) (bs : List Int) (k : Nat) : alP T lo hi d bs (k + 1) = alP T lo hi d bs k ++ allV T lo hi d (bs ++ [lo + (k : Int)]) := by
  simp [alP, List.range_succ, List.flatMap_append]
theorem alP_le (T lo hi : Int) (d : Nat) (bs : List Int) (k : Nat) : ∀ j, (alP T lo hi d bs k).length ≤ (alP T lo hi d bs (k + j)).length
  | 0 => Nat.le_refl _
  | j + 1 => by
    have := alP_le T lo hi d bs k j
    rw [← Nat.add_assoc, alP_succ, List.length_append]
    omega
theorem alP_all (T lo hi : Int) (d : Nat) (bs : List Int) : alP T lo hi d bs (hi - lo + 1).toNat = allV T lo hi (d + 1) bs := rfl
theorem alP_bd {T lo hi : Int} {d : Nat} {bs : List Int} {k : Nat} (h : k < (hi - lo + 1).toNat) (hl : (allV T lo hi (d + 1) bs).length ≤ 1000000) : (alP T lo hi d bs k).length + (allV T lo hi d (bs ++ [lo + (k : Int)])).length ≤ 1000000 := by
  have h1 := alP_le T lo hi d bs (k + 1) ((hi - lo + 1).toNat - (k + 1))
  rw [show k + 1 + ((hi - lo + 1).toNat - (k + 1)) = (hi - lo + 1).toNat by omega, alP_all, alP_succ, List.length_append] at h1
  omega

noncomputable def E_al (d : Nat) (c T lo hi : Int) (n : Nat) (f : Nat → Int) : St := (some
  {
    σ :=
      [AV.agg
          [AV.x (Value.int IntKind.i64 c), AV.x (Value.int IntKind.i64 T), AV.x (Value.int IntKind.i64 lo),
            AV.x (Value.int IntKind.i64 hi)],
        AV.lst (1 : Nat) n fun k => [AV.x (Value.int IntKind.i64 (f k))], AV.ptr (0 : Nat) (0 : Nat), AV.top,
        AV.x (Value.slice none (0 : Nat) (0 : Nat)), AV.x (Value.int IntKind.i64 (T - sumF f n)), AV.top, AV.top,
        AV.top, AV.top, AV.top, AV.top, AV.top, AV.top, AV.top, AV.top, AV.top, AV.top, AV.top, AV.top, AV.top, AV.top,
        AV.top, AV.top, AV.top, AV.top, AV.top, AV.top, AV.top, AV.top, AV.top, AV.top, AV.top, AV.top, AV.top, AV.top,
        AV.top, AV.top, AV.top, AV.top, AV.top, AV.top, AV.top, AV.top, AV.top, AV.top, AV.top, AV.top, AV.top, AV.top,
        AV.top, AV.top, AV.top, AV.top, AV.top, AV.top, AV.top, AV.top],
    m :=
      [((900 : Nat), Res.row (58 : Nat) (1 : Nat) (0 : Nat) fun x => []),
        ((0 : Nat),
          Res.cells (25 : Nat)
            [AV.x (Value.int IntKind.i64 c), AV.x (Value.int IntKind.i64 T), AV.x (Value.int IntKind.i64 lo),
              AV.x (Value.int IntKind.i64 hi)])],
    nx := (901 : Nat) } : Option St).getD { σ := [], m := [], nx := 0 }
noncomputable def B_al : Code := loopBody (loopAt (bodyOf Try.f51) 0)
noncomputable def inv_al (d : Nat) (c T lo hi : Int) (n : Nat) (f : Nat → Int) (k : Nat) : St := { σ := ovrS [(6, .row 900), (7, i (lo + k))] (E_al d c T lo hi n f).σ, m := [(900, .row 58 1 (alP T lo hi d (tol n f) k).length (fun j => [LI (nL (alP T lo hi d (tol n f) k) j)])), (0, .cells 25 [i c, i T, i lo, i hi])], nx := (E_al d c T lo hi n f).nx }
noncomputable def out_al (d : Nat) (c T lo hi : Int) (n : Nat) (f : Nat → Int) (k : Nat) : AEx → Option St := fun ex => match ex with
  | .exit 0 => some { σ := ovrS [(6, .row 900)] (E_al d c T lo hi n f).σ, m := [(900, .row 58 1 (alP T lo hi d (tol n f) (hi - lo + 1).toNat).length (fun j => [LI (nL (alP T lo hi d (tol n f) (hi - lo + 1).toNat) j)])), (0, .cells 25 [i c, i T, i lo, i hi])], nx := (E_al d c T lo hi n f).nx }
  | _ => none
noncomputable def T_al (d : Nat) (c T lo hi : Int) (n : Nat) (f : Nat → Int) : CT := .leaf (.exit 0, ( out_al d c T lo hi n f 0 (.exit 0)).getD (E_al d c T lo hi n f))
noncomputable def LS_al (d : Nat) (c T lo hi : Int) (n : Nat) (f : Nat → Int) : LSpec := normSp [(.slot 6, 900, 58, 1)] (sumL (inv_al d c T lo hi n f (0)) (T_al d c T lo hi n f))
set_option maxRecDepth 100000 in
theorem al_ls (d : Nat) (c T lo hi : Int) (n : Nat) (f : Nat → Int) (pre0 : AllOk' d) (pre1 : alQ c T lo hi (d + 1) n f) : LSound Try.prog (.loop B_al) (LS_al d c T lo hi n f) := by
  refine loop_roundsX [(.slot 6, 900, 58, 1)] (E := { R := [], H := [], C := [(51, (C_All d))] }) (G := [(40, S_rHeight), (42, S_rIn)]) (L := []) (SoundG.cons rHeight_ok (SoundG.cons rIn_ok (SoundG.nil _))) (SoundX.ofC (SoundRL.nil _) (SoundHL.nil _) (SoundCL.cons pre0 (SoundCL.nil _))) mixed noLoops (X := Nat) (inv_al d c T lo hi n f) (fun k => k ≤ (hi - lo + 1).toNat) (fun k => (hi - lo + 1).toNat - k) (out_al d c T lo hi n f) (x0 := 0) (by simp) ?_ ?_ ?_
  · rintro k
    kernel_rfl
  · rintro k y E h
    unfold out_al at h
    split at h
    · cases h; kernel_rfl
    · cases h
  · rintro Q hQ k hx
    refine ⟨(k + 1), ?_⟩
    have e : roundX Try.prog [(40, S_rHeight), (42, S_rIn)] { R := [], H := [], C := [(51, (C_All d))] } [] [(.slot 6, 900, 58, 1)] B_al (inv_al d c T lo hi n f k) (inv_al d c T lo hi n f ((k + 1))) (out_al d c T lo hi n f k) = (Tree.branch (decide (lo + (↑k : Int) ≤ hi)) (Tree.need [(0 + n) * 8 ≤ 140737488355328, ∀ (i : Nat), i < n → ∀ (a : AV), a ∈ [iI (f i)] → AV.one a = true] (Tree.need [(0 + n + 1) * 8 ≤ 140737488355328, ∀ (i : Nat), i < 1 → ∀ (a : AV), a ∈ chunk 1 [iI (lo + (↑k : Int))] i → AV.one a = true] (Tree.need [isRec 1 (0 + n + 1) (catF (0 + n) (catF 0 (fun x => []) fun k => [iI (f k)]) (chunk 1 [iI (lo + (↑k : Int))])), alQ c T lo hi d (0 + n + 1) (col 0 (catF (0 + n) (catF 0 (fun x => []) fun k => [iI (f k)]) (chunk 1 [iI (lo + (↑k : Int))])))] (Tree.need [(List.length (alP T lo hi d (tol n f) k) + List.length (allV T lo hi d (tol (0 + n + 1) (col 0 (catF (0 + n) (catF 0 (fun x => []) fun k => [iI (f k)]) (chunk 1 [iI (lo + (↑k : Int))])))))) * 24 ≤ 140737488355328, ∀ (i : Nat), i < List.length (allV T lo hi d (tol (0 + n + 1) (col 0 (catF (0 + n) (catF 0 (fun x => []) fun k => [iI (f k)]) (chunk 1 [iI (lo + (↑k : Int))]))))) → ∀ (a : AV), a ∈ [LI (nL (allV T lo hi d (tol (0 + n + 1) (col 0 (catF (0 + n) (catF 0 (fun x => []) fun k => [iI (f k)]) (chunk 1 [iI (lo + (↑k : Int))]))))) i)] → AV.one a = true] (Tree.need [inI64 (lo + (↑k : Int) + (1 : Int))] (Tree.need [AV.agg [iI c, iI T, iI lo, iI hi] = AV.agg [iI c, iI T, iI lo, iI hi], (AV.lst 1 n fun k => [iI (f k)]) = AV.lst 1 n fun k => [iI (f k)], AV.ptr 0 0 = AV.ptr 0 0, AV.x (Value.slice none 0 0) = AV.x (Value.slice none 0 0), T - sumF f n = T - sumF f n, AV.row 900 = AV.row 900, lo + (↑k : Int) + (1 : Int) = lo + (↑(k + 1) : Int), List.length (alP T lo hi d (tol n f) k) + List.length (allV T lo hi d (tol (0 + n + 1) (col 0 (catF (0 + n) (catF 0 (fun x => []) fun k => [iI (f k)]) (chunk 1 [iI (lo + (↑k : Int))]))))) = List.length (alP T lo hi d (tol n f) (k + 1)), ∀ (i : Nat), i < List.length (alP T lo hi d (tol n f) (k + 1)) → catF (List.length (alP T lo hi d (tol n f) k)) (fun j => [LI (nL (alP T lo hi d (tol n f) k) j)]) (fun k_1 => [LI (nL (allV T lo hi d (tol (0 + n + 1) (col 0 (catF (0 + n) (catF 0 (fun x => []) fun k => [iI (f k)]) (chunk 1 [iI (lo + (↑k : Int))]))))) k_1)]) i = [LI (nL (alP T lo hi d (tol n f) (k + 1)) i)], c = c, T = T, lo = lo, hi = hi] (Tree.leaf AEx.normal))))))) (Tree.need [AV.agg [iI c, iI T, iI lo, iI hi] = AV.agg [iI c, iI T, iI lo, iI hi], (AV.lst 1 n fun k => [iI (f k)]) = AV.lst 1 n fun k => [iI (f k)], AV.ptr 0 0 = AV.ptr 0 0, AV.x (Value.slice none 0 0) = AV.x (Value.slice none 0 0), T - sumF f n = T - sumF f n, AV.row 900 = AV.row 900, List.length (alP T lo hi d (tol n f) k) = List.length (alP T lo hi d (tol n f) (Int.toNat (hi - lo + (1 : Int)))), ∀ (i : Nat), i < List.length (alP T lo hi d (tol n f) (Int.toNat (hi - lo + (1 : Int)))) → [LI (nL (alP T lo hi d (tol n f) k) i)] = [LI (nL (alP T lo hi d (tol n f) (Int.toNat (hi - lo + (1 : Int)))) i)], c = c, T = T, lo = lo, hi = hi] (Tree.leaf (AEx.exit 0)))) := by kernel_rfl
    rw [e]
    simp only [T_al, out_al, Tree.sat, Option.getD_some] at hQ
    obtain ⟨q1, q2, q3, q4, q5⟩ := pre1
    obtain ⟨g1, g2, g3, g4⟩ := cat_tol n f (lo + (k : Int))
    have hS := alP_succ T lo hi d (tol n f) k
    have hA : lo + (k : Int) ≤ hi → alQ c T lo hi d (0 + n + 1) (col 0 (catF (0 + n) (catF 0 (fun _ => []) fun k => [iI (f k)]) (chunk 1 [iI (lo + (k : Int))]))) := fun hk => by
      have hb := alP_bd (k := k) (by omega) q5
      refine ⟨by omega, q2, q3, fun j hj => ?_, by rw [g2]; omega⟩
      rcases (show j < n ∨ j = n by omega) with h | rfl
      · rw [g3 j h]; exact q4 j h
      · rw [g4]; omega
    have hB : lo + (k : Int) ≤ hi → (alP T lo hi d (tol n f) k).length + (allV T lo hi d (tol n f ++ [lo + (k : Int)])).length ≤ 1000000 := fun hk => alP_bd (k := k) (by omega) q5
    simp only [Tree.sat, allP, fitP, fitL, valEq, inI64, true_and, and_true, decide_eq_true_eq, decide_eq_false_iff_not, g2, hS, List.length_append, catLL]
    clear e
    refine ⟨fun h => ?_, fun h => ?_⟩
    · have hA := hA h
      have hB := hB h
      (repeat' first | with_reducible apply And.intro | with_reducible intro _)
      all_goals first | exact True.intro | omega | with_reducible rfl | assumption | exact one_of (by assumption) (by simp [AV.one, Value.oneCell']) | (rename_i hm; cases List.mem_singleton.1 hm; rfl) | rfl
    · obtain rfl : k = (hi - lo + 1).toNat := by omega
      (repeat' first | with_reducible apply And.intro | with_reducible intro _)
      all_goals first | exact True.intro | omega | with_reducible rfl | (rename_i E hE; cases hE; exact hQ) | rfl

set_option maxRecDepth 100000 in
theorem rAll0_at (d : Nat) (c T lo hi : Int) (n : Nat) (f : Nat → Int) (pre0 : alQ c T lo hi d n f) (pre1 : d = 0 ∨ AllOk' (d - 1)) : SoundCAt Try.prog 51 [.agg [i c, i T, i lo, i hi], .lst 1 n (fun k => [i (f k)])] (.branch (decide (d = 0) && bt lo (T - sumF f n) hi) (.leaf (.lst 1 1 (chunk 1 [.lst 1 (0 + n + 1) (catF (0 + n) (catF 0 (fun _ => []) fun k => [i (f k)]) (chunk 1 [i (T - sumF f n)]))]))) (.leaf (LL (allV T lo hi d (tol n f))))) := by
  refine soundCAt_fin (G := [(40, S_rHeight), (42, S_rIn)]) (X := { R := [], H := [] }) (L := [needSp [d ≠ 0] (LS_al (d - 1) c T lo hi n f)]) (SoundG.cons rHeight_ok (SoundG.cons rIn_ok (SoundG.nil _))) (SoundX.of (SoundRL.nil _) (SoundHL.nil _)) mixed Try.func51 (show Try.f51.body = some (bodyOf Try.f51) by kernel_rfl) (one_loop (fun cj hcj => by
    have e : loopAt (bodyOf Try.f51) 0 = some (.loop B_al) := by kernel_rfl
    rw [e] at hcj; cases hcj
    exact needSp_soundN (ps := [d ≠ 0]) (fun h => (al_ls (d - 1) c T lo hi n f (pre1.resolve_left h) (by rw [Nat.sub_add_cancel (Nat.pos_of_ne_zero h)]; exact pre0)).N))) (t := (Tree.need [isRec 1 n fun k => [i (f k)], (↑n : Int) ≤ (↑n : Int), n ≤ 100, ∀ (k : Nat), k < n → (-1000000 : Int) ≤ f k ∧ f k ≤ (1000000 : Int)] (Tree.need [inI64 (T - sumF f n)] (Tree.need [inI64 (c - (1 : Int))] (Tree.branch ((↑n : Int) == c - (1 : Int)) (Tree.branch (!bt lo (T - sumF f n) hi) (Tree.leaf (AV.x (Value.slice none 0 0))) (Tree.need [(0 + n) * 8 ≤ 140737488355328, ∀ (i : Nat), i < n → ∀ (a : AV), a ∈ [Ytmdeoobmeokmeaa.i (f i)] → AV.one a = true] (Tree.need [(0 + n + 1) * 8 ≤ 140737488355328, ∀ (i : Nat), i < 1 → ∀ (a : AV), a ∈ chunk 1 [iI (T - sumF f n)] i → AV.one a = true] (Tree.leaf (AV.lst 1 1 (chunk 1 [AV.lst 1 (0 + n + 1) (catF (0 + n) (catF 0 (fun x => []) fun k => [iI (f k)]) (chunk 1 [iI (T - sumF f n)]))])))))) (Tree.need [d ≠ 0] (Tree.need [AV.agg [iI c, iI T, iI lo, iI hi] = AV.agg [iI c, iI T, iI lo, iI hi], (AV.lst 1 n fun k => [iI (f k)]) = AV.lst 1 n fun k => [iI (f k)], AV.ptr 0 0 = AV.ptr 0 0, AV.x (Value.slice none 0 0) = AV.x (Value.slice none 0 0), T - sumF f n = T - sumF f n, AV.row 900 = AV.row 900, lo = lo + (↑(0 : Nat) : Int), 0 = List.length (alP T lo hi (d - 1) (tol n f) 0), ∀ (i : Nat), i < List.length (alP T lo hi (d - 1) (tol n f) 0) → [] = [LI (nL (alP T lo hi (d - 1) (tol n f) 0) i)], c = c, T = T, lo = lo, hi = hi] (Tree.leaf (AV.lst 1 (List.length (alP T lo hi (d - 1) (tol n f) (Int.toNat (hi - lo + (1 : Int))))) fun j => [AV.lst 1 (List.length (nL (alP T lo hi (d - 1) (tol n f) (Int.toNat (hi - lo + (1 : Int)))) j)) fun k => [iI (nthJ (nL (alP T lo hi (d - 1) (tol n f) (Int.toNat (hi - lo + (1 : Int)))) j) k)]]))))))))) (by kernel_rfl) ?_
  intro Q hQ
  obtain ⟨q1, q2, q3, q4, q5⟩ := pre0
  have hs := sumF_bd (f := f) (n := n) (N := 200) (by omega) (fun k hk => by have := q4 k hk; omega) n (Nat.le_refl n)
  simp only [Tree.sat, Bool.and_eq_true, Bool.and_eq_false_iff, decide_eq_true_eq, decide_eq_false_iff_not] at hQ
  simp only [Tree.sat, allP, valEq, inI64, true_and, and_true, decide_eq_true_eq, decide_eq_false_iff_not, beq_iff_eq, beq_eq_false_iff_ne, Bool.not_eq_true', Bool.not_eq_false']
  refine ⟨⟨isRec1 n f, by omega, by omega, fun k hk => by have := q4 k hk; omega⟩, by omega, by omega, fun h1 => ⟨fun h2 => ?_, fun h2 => ⟨⟨by omega, ?_⟩, ⟨by omega, ?_⟩, ?_⟩⟩, fun h1 => ⟨by omega, ⟨by omega, rfl, fun j hj => absurd hj (Nat.not_lt_zero _)⟩, ?_⟩⟩
  · obtain rfl : d = 0 := by omega
    have e : allV T lo hi 0 (tol n f) = [] := by
      unfold allV
      rw [tol_sum, h2]
      rfl
    rw [e] at hQ
    exact ⟨LL [], ⟨True.intro, rfl⟩, hQ.2 (.inr h2)⟩
  · intro k hk a ha
    cases List.mem_singleton.1 ha
    rfl
  · intro k hk a ha
    exact one_of ha (by simp [AV.one, Value.oneCell'])
  · exact ⟨.lst 1 1 (chunk 1 [.lst 1 (0 + n + 1) (catF (0 + n) (catF 0 (fun _ => []) fun k => [i (f k)]) (chunk 1 [i (T - sumF f n)]))]), ⟨rfl, rfl, fun j hj => rfl⟩, hQ.1 ⟨by omega, h2⟩⟩
  · have e : alP T lo hi (d - 1) (tol n f) (hi - lo + 1).toNat = allV T lo hi d (tol n f) := by
      rw [alP_all, show d - 1 + 1 = d by omega]
    rw [e]
    exact ⟨LL (allV T lo hi d (tol n f)), ⟨rfl, rfl, fun j hj => rfl⟩, hQ.2 (.inl (by omega))⟩


theorem rAll_at (d : Nat) (c T lo hi : Int) (n : Nat) (f : Nat → Int) (pre0 : alQ c T lo hi d n f) (pre1 : d = 0 ∨ AllOk' (d - 1)) : SoundCAt Try.prog 51 [.agg [i c, i T, i lo, i hi], .lst 1 n (fun k => [i (f k)])] (.leaf (LL (allV T lo hi d (tol n f)))) := by
  refine SoundCAt.weaken (rAll0_at d c T lo hi n f pre0 pre1) fun Q hQ => ?_
  simp only [Tree.sat, Bool.and_eq_true, decide_eq_true_eq] at hQ ⊢
  refine ⟨fun h => ?_, fun _ => ⟨_, hQ, fun _ _ _ h => h⟩⟩
  obtain ⟨rfl, h2⟩ := h
  refine ⟨_, hQ, fun e w v r => ?_⟩
  have e : allV T lo hi 0 (tol n f) = [tol n f ++ [T - sumF f n]] := by
    unfold allV
    rw [tol_sum, h2]
    rfl
  rw [e]
  exact cat_li n f _ r


theorem All_okC : ∀ d, AllOk' d := by
  intro d
  induction d with
  | zero =>
    refine ⟨⟨_, Try.func51, by kernel_rfl, by kernel_rfl⟩, fun avs t h => ?_⟩
    unfold C_All at h
    split at h
    · cases h
      intro Q hQ
      exact (SoundCAt.same (rAll_at 0 _ _ _ _ _ (col 0 _) hQ.1.2 (.inl rfl)) (.cons (.refl _) (.cons (.lst 1 _ _ _ hQ.1.1) .nil))) Q hQ.2
    · cases h
      intro Q hQ
      exact (SoundCAt.same (rAll_at 0 _ _ _ _ 0 (fun _ => 0) hQ.1 (.inl rfl)) (.cons (.refl _) (.cons (.nil 1 _) .nil))) Q hQ.2
    · cases h
  | succ d ih =>
    refine ⟨⟨_, Try.func51, by kernel_rfl, by kernel_rfl⟩, fun avs t h => ?_⟩
    unfold C_All at h
    split at h
    · cases h
      intro Q hQ
      exact (SoundCAt.same (rAll_at (d + 1) _ _ _ _ _ (col 0 _) hQ.1.2 (.inr ih)) (.cons (.refl _) (.cons (.lst 1 _ _ _ hQ.1.1) .nil))) Q hQ.2
    · cases h
      intro Q hQ
      exact (SoundCAt.same (rAll_at (d + 1) _ _ _ _ 0 (fun _ => 0) hQ.1 (.inr ih)) (.cons (.refl _) (.cons (.nil 1 _) .nil))) Q hQ.2
    · cases h

end Go.Proofs.Ytmdeoobmeokmeaa
/- Contracts of functions of the program, by the engine Sx: what each call comes to. Printed by a program of this repo (sxgen.py). -/
set_option linter.unusedSimpArgs false
set_option linter.unusedVariables false
namespace Go.Proofs.Ytmdeoobmeokmeaa
open Go Go.Sx Go.RowKit

/-- The height of a mark, by a list of volumes. -/
def hgt (w : List Int) (k : Nat) : Int := sumF (nthJ w) k
def itW (c T lo hi : Int) (n : Nat) (a b u v : Nat → Int) (w : List Int) : Bool := itB c T lo hi n a b u v w.length (nthJ w)
/-- All truths. -/
def tuL (c T lo hi : Int) (n : Nat) (a b u v : Nat → Int) : List (List Int) := (allV T lo hi (c.toNat - 1) []).filter (itW c T lo hi n a b u v)
theorem tol_list (w : List Int) : tol w.length (nthJ w) = w := by
  apply List.ext_getElem
  · simp [tol]
  · intro k h1 h2
    rw [← nthJ_get h2]
    simp [tol]
theorem sumF_congr {f g : Nat → Int} : ∀ {n : Nat}, (∀ k, k < n → f k = g k) → sumF f n = sumF g n
  | 0, _ => rfl
  | n + 1, h => by
    show sumF f n + f n = sumF g n + g n
    rw [sumF_congr (fun k hk => h k (by omega)), h n (by omega)]
theorem hgt_all (w : List Int) : hgt w w.length = w.sum := by
  unfold hgt
  rw [← tol_sum, tol_list]
theorem allV_mem {T lo hi : Int} : ∀ {d : Nat} {bs w : List Int}, w ∈ allV T lo hi d bs ↔ ∃ s : List Int, w = bs ++ s ∧ s.length = d + 1 ∧ (∀ x ∈ s, lo ≤ x ∧ x ≤ hi) ∧ w.sum = T
  | 0, bs, w => by
    unfold allV
    constructor
    · intro h
      split at h
      · rename_i hb
        rw [List.mem_singleton] at h
        subst h
        refine ⟨[T - bs.sum], rfl, rfl, fun x hx => ?_, ?_⟩
        · rw [List.mem_singleton] at hx
          subst hx
          exact (bt_iff _ _ _).1 hb
        · rw [List.sum_append]; simp; omega
      · cases h
    · rintro ⟨s, rfl, hl, hx, hs⟩
      match s, hl with
      | [x], _ =>
        have h1 := hx x (by simp)
        rw [List.sum_append] at hs
        simp at hs
        have e : T - bs.sum = x := by omega
        rw [e, if_pos ((bt_iff _ _ _).2 h1)]
        simp
  | d + 1, bs, w => by
    unfold allV
    rw [List.mem_flatMap]
    constructor
    · rintro ⟨q, hq, h⟩
      obtain ⟨s, rfl, hl, hx, hs⟩ := allV_mem.1 h
      rw [List.mem_range] at hq
      refine ⟨(lo + q) :: s, by simp, by simp [hl], fun x hx' => ?_, hs⟩
      rcases List.mem_cons.1 hx' with rfl | hx'
      · omega
      · exact hx x hx'
    · rintro ⟨s, rfl, hl, hx, hs⟩
      match s, hl with
      | x :: s, hl =>
        have h1 := hx x (by simp)
        refine ⟨(x - lo).toNat, List.mem_range.2 (by omega), allV_mem.2 ⟨s, ?_, by simpa using hl, fun y hy => hx y (List.mem_cons_of_mem _ hy), hs⟩⟩
        rw [show lo + (((x - lo).toNat : Nat) : Int) = x by omega]
        simp
theorem allV_len {T lo hi : Int} : ∀ (d : Nat) (bs : List Int), (allV T lo hi d bs).length ≤ (hi - lo + 1).toNat ^ d
  | 0, bs => by
    unfold allV
    split <;> simp
  | d + 1, bs => by
    unfold allV
    rw [List.length_flatMap, Nat.pow_succ]
    have h : ∀ l : List Nat, (l.map (fun q : Nat => (allV T lo hi d (bs ++ [lo + (q : Int)])).length)).sum ≤ l.length * (hi - lo + 1).toNat ^ d := by
      intro l
      induction l with
      | nil => simp
      | cons q l ih =>
        have := allV_len (T := T) (lo := lo) (hi := hi) d (bs ++ [lo + (q : Int)])
        simp only [List.map_cons, List.sum_cons, List.length_cons, Nat.succ_mul]
        omega
    have := h (List.range (hi - lo + 1).toNat)
    rw [List.length_range] at this
    rw [Nat.mul_comm]
    exact this
theorem itW_iff {c T lo hi : Int} {n : Nat} {a b u v : Nat → Int} {w : List Int} : itW c T lo hi n a b u v w = true → (w.length : Int) = c ∧ (∀ x ∈ w, lo ≤ x ∧ x ≤ hi) ∧ w.sum = T := by
  intro h
  unfold itW itB at h
  simp only [Bool.and_eq_true, decide_eq_true_eq] at h
  obtain ⟨⟨h1, _⟩, h3⟩ := h
  obtain ⟨h4, h5⟩ := cellsB_iff.1 h1
  refine ⟨h4, fun x hx => ?_, ?_⟩
  · obtain ⟨k, hk, rfl⟩ := List.mem_iff_getElem.1 hx
    have := h5 k hk
    rw [← nthJ_get hk]
    exact this
  · rw [show c.toNat = w.length by omega] at h3
    rw [← hgt_all]
    exact h3
theorem tuL_mem {c T lo hi : Int} {n : Nat} {a b u v : Nat → Int} {w : List Int} (hc : 1 ≤ c) : w ∈ tuL c T lo hi n a b u v ↔ itW c T lo hi n a b u v w = true := by
  unfold tuL
  rw [List.mem_filter, allV_mem]
  constructor
  · exact fun h => h.2
  · intro h
    obtain ⟨h1, h2, h3⟩ := itW_iff h
    exact ⟨⟨w, by simp, by omega, h2, h3⟩, h⟩
theorem getD_mem {L : List (List Int)} {q : Nat} (h : q < L.length) : nL L q ∈ L := by
  rw [nL_get h]
  exact List.getElem_mem h
/-- The truth that is as high, or as low, as it can be, is among them. -/
theorem sh_mem {c T lo hi : Int} {n : Nat} {a b u v : Nat → Int} (h1 : flt c T lo hi n a b u v = 0) (h2 : okB c T lo hi n a b u v = true) (r : Bool) : tol c.toNat (shV c T lo hi n a b u v r) ∈ tuL c T lo hi n a b u v ∧ ∀ k, k ≤ c.toNat → hgt (tol c.toNat (shV c T lo hi n a b u v r)) k = sumF (shV c T lo hi n a b u v r) k := by
  have hb := tube_bd (flt_iff.1 h1).1
  have hs : ∀ k, k ≤ c.toNat → hgt (tol c.toNat (shV c T lo hi n a b u v r)) k = sumF (shV c T lo hi n a b u v r) k := by
    intro k hk
    exact sumF_congr fun j hj => tol_get (by omega)
  refine ⟨(tuL_mem (by omega)).2 ?_, hs⟩
  have hm : ((tol c.toNat (shV c T lo hi n a b u v r)).length : Int) = c := by rw [tol_len]; omega
  refine (it_tr h1 hm).2 ?_
  have ht := (sh_it h1 h2 r).1
  have e : ∀ x, x ≤ c.toNat → sumF (nthJ (tol c.toNat (shV c T lo hi n a b u v r))) x = sumF (shV c T lo hi n a b u v r) x := hs
  have hr := rdOk_of (n := n) (a := a) (b := b) (u := u) (v := v) hb.1 (flt_iff.1 h1).2.2
  obtain ⟨t1, t2, t3, t4⟩ := ht
  refine ⟨rfl, ?_, fun k hk => ?_, fun j hj => ?_⟩
  · rw [e _ (Nat.le_refl _)]; exact t2
  · rw [e _ (by omega), e _ (by omega)]; exact t3 k hk
  · have := hr j hj
    rw [e _ (by omega), e _ (by omega)]
    refine ⟨(t4 j hj).1, fun hbc => ?_⟩
    rw [e _ (by omega)]
    exact (t4 j hj).2 hbc
theorem tu_ok {c T lo hi : Int} {n : Nat} {a b u v : Nat → Int} (h1 : flt c T lo hi n a b u v = 0) : okB c T lo hi n a b u v = true ↔ tuL c T lo hi n a b u v ≠ [] := by
  have hb := tube_bd (flt_iff.1 h1).1
  have hr := rdOk_of (n := n) (a := a) (b := b) (u := u) (v := v) hb.1 (flt_iff.1 h1).2.2
  constructor
  · intro h2 h3
    have := (sh_mem h1 h2 true).1
    rw [h3] at this
    cases this
  · intro h
    obtain ⟨w, hw⟩ := List.exists_mem_of_ne_nil _ h
    have h2 := (tuL_mem (by omega)).1 hw
    exact ok_of_tr hb.2.1 hr ((it_tr h1 (itW_iff h2).1).1 h2)
end Go.Proofs.Ytmdeoobmeokmeaa
/- Contracts of functions of the program, by the engine Sx: what each call comes to. Printed by a program of this repo (sxgen.py). -/
set_option linter.unusedSimpArgs false
set_option linter.unusedVariables false
namespace Go.Proofs.Ytmdeoobmeokmeaa
open Go Go.Sx Go.RowKit

/-- A list of lists, as it is seen. -/
def lolOf (N : Nat) (F : Nat → List AV) : List (List Int) := (List.range N).map fun k => match F k with
  | [.lst 1 m g] => tol m (col 0 g)
  | _ => []
def isLL (N : Nat) (F : Nat → List AV) : Prop := ∀ k, k < N → F k = [LI (nL (lolOf N F) k)]
/-- Lists, not too long, not too many. -/
def smLL (L : List (List Int)) : Prop := L.length ≤ 1000000 ∧ ∀ k, k < L.length → (nL L k).length ≤ 100
def flT (c T lo hi : Int) (n : Nat) (a b u v : Nat → Int) (L : List (List Int)) (k : Nat) : List (List Int) := (L.take k).filter (itW c T lo hi n a b u v)


theorem lol_len (N : Nat) (F : Nat → List AV) : (lolOf N F).length = N := by simp [lolOf]
theorem lol_LL (L : List (List Int)) : lolOf L.length (fun k => [LI (nL L k)]) = L := by
  apply List.ext_getElem
  · simp [lolOf]
  · intro k h1 h2
    simp only [lolOf, List.getElem_map, List.getElem_range]
    show tol (nL L k).length (nthJ (nL L k)) = _
    rw [tol_list, nL_get h2]
theorem isLL_LL (L : List (List Int)) : isLL L.length (fun k => [LI (nL L k)]) := fun k _ => by
  rw [lol_LL]
theorem flT_all (c T lo hi : Int) (n : Nat) (a b u v : Nat → Int) (L : List (List Int)) : flT c T lo hi n a b u v L L.length = L.filter (itW c T lo hi n a b u v) := by
  unfold flT
  rw [List.take_length]
theorem flT_yes {c T lo hi : Int} {n : Nat} {a b u v : Nat → Int} {L : List (List Int)} {k : Nat} (hk : k < L.length) (h : itB c T lo hi n a b u v (nL L k).length (nthJ (nL L k)) = true) : flT c T lo hi n a b u v L (k + 1) = flT c T lo hi n a b u v L k ++ [nL L k] := by
  have h' : itW c T lo hi n a b u v L[k] = true := by
    rw [← nL_get hk]
    exact h
  unfold flT
  rw [List.take_succ_eq_append_getElem hk, List.filter_append, nL_get hk]
  simp [h']
theorem flT_no {c T lo hi : Int} {n : Nat} {a b u v : Nat → Int} {L : List (List Int)} {k : Nat} (hk : k < L.length) (h : itB c T lo hi n a b u v (nL L k).length (nthJ (nL L k)) = false) : flT c T lo hi n a b u v L (k + 1) = flT c T lo hi n a b u v L k := by
  have h' : itW c T lo hi n a b u v L[k] = false := by
    rw [← nL_get hk]
    exact h
  unfold flT
  rw [List.take_succ_eq_append_getElem hk, List.filter_append]
  simp [h']
theorem flT_len (c T lo hi : Int) (n : Nat) (a b u v : Nat → Int) (L : List (List Int)) (k : Nat) : (flT c T lo hi n a b u v L k).length ≤ L.length := by
  unfold flT
  have h1 := List.length_filter_le (itW c T lo hi n a b u v) (L.take k)
  rw [List.length_take] at h1
  omega
theorem catL1 (L : List (List Int)) (w : List Int) {j : Nat} (h : j < L.length + 1) : catF L.length (fun j => [LI (nL L j)]) (chunk 1 [LI w]) j = [LI (nL (L ++ [w]) j)] := by
  unfold catF
  rw [nL_app]
  by_cases h1 : j < L.length
  · rw [if_pos h1, decide_eq_true h1, show j - L.length = 0 by omega]; rfl
  · rw [if_neg h1, decide_eq_false h1, show j - L.length = 0 by omega]; rfl

noncomputable def E_ts (c T lo hi : Int) (n : Nat) (a b u v : Nat → Int) (L : List (List Int)) : St := (some
  {
    σ :=
      [AV.agg
          [AV.x (Value.int IntKind.i64 c), AV.x (Value.int IntKind.i64 T), AV.x (Value.int IntKind.i64 lo),
            AV.x (Value.int IntKind.i64 hi)],
        AV.lst (1 : Nat) (List.length L) fun k =>
          [AV.lst (1 : Nat) (List.length (nL L k)) fun k_1 => [AV.x (Value.int IntKind.i64 (nthJ (nL L k) k_1))]],
        AV.lst (4 : Nat) n fun k =>
          [AV.x (Value.int IntKind.i64 (a k)), AV.x (Value.int IntKind.i64 (b k)), AV.x (Value.int IntKind.i64 (u k)),
            AV.x (Value.int IntKind.i64 (v k))],
        AV.ptr (0 : Nat) (0 : Nat), AV.top, AV.top, AV.x (Value.slice none (0 : Nat) (0 : Nat)), AV.top, AV.top, AV.top,
        AV.top, AV.top, AV.top, AV.top, AV.top, AV.top, AV.top, AV.top, AV.top, AV.top, AV.top, AV.top, AV.top, AV.top,
        AV.top, AV.top, AV.top, AV.top, AV.top, AV.top],
    m :=
      [((900 : Nat), Res.row (58 : Nat) (1 : Nat) (0 : Nat) fun x => []),
        ((0 : Nat),
          Res.cells (25 : Nat)
            [AV.x (Value.int IntKind.i64 c), AV.x (Value.int IntKind.i64 T), AV.x (Value.int IntKind.i64 lo),
              AV.x (Value.int IntKind.i64 hi)])],
    nx := (901 : Nat) } : Option St).getD { σ := [], m := [], nx := 0 }
noncomputable def B_ts : Code := loopBody (loopAt (bodyOf Try.f53) 0)
noncomputable def inv_ts (c T lo hi : Int) (n : Nat) (a b u v : Nat → Int) (L : List (List Int)) (k : Nat) : St := { σ := ovrS [(7, .row 900), (8, i k)] (E_ts c T lo hi n a b u v L).σ, m := [(900, .row 58 1 (flT c T lo hi n a b u v L k).length (fun j => [LI (nL (flT c T lo hi n a b u v L k) j)])), (0, .cells 25 [i c, i T, i lo, i hi])], nx := (E_ts c T lo hi n a b u v L).nx }
noncomputable def out_ts (c T lo hi : Int) (n : Nat) (a b u v : Nat → Int) (L : List (List Int)) (k : Nat) : AEx → Option St := fun ex => match ex with
  | .exit 0 => some { σ := ovrS [(7, .row 900)] (E_ts c T lo hi n a b u v L).σ, m := [(900, .row 58 1 (flT c T lo hi n a b u v L L.length).length (fun j => [LI (nL (flT c T lo hi n a b u v L L.length) j)])), (0, .cells 25 [i c, i T, i lo, i hi])], nx := (E_ts c T lo hi n a b u v L).nx }
  | _ => none
noncomputable def T_ts (c T lo hi : Int) (n : Nat) (a b u v : Nat → Int) (L : List (List Int)) : CT := .leaf (.exit 0, ( out_ts c T lo hi n a b u v L 0 (.exit 0)).getD (E_ts c T lo hi n a b u v L))
noncomputable def LS_ts (c T lo hi : Int) (n : Nat) (a b u v : Nat → Int) (L : List (List Int)) : LSpec := normSp [(.slot 7, 900, 58, 1)] (sumL (inv_ts c T lo hi n a b u v L (0)) (T_ts c T lo hi n a b u v L))
set_option maxRecDepth 100000 in
theorem ts_ls (c T lo hi : Int) (n : Nat) (a b u v : Nat → Int) (L : List (List Int)) (pre0 : flt c T lo hi n a b u v = 0) (pre1 : smLL L) : LSound Try.prog (.loop B_ts) (LS_ts c T lo hi n a b u v L) := by
  refine loop_roundsN [(.slot 7, 900, 58, 1)] (G := [(43, S_rIsTruth)]) (L := []) (SoundG.cons rIsTruth_ok (SoundG.nil _)) mixed noLoops (X := Nat) (inv_ts c T lo hi n a b u v L) (fun k => k ≤ L.length) (fun k => L.length - k) (out_ts c T lo hi n a b u v L) (x0 := 0) (by simp) ?_ ?_ ?_
  · rintro k
    kernel_rfl
  · rintro k y E h
    unfold out_ts at h
    split at h
    · cases h; kernel_rfl
    · cases h
  · rintro Q hQ k hx
    refine ⟨(k + 1), ?_⟩
    have e : roundN Try.prog [(43, S_rIsTruth)] [] [(.slot 7, 900, 58, 1)] B_ts (inv_ts c T lo hi n a b u v L k) (inv_ts c T lo hi n a b u v L ((k + 1))) (out_ts c T lo hi n a b u v L k) = (Tree.branch (decide ((↑k : Int) < (↑(List.length L) : Int))) (Tree.need [(0 : Int) ≤ (↑k : Int) ∧ (↑k : Int) < (↑(List.length L) : Int)] (Tree.need [isRec 4 n fun k => [iI (a k), iI (b k), iI (u k), iI (v k)], isRec 1 (List.length (nL L k)) fun k_1 => [iI (nthJ (nL L k) k_1)], List.length (nL L k) ≤ 100000, flt c T lo hi n a b u v = (0 : Int)] (Tree.branch (itB c T lo hi n a b u v (List.length (nL L k)) (nthJ (nL L k))) (Tree.need [(0 : Int) ≤ (↑k : Int) ∧ (↑k : Int) < (↑(List.length L) : Int)] (Tree.need [(List.length (flT c T lo hi n a b u v L k) + 1) * 24 ≤ 140737488355328, ∀ (i : Nat), i < 1 → ∀ (a : AV), a ∈ chunk 1 [AV.lst 1 (List.length (nL L k)) fun k_1 => [iI (nthJ (nL L k) k_1)]] i → AV.one a = true] (Tree.need [inI64 ((↑k : Int) + (1 : Int))] (Tree.need [AV.agg [iI c, iI T, iI lo, iI hi] = AV.agg [iI c, iI T, iI lo, iI hi], (AV.lst 1 (List.length L) fun k => [AV.lst 1 (List.length (nL L k)) fun k_1 => [iI (nthJ (nL L k) k_1)]]) = AV.lst 1 (List.length L) fun k => [AV.lst 1 (List.length (nL L k)) fun k_1 => [iI (nthJ (nL L k) k_1)]], (AV.lst 4 n fun k => [iI (a k), iI (b k), iI (u k), iI (v k)]) = AV.lst 4 n fun k => [iI (a k), iI (b k), iI (u k), iI (v k)], AV.ptr 0 0 = AV.ptr 0 0, AV.x (Value.slice none 0 0) = AV.x (Value.slice none 0 0), AV.row 900 = AV.row 900, (↑k : Int) + (1 : Int) = (↑(k + 1) : Int), List.length (flT c T lo hi n a b u v L k) + 1 = List.length (flT c T lo hi n a b u v L (k + 1)), ∀ (i : Nat), i < List.length (flT c T lo hi n a b u v L (k + 1)) → catF (List.length (flT c T lo hi n a b u v L k)) (fun j => [LI (nL (flT c T lo hi n a b u v L k) j)]) (chunk 1 [AV.lst 1 (List.length (nL L k)) fun k_1 => [iI (nthJ (nL L k) k_1)]]) i = [LI (nL (flT c T lo hi n a b u v L (k + 1)) i)], c = c, T = T, lo = lo, hi = hi] (Tree.leaf AEx.normal))))) (Tree.need [inI64 ((↑k : Int) + (1 : Int))] (Tree.need [AV.agg [iI c, iI T, iI lo, iI hi] = AV.agg [iI c, iI T, iI lo, iI hi], (AV.lst 1 (List.length L) fun k => [AV.lst 1 (List.length (nL L k)) fun k_1 => [iI (nthJ (nL L k) k_1)]]) = AV.lst 1 (List.length L) fun k => [AV.lst 1 (List.length (nL L k)) fun k_1 => [iI (nthJ (nL L k) k_1)]], (AV.lst 4 n fun k => [iI (a k), iI (b k), iI (u k), iI (v k)]) = AV.lst 4 n fun k => [iI (a k), iI (b k), iI (u k), iI (v k)], AV.ptr 0 0 = AV.ptr 0 0, AV.x (Value.slice none 0 0) = AV.x (Value.slice none 0 0), AV.row 900 = AV.row 900, (↑k : Int) + (1 : Int) = (↑(k + 1) : Int), List.length (flT c T lo hi n a b u v L k) = List.length (flT c T lo hi n a b u v L (k + 1)), ∀ (i : Nat), i < List.length (flT c T lo hi n a b u v L (k + 1)) → [LI (nL (flT c T lo hi n a b u v L k) i)] = [LI (nL (flT c T lo hi n a b u v L (k + 1)) i)], c = c, T = T, lo = lo, hi = hi] (Tree.leaf AEx.normal)))))) (Tree.need [AV.agg [iI c, iI T, iI lo, iI hi] = AV.agg [iI c, iI T, iI lo, iI hi], (AV.lst 1 (List.length L) fun k => [AV.lst 1 (List.length (nL L k)) fun k_1 => [iI (nthJ (nL L k) k_1)]]) = AV.lst 1 (List.length L) fun k => [AV.lst 1 (List.length (nL L k)) fun k_1 => [iI (nthJ (nL L k) k_1)]], (AV.lst 4 n fun k => [iI (a k), iI (b k), iI (u k), iI (v k)]) = AV.lst 4 n fun k => [iI (a k), iI (b k), iI (u k), iI (v k)], AV.ptr 0 0 = AV.ptr 0 0, AV.x (Value.slice none 0 0) = AV.x (Value.slice none 0 0), AV.row 900 = AV.row 900, List.length (flT c T lo hi n a b u v L k) = List.length (flT c T lo hi n a b u v L (List.length L)), ∀ (i : Nat), i < List.length (flT c T lo hi n a b u v L (List.length L)) → [LI (nL (flT c T lo hi n a b u v L k) i)] = [LI (nL (flT c T lo hi n a b u v L (List.length L)) i)], c = c, T = T, lo = lo, hi = hi] (Tree.leaf (AEx.exit 0)))) := by kernel_rfl
    rw [e]
    simp only [T_ts, out_ts, Tree.sat, Option.getD_some] at hQ
    have hl := flT_len c T lo hi n a b u v L k
    obtain ⟨s1, s2⟩ := pre1
    have s2 := s2 k
    simp only [Tree.sat, allP, fitP, fitL, valEq, inI64, true_and, and_true, decide_eq_true_eq, decide_eq_false_iff_not, Int.toNat_natCast, c10, c40, c41, c42, c43]
    clear e
    refine ⟨fun h => ⟨by omega, ⟨isRec4 n a b u v, isRec1 _ _, by have := s2 (by omega); omega, pre0⟩, fun h2 => ?_, fun h2 => ?_⟩, fun h => ?_⟩
    · rw [flT_yes (by omega) h2, List.length_append]
      (repeat' first | with_reducible apply And.intro | with_reducible intro _)
      all_goals first | exact True.intro | omega | with_reducible rfl | exact one_of (by assumption) (by simp [AV.one, Value.oneCell']) | exact catL1 _ _ (by assumption) | rfl
    · rw [flT_no (by omega) h2]
      (repeat' first | with_reducible apply And.intro | with_reducible intro _)
      all_goals first | exact True.intro | omega | with_reducible rfl | rfl
    · obtain rfl : k = L.length := by omega
      (repeat' first | with_reducible apply And.intro | with_reducible intro _)
      all_goals first | exact True.intro | omega | with_reducible rfl | (rename_i E hE; cases hE; exact hQ) | rfl

set_option maxRecDepth 100000 in
theorem rTruths_at (c T lo hi : Int) (n : Nat) (a b u v : Nat → Int) (L : List (List Int)) (pre0 : flt c T lo hi n a b u v = 0) (pre1 : smLL L) : SoundCAt Try.prog 53 [.agg [i c, i T, i lo, i hi], LL L, rds n a b u v] (.leaf (LL (L.filter (itW c T lo hi n a b u v)))) := by
  refine soundCAt_fin (G := [(43, S_rIsTruth)]) (X := { R := [], H := [] }) (L := [LS_ts c T lo hi n a b u v L]) (SoundG.cons rIsTruth_ok (SoundG.nil _)) (SoundX.of (SoundRL.nil _) (SoundHL.nil _)) mixed Try.func53 (show Try.f53.body = some (bodyOf Try.f53) by kernel_rfl) (one_loop (fun cj hcj => by
    have e : loopAt (bodyOf Try.f53) 0 = some (.loop B_ts) := by kernel_rfl
    rw [e] at hcj; cases hcj
    exact (ts_ls c T lo hi n a b u v L pre0 pre1).N)) (t := (Tree.need [AV.agg [iI c, iI T, iI lo, iI hi] = AV.agg [iI c, iI T, iI lo, iI hi], (AV.lst 1 (List.length L) fun k => [AV.lst 1 (List.length (nL L k)) fun k_1 => [iI (nthJ (nL L k) k_1)]]) = AV.lst 1 (List.length L) fun k => [AV.lst 1 (List.length (nL L k)) fun k_1 => [iI (nthJ (nL L k) k_1)]], (AV.lst 4 n fun k => [iI (a k), iI (b k), iI (u k), iI (v k)]) = AV.lst 4 n fun k => [iI (a k), iI (b k), iI (u k), iI (v k)], AV.ptr 0 0 = AV.ptr 0 0, AV.x (Value.slice none 0 0) = AV.x (Value.slice none 0 0), AV.row 900 = AV.row 900, (0 : Int) = (↑(0 : Nat) : Int), 0 = List.length (flT c T lo hi n a b u v L 0), ∀ (i : Nat), i < List.length (flT c T lo hi n a b u v L 0) → [] = [LI (nL (flT c T lo hi n a b u v L 0) i)], c = c, T = T, lo = lo, hi = hi] (Tree.leaf (AV.lst 1 (List.length (flT c T lo hi n a b u v L (List.length L))) fun j => [AV.lst 1 (List.length (nL (flT c T lo hi n a b u v L (List.length L)) j)) fun k => [iI (nthJ (nL (flT c T lo hi n a b u v L (List.length L)) j) k)]])))) (by kernel_rfl) ?_
  intro Q hQ
  have hQ : Q (LL (L.filter (itW c T lo hi n a b u v))) := hQ
  simp only [Tree.sat, allP, valEq, inI64, true_and, and_true]
  refine ⟨⟨rfl, rfl, fun j hj => absurd hj (Nat.not_lt_zero _)⟩, LL (L.filter (itW c T lo hi n a b u v)), ?_, hQ⟩
  rw [← flT_all]
  exact ⟨rfl, rfl, fun j hj => rfl⟩


noncomputable def C_rTruths : CSpec := fun l => match l with
  | [.agg [.x (.int .i64 c), .x (.int .i64 T), .x (.int .i64 lo), .x (.int .i64 hi)], .lst 1 N F, .lst 4 n f] => some (.need [isRec 4 n f, isLL N F, flt c T lo hi n (col 0 f) (col 1 f) (col 2 f) (col 3 f) = 0, smLL (lolOf N F)] (.leaf (LL ((lolOf N F).filter (itW c T lo hi n (col 0 f) (col 1 f) (col 2 f) (col 3 f))))))
  | _ => none


theorem sameLL {N : Nat} {F : Nat → List AV} (h : isLL N F) : Same (.lst 1 N F) (LL (lolOf N F)) := by
  have := Same.lst 1 N F (fun k => [LI (nL (lolOf N F) k)]) h
  have e : AV.lst 1 N (fun k => [LI (nL (lolOf N F) k)]) = LL (lolOf N F) := by rw [show LL (lolOf N F) = AV.lst 1 (lolOf N F).length (fun k => [LI (nL (lolOf N F) k)]) from rfl, lol_len]
  rw [← e]
  exact this
theorem rTruths_okC : Enters Try.prog 53 ∧ ∀ avs t, C_rTruths avs = some t → SoundCAt Try.prog 53 avs t := by
  refine ⟨⟨_, Try.func53, by kernel_rfl, by kernel_rfl⟩, ?_⟩
  intro avs t h
  unfold C_rTruths at h
  split at h
  · cases h
    intro Q hQ
    obtain ⟨⟨h1, h2, h3, h4⟩, hQ⟩ := hQ
    exact (SoundCAt.same (rTruths_at _ _ _ _ _ (col 0 _) (col 1 _) (col 2 _) (col 3 _) _ h3 h4) (.cons (.refl _) (.cons (sameLL h2) (.cons (.lst 4 _ _ _ h1) .nil)))) Q hQ
  · cases h

end Go.Proofs.Ytmdeoobmeokmeaa
/- Contracts of functions of the program, by the engine Sx: what each call comes to. Printed by a program of this repo (sxgen.py). -/
set_option linter.unusedSimpArgs false
set_option linter.unusedVariables false
namespace Go.Proofs.Ytmdeoobmeokmeaa
open Go Go.Sx Go.RowKit

end Go.Proofs.Ytmdeoobmeokmeaa
/- Contracts of functions of the program, by the engine Sx: what each call comes to. Printed by a program of this repo (sxgen.py). -/
set_option linter.unusedSimpArgs false
set_option linter.unusedVariables false
namespace Go.Proofs.Ytmdeoobmeokmeaa
open Go Go.Sx Go.RowKit

/-- A number, times itself, as long as it is not too great. -/
def powN (m : Int) : Nat → Int
  | 0 => 1
  | k + 1 => if powN m k ≤ 400 then powN m k * m else powN m k
def fewB (c T lo hi : Int) (n : Nat) (a b u v : Nat → Int) : Bool := decide (n ≤ 15) && (!decide (flt c T lo hi n a b u v = 0) || (decide (powN (hi - lo + 1) (c.toNat - 1) ≤ 400) && decide (n ≤ 6)))


theorem powN_bd {m : Int} (h : 1 ≤ m ∧ m ≤ 200) : ∀ k, 1 ≤ powN m k ∧ powN m k ≤ 80000
  | 0 => by simp [powN]
  | k + 1 => by
    have ih := powN_bd h k
    unfold powN
    split
    · have h1 : 1 * 1 ≤ powN m k * m := Int.mul_le_mul ih.1 h.1 (by omega) (by omega)
      have h2 : powN m k * m ≤ 400 * 200 := Int.mul_le_mul (by omega) h.2 (by omega) (by omega)
      omega
    · exact ih
theorem powN_stay {m : Int} {k : Nat} (h : 400 < powN m k) : ∀ j, powN m (k + j) = powN m k
  | 0 => rfl
  | j + 1 => by
    have ih := powN_stay h j
    rw [show powN m (k + (j + 1)) = if powN m (k + j) ≤ 400 then powN m (k + j) * m else powN m (k + j) from rfl, ih, if_neg (by omega)]
theorem powN_pow {m : Nat} (hm : 1 ≤ m ∧ m ≤ 200) : ∀ k, powN m k ≤ 400 → powN m k = ((m ^ k : Nat) : Int)
  | 0, _ => by simp [powN]
  | k + 1, h => by
    have hb := powN_bd (m := m) (by omega) k
    have h1 : powN m k ≤ 400 := by
      rcases Int.lt_or_le 400 (powN m k) with h1 | h1
      · have := powN_stay h1 1
        omega
      · exact h1
    have ih := powN_pow hm k h1
    rw [show powN m (k + 1) = if powN m k ≤ 400 then powN m k * m else powN m k from rfl, if_pos h1, ih, Nat.pow_succ]
    simp

noncomputable def E_fe (c T lo hi : Int) (n : Nat) (a b u v : Nat → Int) : St := (some
  {
    σ :=
      [AV.agg
          [AV.x (Value.int IntKind.i64 c), AV.x (Value.int IntKind.i64 T), AV.x (Value.int IntKind.i64 lo),
            AV.x (Value.int IntKind.i64 hi)],
        AV.lst (4 : Nat) n fun k =>
          [AV.x (Value.int IntKind.i64 (a k)), AV.x (Value.int IntKind.i64 (b k)), AV.x (Value.int IntKind.i64 (u k)),
            AV.x (Value.int IntKind.i64 (v k))],
        AV.ptr (0 : Nat) (0 : Nat), AV.top, AV.lit false, AV.top, AV.top, AV.top, AV.top, AV.top, AV.top, AV.top,
        AV.top, AV.top, AV.top, AV.top, AV.top, AV.top, AV.top, AV.top, AV.top, AV.top, AV.top, AV.top, AV.top, AV.top,
        AV.top, AV.top, AV.top, AV.top, AV.top, AV.top, AV.top, AV.top, AV.top, AV.top, AV.top, AV.top, AV.top, AV.top,
        AV.top],
    m :=
      [((0 : Nat),
          Res.cells (25 : Nat)
            [AV.x (Value.int IntKind.i64 c), AV.x (Value.int IntKind.i64 T), AV.x (Value.int IntKind.i64 lo),
              AV.x (Value.int IntKind.i64 hi)])],
    nx := (11 : Nat) } : Option St).getD { σ := [], m := [], nx := 0 }
noncomputable def B_fe : Code := loopBody (loopAt (bodyOf Try.f19) 0)
noncomputable def inv_fe (c T lo hi : Int) (n : Nat) (a b u v : Nat → Int) (k : Nat) : St := { σ := ovrS [(5, i (powN (hi - lo + 1) k)), (6, i ((k : Int) + 1))] (E_fe c T lo hi n a b u v).σ, m := [(0, .cells 25 [i c, i T, i lo, i hi])], nx := (E_fe c T lo hi n a b u v).nx }
noncomputable def out_fe (c T lo hi : Int) (n : Nat) (a b u v : Nat → Int) (k : Nat) : AEx → Option St := fun ex => match ex with
  | .exit 0 => some { σ := ovrS [(5, i (powN (hi - lo + 1) (c.toNat - 1)))] (E_fe c T lo hi n a b u v).σ, m := [(0, .cells 25 [i c, i T, i lo, i hi])], nx := (E_fe c T lo hi n a b u v).nx }
  | _ => none
noncomputable def T_fe (c T lo hi : Int) (n : Nat) (a b u v : Nat → Int) : CT := .leaf (.exit 0, ( out_fe c T lo hi n a b u v 0 (.exit 0)).getD (E_fe c T lo hi n a b u v))
noncomputable def LS_fe (c T lo hi : Int) (n : Nat) (a b u v : Nat → Int) : LSpec := normSp [] (sumL (inv_fe c T lo hi n a b u v (0)) (T_fe c T lo hi n a b u v))
set_option maxRecDepth 100000 in
theorem fe_ls (c T lo hi : Int) (n : Nat) (a b u v : Nat → Int) (pre0 : tubeB c T lo hi = true) : LSound Try.prog (.loop B_fe) (LS_fe c T lo hi n a b u v) := by
  refine loop_roundsX [] (E := { R := [], H := [] }) (G := [(63, S_rFault)]) (L := []) (SoundG.cons rFault_ok (SoundG.nil _)) (SoundX.of (SoundRL.nil _) (SoundHL.nil _)) mixed noLoops (X := Nat) (inv_fe c T lo hi n a b u v) (fun k => k + 1 ≤ c.toNat) (fun k => c.toNat - k) (out_fe c T lo hi n a b u v) (x0 := 0) (by have := tube_bd pre0; omega) ?_ ?_ ?_
  · rintro k
    kernel_rfl
  · rintro k y E h
    unfold out_fe at h
    split at h
    · cases h; kernel_rfl
    · cases h
  · rintro Q hQ k hx
    refine ⟨(k + 1), ?_⟩
    have e : roundX Try.prog [(63, S_rFault)] { R := [], H := [] } [] [] B_fe (inv_fe c T lo hi n a b u v k) (inv_fe c T lo hi n a b u v ((k + 1))) (out_fe c T lo hi n a b u v k) = (Tree.branch (decide ((↑k : Int) + (1 : Int) < c)) (Tree.branch (decide (powN (hi - lo + (1 : Int)) k ≤ (400 : Int))) (Tree.need [inI64 (hi - lo)] (Tree.need [inI64 (hi - lo + (1 : Int))] (Tree.need [inI64 (powN (hi - lo + (1 : Int)) k * (hi - lo + (1 : Int)))] (Tree.need [inI64 ((↑k : Int) + (1 : Int) + (1 : Int))] (Tree.need [AV.agg [iI c, iI T, iI lo, iI hi] = AV.agg [iI c, iI T, iI lo, iI hi], (AV.lst 4 n fun k => [iI (a k), iI (b k), iI (u k), iI (v k)]) = AV.lst 4 n fun k => [iI (a k), iI (b k), iI (u k), iI (v k)], AV.ptr 0 0 = AV.ptr 0 0, AV.lit false = AV.lit false, powN (hi - lo + (1 : Int)) k * (hi - lo + (1 : Int)) = powN (hi - lo + (1 : Int)) (k + 1), (↑k : Int) + (1 : Int) + (1 : Int) = (↑(k + 1) : Int) + (1 : Int), c = c, T = T, lo = lo, hi = hi] (Tree.leaf AEx.normal)))))) (Tree.need [AV.agg [iI c, iI T, iI lo, iI hi] = AV.agg [iI c, iI T, iI lo, iI hi], (AV.lst 4 n fun k => [iI (a k), iI (b k), iI (u k), iI (v k)]) = AV.lst 4 n fun k => [iI (a k), iI (b k), iI (u k), iI (v k)], AV.ptr 0 0 = AV.ptr 0 0, AV.lit false = AV.lit false, powN (hi - lo + (1 : Int)) k = powN (hi - lo + (1 : Int)) (Int.toNat c - 1), c = c, T = T, lo = lo, hi = hi] (Tree.leaf (AEx.exit 0)))) (Tree.need [AV.agg [iI c, iI T, iI lo, iI hi] = AV.agg [iI c, iI T, iI lo, iI hi], (AV.lst 4 n fun k => [iI (a k), iI (b k), iI (u k), iI (v k)]) = AV.lst 4 n fun k => [iI (a k), iI (b k), iI (u k), iI (v k)], AV.ptr 0 0 = AV.ptr 0 0, AV.lit false = AV.lit false, powN (hi - lo + (1 : Int)) k = powN (hi - lo + (1 : Int)) (Int.toNat c - 1), c = c, T = T, lo = lo, hi = hi] (Tree.leaf (AEx.exit 0)))) := by kernel_rfl
    rw [e]
    simp only [T_fe, out_fe, Tree.sat, Option.getD_some] at hQ
    have hb := tube_bd pre0
    have hp := powN_bd (m := hi - lo + 1) (by omega) k
    have hp2 := powN_bd (m := hi - lo + 1) (by omega) (k + 1)
    have hs : powN (hi - lo + 1) (k + 1) = if powN (hi - lo + 1) k ≤ 400 then powN (hi - lo + 1) k * (hi - lo + 1) else powN (hi - lo + 1) k := rfl
    simp only [Tree.sat, allP, fitP, fitL, valEq, inI64, true_and, and_true, decide_eq_true_eq, decide_eq_false_iff_not, Int.toNat_natCast]
    clear e
    refine ⟨fun h => ⟨fun h2 => ?_, fun h2 => ?_⟩, fun h => ?_⟩
    · rw [if_pos h2] at hs
      rw [← hs]
      (repeat' first | with_reducible apply And.intro | with_reducible intro _)
      all_goals first | exact True.intro | omega | with_reducible rfl | rfl
    · have e3 := powN_stay (m := hi - lo + 1) (k := k) (by omega) (c.toNat - 1 - k)
      rw [show k + (c.toNat - 1 - k) = c.toNat - 1 by omega] at e3
      rw [e3]
      (repeat' first | with_reducible apply And.intro | with_reducible intro _)
      all_goals first | exact True.intro | omega | with_reducible rfl | (rename_i E hE; cases hE; exact hQ) | rfl
    · obtain rfl : k = c.toNat - 1 := by omega
      (repeat' first | with_reducible apply And.intro | with_reducible intro _)
      all_goals first | exact True.intro | omega | with_reducible rfl | (rename_i E hE; cases hE; exact hQ) | rfl

set_option maxRecDepth 100000 in
theorem Few_at (c T lo hi : Int) (n : Nat) (a b u v : Nat → Int) : SoundAt Try.prog 19 [.agg [i c, i T, i lo, i hi], rds n a b u v] (bl (fewB c T lo hi n a b u v)) := by
  refine soundAt_finX (G := [(63, S_rFault)]) (X := { R := [], H := [] }) (L := [needSp [tubeB c T lo hi = true] (LS_fe c T lo hi n a b u v)]) (SoundG.cons rFault_ok (SoundG.nil _)) (SoundX.of (SoundRL.nil _) (SoundHL.nil _)) mixed Try.func19 (show Try.f19.body = some (bodyOf Try.f19) by kernel_rfl) (one_loop (fun cj hcj => by
    have e : loopAt (bodyOf Try.f19) 0 = some (.loop B_fe) := by kernel_rfl
    rw [e] at hcj; cases hcj
    exact (needSp_sound (ps := [tubeB c T lo hi = true]) (fun h => fe_ls c T lo hi n a b u v h)).N)) (t := (Tree.branch (decide ((↑n : Int) > (15 : Int))) (Tree.leaf (RV.x (Value.bool false))) (Tree.need [isRec 4 n fun k => [i (a k), i (b k), i (u k), i (v k)]] (Tree.branch (flt c T lo hi n a b u v != (0 : Int)) (Tree.leaf (RV.x (Value.bool true))) (Tree.need [tubeB c T lo hi = true] (Tree.need [AV.agg [iI c, iI T, iI lo, iI hi] = AV.agg [iI c, iI T, iI lo, iI hi], (AV.lst 4 n fun k => [iI (a k), iI (b k), iI (u k), iI (v k)]) = AV.lst 4 n fun k => [iI (a k), iI (b k), iI (u k), iI (v k)], AV.ptr 0 0 = AV.ptr 0 0, AV.lit false = AV.lit false, (1 : Int) = powN (hi - lo + (1 : Int)) 0, (1 : Int) = (↑(0 : Nat) : Int) + (1 : Int), c = c, T = T, lo = lo, hi = hi] (Tree.branch (decide (powN (hi - lo + (1 : Int)) (Int.toNat c - 1) ≤ (400 : Int))) (Tree.leaf (RV.x (Value.bool (decide ((↑n : Int) ≤ (6 : Int)))))) (Tree.leaf (RV.x (Value.bool false)))))))))) (by kernel_rfl) ?_
  simp only [Tree.sat, allP, fitP, fitL, valEq, inI64, true_and, and_true, decide_eq_true_eq, decide_eq_false_iff_not, bne_iff_ne, ne_eq, bne_eq_false_iff_eq]
  refine ⟨fun h => ?_, fun h => ⟨isRec4 n a b u v, fun h2 => ?_, fun h2 => ⟨(flt_iff.1 h2).1, ⟨rfl, rfl⟩, fun h3 => ?_, fun h3 => ?_⟩⟩⟩
  · have : ¬ n ≤ 15 := by omega
    simp [fewB, this]
  · have : n ≤ 15 := by omega
    simp [fewB, this, h2]
  · have : n ≤ 15 := by omega
    simp [fewB, this, h2, h3]
    by_cases h4 : n ≤ 6
    · simp [h4]; omega
    · simp [h4]; omega
  · have : n ≤ 15 := by omega
    simp [fewB, this, h2, h3]

def S_Few : Sx.Spec := fun l => match l with
  | [.agg [.x (.int .i64 c), .x (.int .i64 T), .x (.int .i64 lo), .x (.int .i64 hi)], .lst 4 n f] => some ([isRec 4 n f], bl (fewB c T lo hi n (col 0 f) (col 1 f) (col 2 f) (col 3 f)))
  | _ => none

theorem Few_ok : SoundSpec Try.prog 19 S_Few := by
  refine ⟨⟨_, Try.func19, by kernel_rfl, by kernel_rfl⟩, ?_⟩
  intro avs ns res h hn
  unfold S_Few at h
  split at h
  · rename_i c T lo hi n f
    cases h
    have hr0 : isRec 4 n f := hn _ (by simp)
    exact (Few_at c T lo hi n (col 0 f) (col 1 f) (col 2 f) (col 3 f)).same (.cons (.refl _) (.cons (.lst 4 n _ _ hr0) .nil))
  · cases h


theorem few_all {c T lo hi : Int} {n : Nat} {a b u v : Nat → Int} (h : fewB c T lo hi n a b u v = true) (hf : flt c T lo hi n a b u v = 0) : (allV T lo hi (c.toNat - 1) []).length ≤ 400 ∧ n ≤ 6 := by
  have hb := tube_bd (flt_iff.1 hf).1
  simp [fewB, hf] at h
  obtain ⟨_, h1, h2⟩ := h
  refine ⟨?_, h2⟩
  have e : (((hi - lo + 1).toNat : Nat) : Int) = hi - lo + 1 := by omega
  rw [← e] at h1
  have h3 := powN_pow (m := (hi - lo + 1).toNat) (by omega) (c.toNat - 1) h1
  have h4 := allV_len (T := T) (lo := lo) (hi := hi) (c.toNat - 1) []
  rw [h3] at h1
  omega


theorem smLL_all {T lo hi : Int} {d : Nat} (h : (allV T lo hi d []).length ≤ 1000000) (hd : d < 100) : smLL (allV T lo hi d []) := by
  refine ⟨h, fun k hk => ?_⟩
  obtain ⟨s, h1, h2, _⟩ := allV_mem.1 (getD_mem hk)
  rw [h1]
  simp [h2]
  omega

end Go.Proofs.Ytmdeoobmeokmeaa
/- Contracts of functions of the program, by the engine Sx: what each call comes to. Printed by a program of this repo (sxgen.py). -/
set_option linter.unusedSimpArgs false
set_option linter.unusedVariables false
namespace Go.Proofs.Ytmdeoobmeokmeaa
open Go Go.Sx Go.RowKit

theorem few_n {c T lo hi : Int} {n : Nat} {a b u v : Nat → Int} (h : fewB c T lo hi n a b u v = true) : n ≤ 100000 := by
  have : n ≤ 15 := by
    simp [fewB] at h
    exact h.1
  omega
end Go.Proofs.Ytmdeoobmeokmeaa
/- Contracts of functions of the program, by the engine Sx: what each call comes to. Printed by a program of this repo (sxgen.py). -/
set_option linter.unusedSimpArgs false
set_option linter.unusedVariables false
namespace Go.Proofs.Ytmdeoobmeokmeaa
open Go Go.Sx Go.RowKit

/-- Is a number in a list? The numbers below k that are, or that are not. -/
def memB (m : Nat) (g : Nat → Int) (k : Nat) : Bool := !allI (fun j => !(g j == (k : Int))) m
def soL (m : Nat) (g : Nat → Int) (o : Bool) : Nat → List Int
  | 0 => []
  | k + 1 => if memB m g k != o then soL m g o k ++ [(k : Int)] else soL m g o k
/-- Numbers of readings. -/
def inR (n m : Nat) (g : Nat → Int) : Prop := ∀ j, j < m → 0 ≤ g j ∧ g j < n
def subS (m : Nat) (g : Nat → Int) (m' : Nat) (g' : Nat → Int) : Prop := ∀ j, j < m → ∃ j', j' < m' ∧ g j = g' j'
theorem memB_iff {m : Nat} {g : Nat → Int} {k : Nat} : memB m g k = true ↔ ∃ j, j < m ∧ g j = k := by
  unfold memB
  rw [Bool.not_eq_true', ← Bool.not_eq_true, allI_iff]
  constructor
  · intro h
    rcases Classical.em (∃ j, j < m ∧ g j = k) with h1 | h1
    · exact h1
    · exfalso
      refine h fun j hj => ?_
      rw [Bool.not_eq_true', beq_eq_false_iff_ne]
      exact fun h2 => h1 ⟨j, hj, h2⟩
  · rintro ⟨j, hj, h⟩ h2
    have := h2 j hj
    rw [h] at this
    simp at this
theorem memB_succ (m : Nat) (g : Nat → Int) (k : Nat) : memB (m + 1) g k = (memB m g k || (g m == (k : Int))) := by
  simp [memB, allI, Bool.not_and]
theorem soL_mem {m : Nat} {g : Nat → Int} {o : Bool} {x : Int} : ∀ {n : Nat}, x ∈ soL m g o n ↔ ∃ k : Nat, k < n ∧ x = k ∧ memB m g k ≠ o
  | 0 => by simp [soL]
  | n + 1 => by
    have ih := soL_mem (m := m) (g := g) (o := o) (x := x) (n := n)
    unfold soL
    by_cases h : memB m g n = o
    · rw [if_neg (by simp [h]), ih]
      constructor
      · rintro ⟨k, h1, h2, h3⟩
        exact ⟨k, by omega, h2, h3⟩
      · rintro ⟨k, h1, h2, h3⟩
        rcases (show k < n ∨ k = n by omega) with h4 | rfl
        · exact ⟨k, h4, h2, h3⟩
        · exact absurd h h3
    · rw [if_pos (by simpa using h), List.mem_append, ih, List.mem_singleton]
      constructor
      · rintro (⟨k, h1, h2, h3⟩ | rfl)
        · exact ⟨k, by omega, h2, h3⟩
        · exact ⟨n, by omega, rfl, h⟩
      · rintro ⟨k, h1, h2, h3⟩
        rcases (show k < n ∨ k = n by omega) with h4 | rfl
        · exact .inl ⟨k, h4, h2, h3⟩
        · exact .inr h2
theorem soL_len (m : Nat) (g : Nat → Int) (o : Bool) : ∀ n, (soL m g o n).length ≤ n
  | 0 => Nat.le_refl _
  | n + 1 => by
    have := soL_len m g o n
    unfold soL
    split
    · simp; omega
    · omega
theorem nthJ_mem {l : List Int} {j : Nat} (h : j < l.length) : nthJ l j ∈ l := by
  rw [nthJ_get h]
  exact List.getElem_mem h
theorem soL_in (m : Nat) (g : Nat → Int) (o : Bool) (n : Nat) : inR n (soL m g o n).length (nthJ (soL m g o n)) := fun j hj => by
  obtain ⟨k, h1, h2, _⟩ := soL_mem.1 (nthJ_mem hj)
  rw [h2]
  omega
theorem subS.trans {m : Nat} {g : Nat → Int} {m' : Nat} {g' : Nat → Int} {m'' : Nat} {g'' : Nat → Int} (h : subS m g m' g') (k : subS m' g' m'' g'') : subS m g m'' g'' := fun j hj => by
  obtain ⟨q, hq, he⟩ := h j hj
  obtain ⟨p, hp, hf⟩ := k q hq
  exact ⟨p, hp, he.trans hf⟩
end Go.Proofs.Ytmdeoobmeokmeaa
