/- Texts of this claim, put together: BqA, BqB, BqC, BqD, BqE, BqF, BqI, BqH -/
import Derived.Test.YtmdeoobmeokmeaaMk
/- Contracts of functions of the program, by the engine Sx: what each call comes to. Printed by a program of this repo (sxgen.py). -/
set_option linter.unusedSimpArgs false
set_option linter.unusedVariables false
namespace Go.Proofs.Ytmdeoobmeokmeaa
open Go Go.Sx Go.RowKit

/-- Lists of numbers, and lists of these. -/
abbrev LI (l : List Int) : AV := .lst 1 l.length (fun k => [i (nthJ l k)])
def nL : List (List Int) → Nat → List Int
  | [], _ => []
  | w :: _, 0 => w
  | _ :: L, k + 1 => nL L k
abbrev LL (L : List (List Int)) : AV := .lst 1 L.length (fun k => [LI (nL L k)])
def tol (n : Nat) (f : Nat → Int) : List Int := (List.range n).map f
/-- All volumes that begin so: so many cells are left besides the last one. -/
def allV (T lo hi : Int) : Nat → List Int → List (List Int)
  | 0, bs => if bt lo (T - bs.sum) hi then [bs ++ [T - bs.sum]] else []
  | d + 1, bs => (List.range (hi - lo + 1).toNat).flatMap fun (q : Nat) => allV T lo hi d (bs ++ [lo + (q : Int)])
def alP (T lo hi : Int) (d : Nat) (bs : List Int) (k : Nat) : List (List Int) := (List.range k).flatMap fun (q : Nat) => allV T lo hi d (bs ++ [lo + (q : Int)])
/-- What 'All' asks. -/
def alQ (c T lo hi : Int) (d n : Nat) (f : Nat → Int) : Prop := (n : Int) + d + 1 = c ∧ c ≤ 10 ∧ (1 ≤ lo ∧ lo ≤ hi ∧ hi ≤ 200 ∧ 1 ≤ T ∧ T ≤ 2000) ∧ (∀ k, k < n → 0 ≤ f k ∧ f k ≤ 200) ∧ (allV T lo hi d (tol n f)).length ≤ 1000000
noncomputable def C_All (d : Nat) : CSpec := fun l => match l with
  | [.agg [.x (.int .i64 c), .x (.int .i64 T), .x (.int .i64 lo), .x (.int .i64 hi)], .lst 1 n f] => some (.need [isRec 1 n f, alQ c T lo hi d n (col 0 f)] (.leaf (LL (allV T lo hi d (tol n (col 0 f))))))
  | [.agg [.x (.int .i64 c), .x (.int .i64 T), .x (.int .i64 lo), .x (.int .i64 hi)], .x (.slice none 0 0)] => some (.need [alQ c T lo hi d 0 (fun _ => 0)] (.leaf (LL (allV T lo hi d []))))
  | _ => none
def AllOk' (d : Nat) : Prop := Enters Try.prog 51 ∧ ∀ avs t, C_All d avs = some t → SoundCAt Try.prog 51 avs t


theorem nthJ_app (l m : List Int) : ∀ k, nthJ (l ++ m) k = if k < l.length then nthJ l k else nthJ m (k - l.length) := by
  induction l with
  | nil => intro k; simp
  | cons x l ih =>
    intro k
    cases k with
    | zero => simp [nthJ]
    | succ k =>
      show nthJ (l ++ m) k = _
      rw [ih]
      simp only [List.length_cons, Nat.add_lt_add_iff_right, Nat.add_sub_add_right]
      rfl
theorem nL_app (l m : List (List Int)) : ∀ k, nL (l ++ m) k = if k < l.length then nL l k else nL m (k - l.length) := by
  induction l with
  | nil => intro k; simp
  | cons x l ih =>
    intro k
    cases k with
    | zero => simp [nL]
    | succ k =>
      show nL (l ++ m) k = _
      rw [ih]
      simp only [List.length_cons, Nat.add_lt_add_iff_right, Nat.add_sub_add_right]
      rfl
theorem nthJ_get : ∀ {l : List Int} {k : Nat} (h : k < l.length), nthJ l k = l[k]
  | x :: l, 0, h => rfl
  | x :: l, k + 1, h => nthJ_get (l := l) (k := k) (by simpa using h)
theorem nL_get : ∀ {l : List (List Int)} {k : Nat} (h : k < l.length), nL l k = l[k]
  | x :: l, 0, h => rfl
  | x :: l, k + 1, h => nL_get (l := l) (k := k) (by simpa using h)
theorem catLL (L M : List (List Int)) (j : Nat) : catF L.length (fun j => [LI (nL L j)]) (fun j => [LI (nL M j)]) j = [LI (nL (L ++ M) j)] := by
  unfold catF
  rw [nL_app]
  by_cases h : j < L.length
  · rw [if_pos h, decide_eq_true h]; rfl
  · rw [if_neg h, decide_eq_false h]; rfl
theorem tol_len (n : Nat) (f : Nat → Int) : (tol n f).length = n := by simp [tol]
theorem tol_get {n k : Nat} {f : Nat → Int} (h : k < n) : nthJ (tol n f) k = f k := by
  rw [nthJ_get (by rw [tol_len]; exact h)]
  simp [tol]
theorem tol_succ (n : Nat) (f : Nat → Int) : tol (n + 1) f = tol n f ++ [f n] := by simp [tol, List.range_succ]
theorem tol_sum (n : Nat) (f : Nat → Int) : (tol n f).sum = sumF f n := by
  induction n with
  | zero => rfl
  | succ n ih => rw [tol_succ, List.sum_append, ih]; simp [sumF]
theorem tol_congr {n : Nat} {f g : Nat → Int} (h : ∀ k, k < n → f k = g k) : tol n f = tol n g := by
  unfold tol
  exact List.map_congr_left fun k hk => h k (List.mem_range.1 hk)
/-- A list, copied, with one number more. -/
theorem cat_more (n : Nat) (f : Nat → Int) (x : Int) : (∀ j, j < n → catF (0 + n) (catF 0 (fun _ => []) fun k => [iI (f k)]) (chunk 1 [iI x]) j = [iI (f j)]) ∧ catF (0 + n) (catF 0 (fun _ => []) fun k => [iI (f k)]) (chunk 1 [iI x]) n = [iI x] := by
  have e1 : ∀ j, catF 0 (fun _ => []) (fun k => [iI (f k)]) j = [iI (f j)] := fun j => by
    show mergeL (decide (j < 0)) [] [iI (f (j - 0))] = _
    rw [show decide (j < 0) = false by simp]
    rfl
  constructor
  · intro j hj
    show mergeL (decide (j < 0 + n)) (catF 0 (fun _ => []) (fun k => [iI (f k)]) j) (chunk 1 [iI x] (j - (0 + n))) = _
    rw [e1, show decide (j < 0 + n) = true by simp [hj], show j - (0 + n) = 0 by omega]
    rfl
  · show mergeL (decide (n < 0 + n)) (catF 0 (fun _ => []) (fun k => [iI (f k)]) n) (chunk 1 [iI x] (n - (0 + n))) = _
    rw [e1, show decide (n < 0 + n) = false by simp, show n - (0 + n) = 0 by omega]
    rfl
theorem cat_tol (n : Nat) (f : Nat → Int) (x : Int) : isRec 1 (0 + n + 1) (catF (0 + n) (catF 0 (fun _ => []) fun k => [iI (f k)]) (chunk 1 [iI x])) ∧ tol (0 + n + 1) (col 0 (catF (0 + n) (catF 0 (fun _ => []) fun k => [iI (f k)]) (chunk 1 [iI x]))) = tol n f ++ [x] ∧ (∀ j, j < n → col 0 (catF (0 + n) (catF 0 (fun _ => []) fun k => [iI (f k)]) (chunk 1 [iI x])) j = f j) ∧ col 0 (catF (0 + n) (catF 0 (fun _ => []) fun k => [iI (f k)]) (chunk 1 [iI x])) n = x := by
  obtain ⟨h1, h2⟩ := cat_more n f x
  have c1 : ∀ j, j < n → col 0 (catF (0 + n) (catF 0 (fun _ => []) fun k => [iI (f k)]) (chunk 1 [iI x])) j = f j := fun j hj => by unfold col; rw [h1 j hj]; rfl
  have c2 : col 0 (catF (0 + n) (catF 0 (fun _ => []) fun k => [iI (f k)]) (chunk 1 [iI x])) n = x := by unfold col; rw [h2]; rfl
  refine ⟨fun k hk => ?_, ?_, c1, c2⟩
  · rcases (show k < n ∨ k = n by omega) with h | rfl
    · rw [h1 k h]; rfl
    · rw [h2]; rfl
  · rw [show 0 + n + 1 = n + 1 by omega, tol_succ, c2, tol_congr c1]
/-- Lists that agree as far as they go, inside a list. -/
theorem Rep.lst1 {e : Env} {w : World} {n : Nat} {f g : Nat → List AV} {v : Value} (h : ∀ k, k < n → f k = g k) (r : Rep e w (.lst 1 n f) v) : Rep e w (.lst 1 n g) v := Same.rep (.lst 1 n f g h) r
theorem Rep.lstMono {e : Env} {w : World} {sz n : Nat} {f g : Nat → List AV} {v : Value} (h1 : ∀ k, k < n → (f k).length = (g k).length) (h2 : ∀ k, k < n → ∀ a ∈ g k, Idf a) (h3 : ∀ (k j : Nat) (a b : AV), k < n → (f k)[j]? = some a → (g k)[j]? = some b → ∀ u, Rep e w a u → Rep e w b u) (r : Rep e w (.lst sz n f) v) : Rep e w (.lst sz n g) v := by
  cases r with
  | lstNil sz f => exact .lstNil sz g
  | lst sz n f b o cap q k1 k2 k3 k4 k5 k6 k7 k8 =>
    refine .lst sz n g b o cap q k1 k2 h2 k4 k5 k6 (fun i hi => by rw [← h1 i hi]; exact k7 i hi) (fun i j a hi ha => ?_)
    have hj : j < (f i).length := by rw [h1 i hi]; exact (List.getElem?_eq_some_iff.1 ha).1
    exact h3 i j _ a hi (List.getElem?_eq_getElem hj) ha _ (k8 i j _ hi (List.getElem?_eq_getElem hj))
theorem idf_LI (l : List Int) : Idf (LI l) := .lst _ _ _ fun k hk a ha => by
  cases List.mem_singleton.1 ha
  exact .x _
theorem SoundCAt.weaken {P : Program} {f : FuncId} {avs : List AV} {t t' : Tree AV} (h : SoundCAt P f avs t) (k : ∀ Q : AV → Prop, t'.sat Q → t.sat (fun r => ∃ r', Q r' ∧ ∀ e w v, Rep e w r v → Rep e w r' v)) : SoundCAt P f avs t' := by
  intro Q hQ e w args hro hidf hrep
  refine (h _ (k Q hQ) e w args hro hidf hrep).mono ?_
  rintro en w' ⟨v, r, h1, ⟨r', h2, h3⟩, h4, h5⟩
  exact ⟨v, r', h1, h2, h4, h3 _ _ _ h5⟩
theorem cat_li (n : Nat) (f : Nat → Int) (x : Int) {e : Env} {w : World} {v : Value} (r : Rep e w (.lst 1 1 (chunk 1 [.lst 1 (0 + n + 1) (catF (0 + n) (catF 0 (fun _ => []) fun k => [iI (f k)]) (chunk 1 [iI x]))])) v) : Rep e w (LL [tol n f ++ [x]]) v := by
  obtain ⟨h1, h2⟩ := cat_more n f x
  have hl : (tol n f ++ [x]).length = 0 + n + 1 := by simp [tol_len]
  refine Rep.lstMono (fun k hk => ?_) (fun k hk a ha => ?_) (fun k j a b hk ha hb u hu => ?_) r
  · obtain rfl : k = 0 := by have : k < 1 := hk; omega
    rfl
  · cases List.mem_singleton.1 ha
    exact idf_LI _
  · obtain rfl : k = 0 := by have : k < 1 := hk; omega
    have hj : j = 0 := by
      have := (List.getElem?_eq_some_iff.1 hb).1
      simp at this
      exact this
    subst hj
    cases ha
    cases hb
    show Rep e w (.lst 1 (tol n f ++ [x]).length _) u
    rw [hl]
    refine Rep.lst1 (fun q hq => ?_) hu
    show _ = [i (nthJ (tol n f ++ [x]) q)]
    rw [nthJ_app, tol_len]
    rcases (show q < n ∨ q = n by omega) with h | rfl
    · rw [if_pos h, tol_get h, h1 q h]
    · rw [if_neg (by omega), h2, Nat.sub_self]; rfl
theorem alP_succ (T lo hi : Int) (d : Nat) (bs : List Int) (k : Nat) : alP T lo hi d bs (k + 1) = alP T lo hi d bs k ++ allV T lo hi d (bs ++ [lo + (k : Int)]) := by
  simp [alP, List.range_succ, List.flatMap_append]
theorem alP_le (T lo hi : Int) (d : Nat) (bs : List Int) (k : Nat) : ∀ j, (alP T lo hi d bs k).length ≤ (alP T lo hi d bs (k + j)).length
  | 0 => Nat.le_refl _
  | j + 1 => by
    have := alP_le T lo hi d bs k j
    rw [← Nat.add_assoc, alP_succ, List.length_append]
    omega
theorem alP_all (T lo hi : Int) (d : Nat) (bs : List Int) : alP T lo hi d bs (hi - lo + 1).toNat = allV T lo hi (d + 1) bs := rfl
theorem alP_bd {T lo hi : Int} {d : Nat} {bs : List Int} {k : Nat} (h : k < (hi - lo + 1).toNat) (hl : (allV T lo hi (d + 1) bs).length ≤ 1000000) : (alP T lo hi d bs k).length + (allV T lo hi d (bs ++ [lo + (k : Int)])).length ≤ 1000000 := by
  have h1 := alP_le T lo hi d bs (k + 1) ((hi - lo + 1).toNat - (k + 1))
  rw [show k + 1 + ((hi - lo + 1).toNat - (k + 1)) = (hi - lo + 1).toNat by omega, alP_all, alP_succ, List.length_append] at h1
  omega

noncomputable def E_al (d : Nat) (c T lo hi : Int) (n : Nat) (f : Nat → Int) : St := (some
  {
    σ :=
      [AV.agg
          [AV.x (Value.int IntKind.i64 c), AV.x (Value.int IntKind.i64 T), AV.x (Value.int IntKind.i64 lo),
            AV.x (Value.int IntKind.i64 hi)],
        AV.lst (1 : Nat) n fun k => [AV.x (Value.int IntKind.i64 (f k))], AV.ptr (0 : Nat) (0 : Nat), AV.top,
        AV.x (Value.slice none (0 : Nat) (0 : Nat)), AV.x (Value.int IntKind.i64 (T - sumF f n)), AV.top, AV.top,
        AV.top, AV.top, AV.top, AV.top, AV.top, AV.top, AV.top, AV.top, AV.top, AV.top, AV.top, AV.top, AV.top, AV.top,
        AV.top, AV.top, AV.top, AV.top, AV.top, AV.top, AV.top, AV.top, AV.top, AV.top, AV.top, AV.top, AV.top, AV.top,
        AV.top, AV.top, AV.top, AV.top, AV.top, AV.top, AV.top, AV.top, AV.top, AV.top, AV.top, AV.top, AV.top, AV.top,
        AV.top, AV.top, AV.top, AV.top, AV.top, AV.top, AV.top, AV.top],
    m :=
      [((900 : Nat), Res.row (58 : Nat) (1 : Nat) (0 : Nat) fun x => []),
        ((0 : Nat),
          Res.cells (25 : Nat)
            [AV.x (Value.int IntKind.i64 c), AV.x (Value.int IntKind.i64 T), AV.x (Value.int IntKind.i64 lo),
              AV.x (Value.int IntKind.i64 hi)])],
    nx := (901 : Nat) } : Option St).getD { σ := [], m := [], nx := 0 }
noncomputable def B_al : Code := loopBody (loopAt (bodyOf Try.f51) 0)
noncomputable def inv_al (d : Nat) (c T lo hi : Int) (n : Nat) (f : Nat → Int) (k : Nat) : St := { σ := ovrS [(6, .row 900), (7, i (lo + k))] (E_al d c T lo hi n f).σ, m := [(900, .row 58 1 (alP T lo hi d (tol n f) k).length (fun j => [LI (nL (alP T lo hi d (tol n f) k) j)])), (0, .cells 25 [i c, i T, i lo, i hi])], nx := (E_al d c T lo hi n f).nx }
noncomputable def out_al (d : Nat) (c T lo hi : Int) (n : Nat) (f : Nat → Int) (k : Nat) : AEx → Option St := fun ex => match ex with
  | .exit 0 => some { σ := ovrS [(6, .row 900)] (E_al d c T lo hi n f).σ, m := [(900, .row 58 1 (alP T lo hi d (tol n f) (hi - lo + 1).toNat).length (fun j => [LI (nL (alP T lo hi d (tol n f) (hi - lo + 1).toNat) j)])), (0, .cells 25 [i c, i T, i lo, i hi])], nx := (E_al d c T lo hi n f).nx }
  | _ => none
noncomputable def T_al (d : Nat) (c T lo hi : Int) (n : Nat) (f : Nat → Int) : CT := .leaf (.exit 0, ( out_al d c T lo hi n f 0 (.exit 0)).getD (E_al d c T lo hi n f))
noncomputable def LS_al (d : Nat) (c T lo hi : Int) (n : Nat) (f : Nat → Int) : LSpec := normSp [(.slot 6, 900, 58, 1)] (sumL (inv_al d c T lo hi n f (0)) (T_al d c T lo hi n f))
set_option maxRecDepth 100000 in
theorem al_ls (d : Nat) (c T lo hi : Int) (n : Nat) (f : Nat → Int) (pre0 : AllOk' d) (pre1 : alQ c T lo hi (d + 1) n f) : LSound Try.prog (.loop B_al) (LS_al d c T lo hi n f) := by
  refine loop_roundsX [(.slot 6, 900, 58, 1)] (E := { R := [], H := [], C := [(51, (C_All d))] }) (G := [(40, S_rHeight), (42, S_rIn)]) (L := []) (SoundG.cons rHeight_ok (SoundG.cons rIn_ok (SoundG.nil _))) (SoundX.ofC (SoundRL.nil _) (SoundHL.nil _) (SoundCL.cons pre0 (SoundCL.nil _))) mixed noLoops (X := Nat) (inv_al d c T lo hi n f) (fun k => k ≤ (hi - lo + 1).toNat) (fun k => (hi - lo + 1).toNat - k) (out_al d c T lo hi n f) (x0 := 0) (by simp) ?_ ?_ ?_
  · rintro k
    kernel_rfl
  · rintro k y E h
    unfold out_al at h
    split at h
    · cases h; kernel_rfl
    · cases h
  · rintro Q hQ k hx
    refine ⟨(k + 1), ?_⟩
    have e : roundX Try.prog [(40, S_rHeight), (42, S_rIn)] { R := [], H := [], C := [(51, (C_All d))] } [] [(.slot 6, 900, 58, 1)] B_al (inv_al d c T lo hi n f k) (inv_al d c T lo hi n f ((k + 1))) (out_al d c T lo hi n f k) = (Tree.branch (decide (lo + (↑k : Int) ≤ hi)) (Tree.need [(0 + n) * 8 ≤ 140737488355328, ∀ (i : Nat), i < n → ∀ (a : AV), a ∈ [iI (f i)] → AV.one a = true] (Tree.need [(0 + n + 1) * 8 ≤ 140737488355328, ∀ (i : Nat), i < 1 → ∀ (a : AV), a ∈ chunk 1 [iI (lo + (↑k : Int))] i → AV.one a = true] (Tree.need [isRec 1 (0 + n + 1) (catF (0 + n) (catF 0 (fun x => []) fun k => [iI (f k)]) (chunk 1 [iI (lo + (↑k : Int))])), alQ c T lo hi d (0 + n + 1) (col 0 (catF (0 + n) (catF 0 (fun x => []) fun k => [iI (f k)]) (chunk 1 [iI (lo + (↑k : Int))])))] (Tree.need [(List.length (alP T lo hi d (tol n f) k) + List.length (allV T lo hi d (tol (0 + n + 1) (col 0 (catF (0 + n) (catF 0 (fun x => []) fun k => [iI (f k)]) (chunk 1 [iI (lo + (↑k : Int))])))))) * 24 ≤ 140737488355328, ∀ (i : Nat), i < List.length (allV T lo hi d (tol (0 + n + 1) (col 0 (catF (0 + n) (catF 0 (fun x => []) fun k => [iI (f k)]) (chunk 1 [iI (lo + (↑k : Int))]))))) → ∀ (a : AV), a ∈ [LI (nL (allV T lo hi d (tol (0 + n + 1) (col 0 (catF (0 + n) (catF 0 (fun x => []) fun k => [iI (f k)]) (chunk 1 [iI (lo + (↑k : Int))]))))) i)] → AV.one a = true] (Tree.need [inI64 (lo + (↑k : Int) + (1 : Int))] (Tree.need [AV.agg [iI c, iI T, iI lo, iI hi] = AV.agg [iI c, iI T, iI lo, iI hi], (AV.lst 1 n fun k => [iI (f k)]) = AV.lst 1 n fun k => [iI (f k)], AV.ptr 0 0 = AV.ptr 0 0, AV.x (Value.slice none 0 0) = AV.x (Value.slice none 0 0), T - sumF f n = T - sumF f n, AV.row 900 = AV.row 900, lo + (↑k : Int) + (1 : Int) = lo + (↑(k + 1) : Int), List.length (alP T lo hi d (tol n f) k) + List.length (allV T lo hi d (tol (0 + n + 1) (col 0 (catF (0 + n) (catF 0 (fun x => []) fun k => [iI (f k)]) (chunk 1 [iI (lo + (↑k : Int))]))))) = List.length (alP T lo hi d (tol n f) (k + 1)), ∀ (i : Nat), i < List.length (alP T lo hi d (tol n f) (k + 1)) → catF (List.length (alP T lo hi d (tol n f) k)) (fun j => [LI (nL (alP T lo hi d (tol n f) k) j)]) (fun k_1 => [LI (nL (allV T lo hi d (tol (0 + n + 1) (col 0 (catF (0 + n) (catF 0 (fun x => []) fun k => [iI (f k)]) (chunk 1 [iI (lo + (↑k : Int))]))))) k_1)]) i = [LI (nL (alP T lo hi d (tol n f) (k + 1)) i)], c = c, T = T, lo = lo, hi = hi] (Tree.leaf AEx.normal))))))) (Tree.need [AV.agg [iI c, iI T, iI lo, iI hi] = AV.agg [iI c, iI T, iI lo, iI hi], (AV.lst 1 n fun k => [iI (f k)]) = AV.lst 1 n fun k => [iI (f k)], AV.ptr 0 0 = AV.ptr 0 0, AV.x (Value.slice none 0 0) = AV.x (Value.slice none 0 0), T - sumF f n = T - sumF f n, AV.row 900 = AV.row 900, List.length (alP T lo hi d (tol n f) k) = List.length (alP T lo hi d (tol n f) (Int.toNat (hi - lo + (1 : Int)))), ∀ (i : Nat), i < List.length (alP T lo hi d (tol n f) (Int.toNat (hi - lo + (1 : Int)))) → [LI (nL (alP T lo hi d (tol n f) k) i)] = [LI (nL (alP T lo hi d (tol n f) (Int.toNat (hi - lo + (1 : Int)))) i)], c = c, T = T, lo = lo, hi = hi] (Tree.leaf (AEx.exit 0)))) := by kernel_rfl
    rw [e]
    simp only [T_al, out_al, Tree.sat, Option.getD_some] at hQ
    obtain ⟨q1, q2, q3, q4, q5⟩ := pre1
    obtain ⟨g1, g2, g3, g4⟩ := cat_tol n f (lo + (k : Int))
    have hS := alP_succ T lo hi d (tol n f) k
    have hA : lo + (k : Int) ≤ hi → alQ c T lo hi d (0 + n + 1) (col 0 (catF (0 + n) (catF 0 (fun _ => []) fun k => [iI (f k)]) (chunk 1 [iI (lo + (k : Int))]))) := fun hk => by
      have hb := alP_bd (k := k) (by omega) q5
      refine ⟨by omega, q2, q3, fun j hj => ?_, by rw [g2]; omega⟩
      rcases (show j < n ∨ j = n by omega) with h | rfl
      · rw [g3 j h]; exact q4 j h
      · rw [g4]; omega
    have hB : lo + (k : Int) ≤ hi → (alP T lo hi d (tol n f) k).length + (allV T lo hi d (tol n f ++ [lo + (k : Int)])).length ≤ 1000000 := fun hk => alP_bd (k := k) (by omega) q5
    simp only [Tree.sat, allP, fitP, fitL, valEq, inI64, true_and, and_true, decide_eq_true_eq, decide_eq_false_iff_not, g2, hS, List.length_append, catLL]
    clear e
    refine ⟨fun h => ?_, fun h => ?_⟩
    · have hA := hA h
      have hB := hB h
      (repeat' first | with_reducible apply And.intro | with_reducible intro _)
      all_goals first | exact True.intro | omega | with_reducible rfl | assumption | exact one_of (by assumption) (by simp [AV.one, Value.oneCell']) | (rename_i hm; cases List.mem_singleton.1 hm; rfl) | rfl
    · obtain rfl : k = (hi - lo + 1).toNat := by omega
      (repeat' first | with_reducible apply And.intro | with_reducible intro _)
      all_goals first | exact True.intro | omega | with_reducible rfl | (rename_i E hE; cases hE; exact hQ) | rfl

set_option maxRecDepth 100000 in
theorem rAll0_at (d : Nat) (c T lo hi : Int) (n : Nat) (f : Nat → Int) (pre0 : alQ c T lo hi d n f) (pre1 : d = 0 ∨ AllOk' (d - 1)) : SoundCAt Try.prog 51 [.agg [i c, i T, i lo, i hi], .lst 1 n (fun k => [i (f k)])] (.branch (decide (d = 0) && bt lo (T - sumF f n) hi) (.leaf (.lst 1 1 (chunk 1 [.lst 1 (0 + n + 1) (catF (0 + n) (catF 0 (fun _ => []) fun k => [i (f k)]) (chunk 1 [i (T - sumF f n)]))]))) (.leaf (LL (allV T lo hi d (tol n f))))) := by
  refine soundCAt_fin (G := [(40, S_rHeight), (42, S_rIn)]) (X := { R := [], H := [] }) (L := [needSp [d ≠ 0] (LS_al (d - 1) c T lo hi n f)]) (SoundG.cons rHeight_ok (SoundG.cons rIn_ok (SoundG.nil _))) (SoundX.of (SoundRL.nil _) (SoundHL.nil _)) mixed Try.func51 (show Try.f51.body = some (bodyOf Try.f51) by kernel_rfl) (one_loop (fun cj hcj => by
    have e : loopAt (bodyOf Try.f51) 0 = some (.loop B_al) := by kernel_rfl
    rw [e] at hcj; cases hcj
    exact needSp_soundN (ps := [d ≠ 0]) (fun h => (al_ls (d - 1) c T lo hi n f (pre1.resolve_left h) (by rw [Nat.sub_add_cancel (Nat.pos_of_ne_zero h)]; exact pre0)).N))) (t := (Tree.need [isRec 1 n fun k => [i (f k)], (↑n : Int) ≤ (↑n : Int), n ≤ 100, ∀ (k : Nat), k < n → (-1000000 : Int) ≤ f k ∧ f k ≤ (1000000 : Int)] (Tree.need [inI64 (T - sumF f n)] (Tree.need [inI64 (c - (1 : Int))] (Tree.branch ((↑n : Int) == c - (1 : Int)) (Tree.branch (!bt lo (T - sumF f n) hi) (Tree.leaf (AV.x (Value.slice none 0 0))) (Tree.need [(0 + n) * 8 ≤ 140737488355328, ∀ (i : Nat), i < n → ∀ (a : AV), a ∈ [Ytmdeoobmeokmeaa.i (f i)] → AV.one a = true] (Tree.need [(0 + n + 1) * 8 ≤ 140737488355328, ∀ (i : Nat), i < 1 → ∀ (a : AV), a ∈ chunk 1 [iI (T - sumF f n)] i → AV.one a = true] (Tree.leaf (AV.lst 1 1 (chunk 1 [AV.lst 1 (0 + n + 1) (catF (0 + n) (catF 0 (fun x => []) fun k => [iI (f k)]) (chunk 1 [iI (T - sumF f n)]))])))))) (Tree.need [d ≠ 0] (Tree.need [AV.agg [iI c, iI T, iI lo, iI hi] = AV.agg [iI c, iI T, iI lo, iI hi], (AV.lst 1 n fun k => [iI (f k)]) = AV.lst 1 n fun k => [iI (f k)], AV.ptr 0 0 = AV.ptr 0 0, AV.x (Value.slice none 0 0) = AV.x (Value.slice none 0 0), T - sumF f n = T - sumF f n, AV.row 900 = AV.row 900, lo = lo + (↑(0 : Nat) : Int), 0 = List.length (alP T lo hi (d - 1) (tol n f) 0), ∀ (i : Nat), i < List.length (alP T lo hi (d - 1) (tol n f) 0) → [] = [LI (nL (alP T lo hi (d - 1) (tol n f) 0) i)], c = c, T = T, lo = lo, hi = hi] (Tree.leaf (AV.lst 1 (List.length (alP T lo hi (d - 1) (tol n f) (Int.toNat (hi - lo + (1 : Int))))) fun j => [AV.lst 1 (List.length (nL (alP T lo hi (d - 1) (tol n f) (Int.toNat (hi - lo + (1 : Int)))) j)) fun k => [iI (nthJ (nL (alP T lo hi (d - 1) (tol n f) (Int.toNat (hi - lo + (1 : Int)))) j) k)]]))))))))) (by kernel_rfl) ?_
  intro Q hQ
  obtain ⟨q1, q2, q3, q4, q5⟩ := pre0
  have hs := sumF_bd (f := f) (n := n) (N := 200) (by omega) (fun k hk => by have := q4 k hk; omega) n (Nat.le_refl n)
  simp only [Tree.sat, Bool.and_eq_true, Bool.and_eq_false_iff, decide_eq_true_eq, decide_eq_false_iff_not] at hQ
  simp only [Tree.sat, allP, valEq, inI64, true_and, and_true, decide_eq_true_eq, decide_eq_false_iff_not, beq_iff_eq, beq_eq_false_iff_ne, Bool.not_eq_true', Bool.not_eq_false']
  refine ⟨⟨isRec1 n f, by omega, by omega, fun k hk => by have := q4 k hk; omega⟩, by omega, by omega, fun h1 => ⟨fun h2 => ?_, fun h2 => ⟨⟨by omega, ?_⟩, ⟨by omega, ?_⟩, ?_⟩⟩, fun h1 => ⟨by omega, ⟨by omega, rfl, fun j hj => absurd hj (Nat.not_lt_zero _)⟩, ?_⟩⟩
  · obtain rfl : d = 0 := by omega
    have e : allV T lo hi 0 (tol n f) = [] := by
      unfold allV
      rw [tol_sum, h2]
      rfl
    rw [e] at hQ
    exact ⟨LL [], ⟨True.intro, rfl⟩, hQ.2 (.inr h2)⟩
  · intro k hk a ha
    cases List.mem_singleton.1 ha
    rfl
  · intro k hk a ha
    exact one_of ha (by simp [AV.one, Value.oneCell'])
  · exact ⟨.lst 1 1 (chunk 1 [.lst 1 (0 + n + 1) (catF (0 + n) (catF 0 (fun _ => []) fun k => [i (f k)]) (chunk 1 [i (T - sumF f n)]))]), ⟨rfl, rfl, fun j hj => rfl⟩, hQ.1 ⟨by omega, h2⟩⟩
  · have e : alP T lo hi (d - 1) (tol n f) (hi - lo + 1).toNat = allV T lo hi d (tol n f) := by
      rw [alP_all, show d - 1 + 1 = d by omega]
    rw [e]
    exact ⟨LL (allV T lo hi d (tol n f)), ⟨rfl, rfl, fun j hj => rfl⟩, hQ.2 (.inl (by omega))⟩


theorem rAll_at (d : Nat) (c T lo hi : Int) (n : Nat) (f : Nat → Int) (pre0 : alQ c T lo hi d n f) (pre1 : d = 0 ∨ AllOk' (d - 1)) : SoundCAt Try.prog 51 [.agg [i c, i T, i lo, i hi], .lst 1 n (fun k => [i (f k)])] (.leaf (LL (allV T lo hi d (tol n f)))) := by
  refine SoundCAt.weaken (rAll0_at d c T lo hi n f pre0 pre1) fun Q hQ => ?_
  simp only [Tree.sat, Bool.and_eq_true, decide_eq_true_eq] at hQ ⊢
  refine ⟨fun h => ?_, fun _ => ⟨_, hQ, fun _ _ _ h => h⟩⟩
  obtain ⟨rfl, h2⟩ := h
  refine ⟨_, hQ, fun e w v r => ?_⟩
  have e : allV T lo hi 0 (tol n f) = [tol n f ++ [T - sumF f n]] := by
    unfold allV
    rw [tol_sum, h2]
    rfl
  rw [e]
  exact cat_li n f _ r


theorem All_okC : ∀ d, AllOk' d := by
  intro d
  induction d with
  | zero =>
    refine ⟨⟨_, Try.func51, by kernel_rfl, by kernel_rfl⟩, fun avs t h => ?_⟩
    unfold C_All at h
    split at h
    · cases h
      intro Q hQ
      exact (SoundCAt.same (rAll_at 0 _ _ _ _ _ (col 0 _) hQ.1.2 (.inl rfl)) (.cons (.refl _) (.cons (.lst 1 _ _ _ hQ.1.1) .nil))) Q hQ.2
    · cases h
      intro Q hQ
      exact (SoundCAt.same (rAll_at 0 _ _ _ _ 0 (fun _ => 0) hQ.1 (.inl rfl)) (.cons (.refl _) (.cons (.nil 1 _) .nil))) Q hQ.2
    · cases h
  | succ d ih =>
    refine ⟨⟨_, Try.func51, by kernel_rfl, by kernel_rfl⟩, fun avs t h => ?_⟩
    unfold C_All at h
    split at h
    · cases h
      intro Q hQ
      exact (SoundCAt.same (rAll_at (d + 1) _ _ _ _ _ (col 0 _) hQ.1.2 (.inr ih)) (.cons (.refl _) (.cons (.lst 1 _ _ _ hQ.1.1) .nil))) Q hQ.2
    · cases h
      intro Q hQ
      exact (SoundCAt.same (rAll_at (d + 1) _ _ _ _ 0 (fun _ => 0) hQ.1 (.inr ih)) (.cons (.refl _) (.cons (.nil 1 _) .nil))) Q hQ.2
    · cases h

end Go.Proofs.Ytmdeoobmeokmeaa
/- Contracts of functions of the program, by the engine Sx: what each call comes to. Printed by a program of this repo (sxgen.py). -/
set_option linter.unusedSimpArgs false
set_option linter.unusedVariables false
namespace Go.Proofs.Ytmdeoobmeokmeaa
open Go Go.Sx Go.RowKit

/-- The height of a mark, by a list of volumes. -/
def hgt (w : List Int) (k : Nat) : Int := sumF (nthJ w) k
def itW (c T lo hi : Int) (n : Nat) (a b u v : Nat → Int) (w : List Int) : Bool := itB c T lo hi n a b u v w.length (nthJ w)
/-- All truths. -/
def tuL (c T lo hi : Int) (n : Nat) (a b u v : Nat → Int) : List (List Int) := (allV T lo hi (c.toNat - 1) []).filter (itW c T lo hi n a b u v)
theorem tol_list (w : List Int) : tol w.length (nthJ w) = w := by
  apply List.ext_getElem
  · simp [tol]
  · intro k h1 h2
    rw [← nthJ_get h2]
    simp [tol]
theorem sumF_congr {f g : Nat → Int} : ∀ {n : Nat}, (∀ k, k < n → f k = g k) → sumF f n = sumF g n
  | 0, _ => rfl
  | n + 1, h => by
    show sumF f n + f n = sumF g n + g n
    rw [sumF_congr (fun k hk => h k (by omega)), h n (by omega)]
theorem hgt_all (w : List Int) : hgt w w.length = w.sum := by
  unfold hgt
  rw [← tol_sum, tol_list]
theorem allV_mem {T lo hi : Int} : ∀ {d : Nat} {bs w : List Int}, w ∈ allV T lo hi d bs ↔ ∃ s : List Int, w = bs ++ s ∧ s.length = d + 1 ∧ (∀ x ∈ s, lo ≤ x ∧ x ≤ hi) ∧ w.sum = T
  | 0, bs, w => by
    unfold allV
    constructor
    · intro h
      split at h
      · rename_i hb
        rw [List.mem_singleton] at h
        subst h
        refine ⟨[T - bs.sum], rfl, rfl, fun x hx => ?_, ?_⟩
        · rw [List.mem_singleton] at hx
          subst hx
          exact (bt_iff _ _ _).1 hb
        · rw [List.sum_append]; simp; omega
      · cases h
    · rintro ⟨s, rfl, hl, hx, hs⟩
      match s, hl with
      | [x], _ =>
        have h1 := hx x (by simp)
        rw [List.sum_append] at hs
        simp at hs
        have e : T - bs.sum = x := by omega
        rw [e, if_pos ((bt_iff _ _ _).2 h1)]
        simp
  | d + 1, bs, w => by
    unfold allV
    rw [List.mem_flatMap]
    constructor
    · rintro ⟨q, hq, h⟩
      obtain ⟨s, rfl, hl, hx, hs⟩ := allV_mem.1 h
      rw [List.mem_range] at hq
      refine ⟨(lo + q) :: s, by simp, by simp [hl], fun x hx' => ?_, hs⟩
      rcases List.mem_cons.1 hx' with rfl | hx'
      · omega
      · exact hx x hx'
    · rintro ⟨s, rfl, hl, hx, hs⟩
      match s, hl with
      | x :: s, hl =>
        have h1 := hx x (by simp)
        refine ⟨(x - lo).toNat, List.mem_range.2 (by omega), allV_mem.2 ⟨s, ?_, by simpa using hl, fun y hy => hx y (List.mem_cons_of_mem _ hy), hs⟩⟩
        rw [show lo + (((x - lo).toNat : Nat) : Int) = x by omega]
        simp
theorem allV_len {T lo hi : Int} : ∀ (d : Nat) (bs : List Int), (allV T lo hi d bs).length ≤ (hi - lo + 1).toNat ^ d
  | 0, bs => by
    unfold allV
    split <;> simp
  | d + 1, bs => by
    unfold allV
    rw [List.length_flatMap, Nat.pow_succ]
    have h : ∀ l : List Nat, (l.map (fun q : Nat => (allV T lo hi d (bs ++ [lo + (q : Int)])).length)).sum ≤ l.length * (hi - lo + 1).toNat ^ d := by
      intro l
      induction l with
      | nil => simp
      | cons q l ih =>
        have := allV_len (T := T) (lo := lo) (hi := hi) d (bs ++ [lo + (q : Int)])
        simp only [List.map_cons, List.sum_cons, List.length_cons, Nat.succ_mul]
        omega
    have := h (List.range (hi - lo + 1).toNat)
    rw [List.length_range] at this
    rw [Nat.mul_comm]
    exact this
theorem itW_iff {c T lo hi : Int} {n : Nat} {a b u v : Nat → Int} {w : List Int} : itW c T lo hi n a b u v w = true → (w.length : Int) = c ∧ (∀ x ∈ w, lo ≤ x ∧ x ≤ hi) ∧ w.sum = T := by
  intro h
  unfold itW itB at h
  simp only [Bool.and_eq_true, decide_eq_true_eq] at h
  obtain ⟨⟨h1, _⟩, h3⟩ := h
  obtain ⟨h4, h5⟩ := cellsB_iff.1 h1
  refine ⟨h4, fun x hx => ?_, ?_⟩
  · obtain ⟨k, hk, rfl⟩ := List.mem_iff_getElem.1 hx
    have := h5 k hk
    rw [← nthJ_get hk]
    exact this
  · rw [show c.toNat = w.length by omega] at h3
    rw [← hgt_all]
    exact h3
theorem tuL_mem {c T lo hi : Int} {n : Nat} {a b u v : Nat → Int} {w : List Int} (hc : 1 ≤ c) : w ∈ tuL c T lo hi n a b u v ↔ itW c T lo hi n a b u v w = true := by
  unfold tuL
  rw [List.mem_filter, allV_mem]
  constructor
  · exact fun h => h.2
  · intro h
    obtain ⟨h1, h2, h3⟩ := itW_iff h
    exact ⟨⟨w, by simp, by omega, h2, h3⟩, h⟩
theorem getD_mem {L : List (List Int)} {q : Nat} (h : q < L.length) : nL L q ∈ L := by
  rw [nL_get h]
  exact List.getElem_mem h
/-- The truth that is as high, or as low, as it can be, is among them. -/
theorem sh_mem {c T lo hi : Int} {n : Nat} {a b u v : Nat → Int} (h1 : flt c T lo hi n a b u v = 0) (h2 : okB c T lo hi n a b u v = true) (r : Bool) : tol c.toNat (shV c T lo hi n a b u v r) ∈ tuL c T lo hi n a b u v ∧ ∀ k, k ≤ c.toNat → hgt (tol c.toNat (shV c T lo hi n a b u v r)) k = sumF (shV c T lo hi n a b u v r) k := by
  have hb := tube_bd (flt_iff.1 h1).1
  have hs : ∀ k, k ≤ c.toNat → hgt (tol c.toNat (shV c T lo hi n a b u v r)) k = sumF (shV c T lo hi n a b u v r) k := by
    intro k hk
    exact sumF_congr fun j hj => tol_get (by omega)
  refine ⟨(tuL_mem (by omega)).2 ?_, hs⟩
  have hm : ((tol c.toNat (shV c T lo hi n a b u v r)).length : Int) = c := by rw [tol_len]; omega
  refine (it_tr h1 hm).2 ?_
  have ht := (sh_it h1 h2 r).1
  have e : ∀ x, x ≤ c.toNat → sumF (nthJ (tol c.toNat (shV c T lo hi n a b u v r))) x = sumF (shV c T lo hi n a b u v r) x := hs
  have hr := rdOk_of (n := n) (a := a) (b := b) (u := u) (v := v) hb.1 (flt_iff.1 h1).2.2
  obtain ⟨t1, t2, t3, t4⟩ := ht
  refine ⟨rfl, ?_, fun k hk => ?_, fun j hj => ?_⟩
  · rw [e _ (Nat.le_refl _)]; exact t2
  · rw [e _ (by omega), e _ (by omega)]; exact t3 k hk
  · have := hr j hj
    rw [e _ (by omega), e _ (by omega)]
    refine ⟨(t4 j hj).1, fun hbc => ?_⟩
    rw [e _ (by omega)]
    exact (t4 j hj).2 hbc
theorem tu_ok {c T lo hi : Int} {n : Nat} {a b u v : Nat → Int} (h1 : flt c T lo hi n a b u v = 0) : okB c T lo hi n a b u v = true ↔ tuL c T lo hi n a b u v ≠ [] := by
  have hb := tube_bd (flt_iff.1 h1).1
  have hr := rdOk_of (n := n) (a := a) (b := b) (u := u) (v := v) hb.1 (flt_iff.1 h1).2.2
  constructor
  · intro h2 h3
    have := (sh_mem h1 h2 true).1
    rw [h3] at this
    cases this
  · intro h
    obtain ⟨w, hw⟩ := List.exists_mem_of_ne_nil _ h
    have h2 := (tuL_mem (by omega)).1 hw
    exact ok_of_tr hb.2.1 hr ((it_tr h1 (itW_iff h2).1).1 h2)
end Go.Proofs.Ytmdeoobmeokmeaa
/- Contracts of functions of the program, by the engine Sx: what each call comes to. Printed by a program of this repo (sxgen.py). -/
set_option linter.unusedSimpArgs false
set_option linter.unusedVariables false
namespace Go.Proofs.Ytmdeoobmeokmeaa
open Go Go.Sx Go.RowKit

/-- A list of lists, as it is seen. -/
def lolOf (N : Nat) (F : Nat → List AV) : List (List Int) := (List.range N).map fun k => match F k with
  | [.lst 1 m g] => tol m (col 0 g)
  | _ => []
def isLL (N : Nat) (F : Nat → List AV) : Prop := ∀ k, k < N → F k = [LI (nL (lolOf N F) k)]
/-- Lists, not too long, not too many. -/
def smLL (L : List (List Int)) : Prop := L.length ≤ 1000000 ∧ ∀ k, k < L.length → (nL L k).length ≤ 100
def flT (c T lo hi : Int) (n : Nat) (a b u v : Nat → Int) (L : List (List Int)) (k : Nat) : List (List Int) := (L.take k).filter (itW c T lo hi n a b u v)


theorem lol_len (N : Nat) (F : Nat → List AV) : (lolOf N F).length = N := by simp [lolOf]
theorem lol_LL (L : List (List Int)) : lolOf L.length (fun k => [LI (nL L k)]) = L := by
  apply List.ext_getElem
  · simp [lolOf]
  · intro k h1 h2
    simp only [lolOf, List.getElem_map, List.getElem_range]
    show tol (nL L k).length (nthJ (nL L k)) = _
    rw [tol_list, nL_get h2]
theorem isLL_LL (L : List (List Int)) : isLL L.length (fun k => [LI (nL L k)]) := fun k _ => by
  rw [lol_LL]
theorem flT_all (c T lo hi : Int) (n : Nat) (a b u v : Nat → Int) (L : List (List Int)) : flT c T lo hi n a b u v L L.length = L.filter (itW c T lo hi n a b u v) := by
  unfold flT
  rw [List.take_length]
theorem flT_yes {c T lo hi : Int} {n : Nat} {a b u v : Nat → Int} {L : List (List Int)} {k : Nat} (hk : k < L.length) (h : itB c T lo hi n a b u v (nL L k).length (nthJ (nL L k)) = true) : flT c T lo hi n a b u v L (k + 1) = flT c T lo hi n a b u v L k ++ [nL L k] := by
  have h' : itW c T lo hi n a b u v L[k] = true := by
    rw [← nL_get hk]
    exact h
  unfold flT
  rw [List.take_succ_eq_append_getElem hk, List.filter_append, nL_get hk]
  simp [h']
theorem flT_no {c T lo hi : Int} {n : Nat} {a b u v : Nat → Int} {L : List (List Int)} {k : Nat} (hk : k < L.length) (h : itB c T lo hi n a b u v (nL L k).length (nthJ (nL L k)) = false) : flT c T lo hi n a b u v L (k + 1) = flT c T lo hi n a b u v L k := by
  have h' : itW c T lo hi n a b u v L[k] = false := by
    rw [← nL_get hk]
    exact h
  unfold flT
  rw [List.take_succ_eq_append_getElem hk, List.filter_append]
  simp [h']
theorem flT_len (c T lo hi : Int) (n : Nat) (a b u v : Nat → Int) (L : List (List Int)) (k : Nat) : (flT c T lo hi n a b u v L k).length ≤ L.length := by
  unfold flT
  have h1 := List.length_filter_le (itW c T lo hi n a b u v) (L.take k)
  rw [List.length_take] at h1
  omega
theorem catL1 (L : List (List Int)) (w : List Int) {j : Nat} (h : j < L.length + 1) : catF L.length (fun j => [LI (nL L j)]) (chunk 1 [LI w]) j = [LI (nL (L ++ [w]) j)] := by
  unfold catF
  rw [nL_app]
  by_cases h1 : j < L.length
  · rw [if_pos h1, decide_eq_true h1, show j - L.length = 0 by omega]; rfl
  · rw [if_neg h1, decide_eq_false h1, show j - L.length = 0 by omega]; rfl

noncomputable def E_ts (c T lo hi : Int) (n : Nat) (a b u v : Nat → Int) (L : List (List Int)) : St := (some
  {
    σ :=
      [AV.agg
          [AV.x (Value.int IntKind.i64 c), AV.x (Value.int IntKind.i64 T), AV.x (Value.int IntKind.i64 lo),
            AV.x (Value.int IntKind.i64 hi)],
        AV.lst (1 : Nat) (List.length L) fun k =>
          [AV.lst (1 : Nat) (List.length (nL L k)) fun k_1 => [AV.x (Value.int IntKind.i64 (nthJ (nL L k) k_1))]],
        AV.lst (4 : Nat) n fun k =>
          [AV.x (Value.int IntKind.i64 (a k)), AV.x (Value.int IntKind.i64 (b k)), AV.x (Value.int IntKind.i64 (u k)),
            AV.x (Value.int IntKind.i64 (v k))],
        AV.ptr (0 : Nat) (0 : Nat), AV.top, AV.top, AV.x (Value.slice none (0 : Nat) (0 : Nat)), AV.top, AV.top, AV.top,
        AV.top, AV.top, AV.top, AV.top, AV.top, AV.top, AV.top, AV.top, AV.top, AV.top, AV.top, AV.top, AV.top, AV.top,
        AV.top, AV.top, AV.top, AV.top, AV.top, AV.top],
    m :=
      [((900 : Nat), Res.row (58 : Nat) (1 : Nat) (0 : Nat) fun x => []),
        ((0 : Nat),
          Res.cells (25 : Nat)
            [AV.x (Value.int IntKind.i64 c), AV.x (Value.int IntKind.i64 T), AV.x (Value.int IntKind.i64 lo),
              AV.x (Value.int IntKind.i64 hi)])],
    nx := (901 : Nat) } : Option St).getD { σ := [], m := [], nx := 0 }
noncomputable def B_ts : Code := loopBody (loopAt (bodyOf Try.f53) 0)
noncomputable def inv_ts (c T lo hi : Int) (n : Nat) (a b u v : Nat → Int) (L : List (List Int)) (k : Nat) : St := { σ := ovrS [(7, .row 900), (8, i k)] (E_ts c T lo hi n a b u v L).σ, m := [(900, .row 58 1 (flT c T lo hi n a b u v L k).length (fun j => [LI (nL (flT c T lo hi n a b u v L k) j)])), (0, .cells 25 [i c, i T, i lo, i hi])], nx := (E_ts c T lo hi n a b u v L).nx }
noncomputable def out_ts (c T lo hi : Int) (n : Nat) (a b u v : Nat → Int) (L : List (List Int)) (k : Nat) : AEx → Option St := fun ex => match ex with
  | .exit 0 => some { σ := ovrS [(7, .row 900)] (E_ts c T lo hi n a b u v L).σ, m := [(900, .row 58 1 (flT c T lo hi n a b u v L L.length).length (fun j => [LI (nL (flT c T lo hi n a b u v L L.length) j)])), (0, .cells 25 [i c, i T, i lo, i hi])], nx := (E_ts c T lo hi n a b u v L).nx }
  | _ => none
noncomputable def T_ts (c T lo hi : Int) (n : Nat) (a b u v : Nat → Int) (L : List (List Int)) : CT := .leaf (.exit 0, ( out_ts c T lo hi n a b u v L 0 (.exit 0)).getD (E_ts c T lo hi n a b u v L))
noncomputable def LS_ts (c T lo hi : Int) (n : Nat) (a b u v : Nat → Int) (L : List (List Int)) : LSpec := normSp [(.slot 7, 900, 58, 1)] (sumL (inv_ts c T lo hi n a b u v L (0)) (T_ts c T lo hi n a b u v L))
set_option maxRecDepth 100000 in
theorem ts_ls (c T lo hi : Int) (n : Nat) (a b u v : Nat → Int) (L : List (List Int)) (pre0 : flt c T lo hi n a b u v = 0) (pre1 : smLL L) : LSound Try.prog (.loop B_ts) (LS_ts c T lo hi n a b u v L) := by
  refine loop_roundsN [(.slot 7, 900, 58, 1)] (G := [(43, S_rIsTruth)]) (L := []) (SoundG.cons rIsTruth_ok (SoundG.nil _)) mixed noLoops (X := Nat) (inv_ts c T lo hi n a b u v L) (fun k => k ≤ L.length) (fun k => L.length - k) (out_ts c T lo hi n a b u v L) (x0 := 0) (by simp) ?_ ?_ ?_
  · rintro k
    kernel_rfl
  · rintro k y E h
    unfold out_ts at h
    split at h
    · cases h; kernel_rfl
    · cases h
  · rintro Q hQ k hx
    refine ⟨(k + 1), ?_⟩
    have e : roundN Try.prog [(43, S_rIsTruth)] [] [(.slot 7, 900, 58, 1)] B_ts (inv_ts c T lo hi n a b u v L k) (inv_ts c T lo hi n a b u v L ((k + 1))) (out_ts c T lo hi n a b u v L k) = (Tree.branch (decide ((↑k : Int) < (↑(List.length L) : Int))) (Tree.need [(0 : Int) ≤ (↑k : Int) ∧ (↑k : Int) < (↑(List.length L) : Int)] (Tree.need [isRec 4 n fun k => [iI (a k), iI (b k), iI (u k), iI (v k)], isRec 1 (List.length (nL L k)) fun k_1 => [iI (nthJ (nL L k) k_1)], List.length (nL L k) ≤ 100000, flt c T lo hi n a b u v = (0 : Int)] (Tree.branch (itB c T lo hi n a b u v (List.length (nL L k)) (nthJ (nL L k))) (Tree.need [(0 : Int) ≤ (↑k : Int) ∧ (↑k : Int) < (↑(List.length L) : Int)] (Tree.need [(List.length (flT c T lo hi n a b u v L k) + 1) * 24 ≤ 140737488355328, ∀ (i : Nat), i < 1 → ∀ (a : AV), a ∈ chunk 1 [AV.lst 1 (List.length (nL L k)) fun k_1 => [iI (nthJ (nL L k) k_1)]] i → AV.one a = true] (Tree.need [inI64 ((↑k : Int) + (1 : Int))] (Tree.need [AV.agg [iI c, iI T, iI lo, iI hi] = AV.agg [iI c, iI T, iI lo, iI hi], (AV.lst 1 (List.length L) fun k => [AV.lst 1 (List.length (nL L k)) fun k_1 => [iI (nthJ (nL L k) k_1)]]) = AV.lst 1 (List.length L) fun k => [AV.lst 1 (List.length (nL L k)) fun k_1 => [iI (nthJ (nL L k) k_1)]], (AV.lst 4 n fun k => [iI (a k), iI (b k), iI (u k), iI (v k)]) = AV.lst 4 n fun k => [iI (a k), iI (b k), iI (u k), iI (v k)], AV.ptr 0 0 = AV.ptr 0 0, AV.x (Value.slice none 0 0) = AV.x (Value.slice none 0 0), AV.row 900 = AV.row 900, (↑k : Int) + (1 : Int) = (↑(k + 1) : Int), List.length (flT c T lo hi n a b u v L k) + 1 = List.length (flT c T lo hi n a b u v L (k + 1)), ∀ (i : Nat), i < List.length (flT c T lo hi n a b u v L (k + 1)) → catF (List.length (flT c T lo hi n a b u v L k)) (fun j => [LI (nL (flT c T lo hi n a b u v L k) j)]) (chunk 1 [AV.lst 1 (List.length (nL L k)) fun k_1 => [iI (nthJ (nL L k) k_1)]]) i = [LI (nL (flT c T lo hi n a b u v L (k + 1)) i)], c = c, T = T, lo = lo, hi = hi] (Tree.leaf AEx.normal))))) (Tree.need [inI64 ((↑k : Int) + (1 : Int))] (Tree.need [AV.agg [iI c, iI T, iI lo, iI hi] = AV.agg [iI c, iI T, iI lo, iI hi], (AV.lst 1 (List.length L) fun k => [AV.lst 1 (List.length (nL L k)) fun k_1 => [iI (nthJ (nL L k) k_1)]]) = AV.lst 1 (List.length L) fun k => [AV.lst 1 (List.length (nL L k)) fun k_1 => [iI (nthJ (nL L k) k_1)]], (AV.lst 4 n fun k => [iI (a k), iI (b k), iI (u k), iI (v k)]) = AV.lst 4 n fun k => [iI (a k), iI (b k), iI (u k), iI (v k)], AV.ptr 0 0 = AV.ptr 0 0, AV.x (Value.slice none 0 0) = AV.x (Value.slice none 0 0), AV.row 900 = AV.row 900, (↑k : Int) + (1 : Int) = (↑(k + 1) : Int), List.length (flT c T lo hi n a b u v L k) = List.length (flT c T lo hi n a b u v L (k + 1)), ∀ (i : Nat), i < List.length (flT c T lo hi n a b u v L (k + 1)) → [LI (nL (flT c T lo hi n a b u v L k) i)] = [LI (nL (flT c T lo hi n a b u v L (k + 1)) i)], c = c, T = T, lo = lo, hi = hi] (Tree.leaf AEx.normal)))))) (Tree.need [AV.agg [iI c, iI T, iI lo, iI hi] = AV.agg [iI c, iI T, iI lo, iI hi], (AV.lst 1 (List.length L) fun k => [AV.lst 1 (List.length (nL L k)) fun k_1 => [iI (nthJ (nL L k) k_1)]]) = AV.lst 1 (List.length L) fun k => [AV.lst 1 (List.length (nL L k)) fun k_1 => [iI (nthJ (nL L k) k_1)]], (AV.lst 4 n fun k => [iI (a k), iI (b k), iI (u k), iI (v k)]) = AV.lst 4 n fun k => [iI (a k), iI (b k), iI (u k), iI (v k)], AV.ptr 0 0 = AV.ptr 0 0, AV.x (Value.slice none 0 0) = AV.x (Value.slice none 0 0), AV.row 900 = AV.row 900, List.length (flT c T lo hi n a b u v L k) = List.length (flT c T lo hi n a b u v L (List.length L)), ∀ (i : Nat), i < List.length (flT c T lo hi n a b u v L (List.length L)) → [LI (nL (flT c T lo hi n a b u v L k) i)] = [LI (nL (flT c T lo hi n a b u v L (List.length L)) i)], c = c, T = T, lo = lo, hi = hi] (Tree.leaf (AEx.exit 0)))) := by kernel_rfl
    rw [e]
    simp only [T_ts, out_ts, Tree.sat, Option.getD_some] at hQ
    have hl := flT_len c T lo hi n a b u v L k
    obtain ⟨s1, s2⟩ := pre1
    have s2 := s2 k
    simp only [Tree.sat, allP, fitP, fitL, valEq, inI64, true_and, and_true, decide_eq_true_eq, decide_eq_false_iff_not, Int.toNat_natCast, c10, c40, c41, c42, c43]
    clear e
    refine ⟨fun h => ⟨by omega, ⟨isRec4 n a b u v, isRec1 _ _, by have := s2 (by omega); omega, pre0⟩, fun h2 => ?_, fun h2 => ?_⟩, fun h => ?_⟩
    · rw [flT_yes (by omega) h2, List.length_append]
      (repeat' first | with_reducible apply And.intro | with_reducible intro _)
      all_goals first | exact True.intro | omega | with_reducible rfl | exact one_of (by assumption) (by simp [AV.one, Value.oneCell']) | exact catL1 _ _ (by assumption) | rfl
    · rw [flT_no (by omega) h2]
      (repeat' first | with_reducible apply And.intro | with_reducible intro _)
      all_goals first | exact True.intro | omega | with_reducible rfl | rfl
    · obtain rfl : k = L.length := by omega
      (repeat' first | with_reducible apply And.intro | with_reducible intro _)
      all_goals first | exact True.intro | omega | with_reducible rfl | (rename_i E hE; cases hE; exact hQ) | rfl

set_option maxRecDepth 100000 in
theorem rTruths_at (c T lo hi : Int) (n : Nat) (a b u v : Nat → Int) (L : List (List Int)) (pre0 : flt c T lo hi n a b u v = 0) (pre1 : smLL L) : SoundCAt Try.prog 53 [.agg [i c, i T, i lo, i hi], LL L, rds n a b u v] (.leaf (LL (L.filter (itW c T lo hi n a b u v)))) := by
  refine soundCAt_fin (G := [(43, S_rIsTruth)]) (X := { R := [], H := [] }) (L := [LS_ts c T lo hi n a b u v L]) (SoundG.cons rIsTruth_ok (SoundG.nil _)) (SoundX.of (SoundRL.nil _) (SoundHL.nil _)) mixed Try.func53 (show Try.f53.body = some (bodyOf Try.f53) by kernel_rfl) (one_loop (fun cj hcj => by
    have e : loopAt (bodyOf Try.f53) 0 = some (.loop B_ts) := by kernel_rfl
    rw [e] at hcj; cases hcj
    exact (ts_ls c T lo hi n a b u v L pre0 pre1).N)) (t := (Tree.need [AV.agg [iI c, iI T, iI lo, iI hi] = AV.agg [iI c, iI T, iI lo, iI hi], (AV.lst 1 (List.length L) fun k => [AV.lst 1 (List.length (nL L k)) fun k_1 => [iI (nthJ (nL L k) k_1)]]) = AV.lst 1 (List.length L) fun k => [AV.lst 1 (List.length (nL L k)) fun k_1 => [iI (nthJ (nL L k) k_1)]], (AV.lst 4 n fun k => [iI (a k), iI (b k), iI (u k), iI (v k)]) = AV.lst 4 n fun k => [iI (a k), iI (b k), iI (u k), iI (v k)], AV.ptr 0 0 = AV.ptr 0 0, AV.x (Value.slice none 0 0) = AV.x (Value.slice none 0 0), AV.row 900 = AV.row 900, (0 : Int) = (↑(0 : Nat) : Int), 0 = List.length (flT c T lo hi n a b u v L 0), ∀ (i : Nat), i < List.length (flT c T lo hi n a b u v L 0) → [] = [LI (nL (flT c T lo hi n a b u v L 0) i)], c = c, T = T, lo = lo, hi = hi] (Tree.leaf (AV.lst 1 (List.length (flT c T lo hi n a b u v L (List.length L))) fun j => [AV.lst 1 (List.length (nL (flT c T lo hi n a b u v L (List.length L)) j)) fun k => [iI (nthJ (nL (flT c T lo hi n a b u v L (List.length L)) j) k)]])))) (by kernel_rfl) ?_
  intro Q hQ
  have hQ : Q (LL (L.filter (itW c T lo hi n a b u v))) := hQ
  simp only [Tree.sat, allP, valEq, inI64, true_and, and_true]
  refine ⟨⟨rfl, rfl, fun j hj => absurd hj (Nat.not_lt_zero _)⟩, LL (L.filter (itW c T lo hi n a b u v)), ?_, hQ⟩
  rw [← flT_all]
  exact ⟨rfl, rfl, fun j hj => rfl⟩


noncomputable def C_rTruths : CSpec := fun l => match l with
  | [.agg [.x (.int .i64 c), .x (.int .i64 T), .x (.int .i64 lo), .x (.int .i64 hi)], .lst 1 N F, .lst 4 n f] => some (.need [isRec 4 n f, isLL N F, flt c T lo hi n (col 0 f) (col 1 f) (col 2 f) (col 3 f) = 0, smLL (lolOf N F)] (.leaf (LL ((lolOf N F).filter (itW c T lo hi n (col 0 f) (col 1 f) (col 2 f) (col 3 f))))))
  | _ => none


theorem sameLL {N : Nat} {F : Nat → List AV} (h : isLL N F) : Same (.lst 1 N F) (LL (lolOf N F)) := by
  have := Same.lst 1 N F (fun k => [LI (nL (lolOf N F) k)]) h
  have e : AV.lst 1 N (fun k => [LI (nL (lolOf N F) k)]) = LL (lolOf N F) := by rw [show LL (lolOf N F) = AV.lst 1 (lolOf N F).length (fun k => [LI (nL (lolOf N F) k)]) from rfl, lol_len]
  rw [← e]
  exact this
theorem rTruths_okC : Enters Try.prog 53 ∧ ∀ avs t, C_rTruths avs = some t → SoundCAt Try.prog 53 avs t := by
  refine ⟨⟨_, Try.func53, by kernel_rfl, by kernel_rfl⟩, ?_⟩
  intro avs t h
  unfold C_rTruths at h
  split at h
  · cases h
    intro Q hQ
    obtain ⟨⟨h1, h2, h3, h4⟩, hQ⟩ := hQ
    exact (SoundCAt.same (rTruths_at _ _ _ _ _ (col 0 _) (col 1 _) (col 2 _) (col 3 _) _ h3 h4) (.cons (.refl _) (.cons (sameLL h2) (.cons (.lst 4 _ _ _ h1) .nil)))) Q hQ
  · cases h

end Go.Proofs.Ytmdeoobmeokmeaa
/- Contracts of functions of the program, by the engine Sx: what each call comes to. Printed by a program of this repo (sxgen.py). -/
set_option linter.unusedSimpArgs false
set_option linter.unusedVariables false
namespace Go.Proofs.Ytmdeoobmeokmeaa
open Go Go.Sx Go.RowKit

end Go.Proofs.Ytmdeoobmeokmeaa
/- Contracts of functions of the program, by the engine Sx: what each call comes to. Printed by a program of this repo (sxgen.py). -/
set_option linter.unusedSimpArgs false
set_option linter.unusedVariables false
namespace Go.Proofs.Ytmdeoobmeokmeaa
open Go Go.Sx Go.RowKit

/-- A number, times itself, as long as it is not too great. -/
def powN (m : Int) : Nat → Int
  | 0 => 1
  | k + 1 => if powN m k ≤ 400 then powN m k * m else powN m k
def fewB (c T lo hi : Int) (n : Nat) (a b u v : Nat → Int) : Bool := decide (n ≤ 15) && (!decide (flt c T lo hi n a b u v = 0) || (decide (powN (hi - lo + 1) (c.toNat - 1) ≤ 400) && decide (n ≤ 6)))


theorem powN_bd {m : Int} (h : 1 ≤ m ∧ m ≤ 200) : ∀ k, 1 ≤ powN m k ∧ powN m k ≤ 80000
  | 0 => by simp [powN]
  | k + 1 => by
    have ih := powN_bd h k
    unfold powN
    split
    · have h1 : 1 * 1 ≤ powN m k * m := Int.mul_le_mul ih.1 h.1 (by omega) (by omega)
      have h2 : powN m k * m ≤ 400 * 200 := Int.mul_le_mul (by omega) h.2 (by omega) (by omega)
      omega
    · exact ih
theorem powN_stay {m : Int} {k : Nat} (h : 400 < powN m k) : ∀ j, powN m (k + j) = powN m k
  | 0 => rfl
  | j + 1 => by
    have ih := powN_stay h j
    rw [show powN m (k + (j + 1)) = if powN m (k + j) ≤ 400 then powN m (k + j) * m else powN m (k + j) from rfl, ih, if_neg (by omega)]
theorem powN_pow {m : Nat} (hm : 1 ≤ m ∧ m ≤ 200) : ∀ k, powN m k ≤ 400 → powN m k = ((m ^ k : Nat) : Int)
  | 0, _ => by simp [powN]
  | k + 1, h => by
    have hb := powN_bd (m := m) (by omega) k
    have h1 : powN m k ≤ 400 := by
      rcases Int.lt_or_le 400 (powN m k) with h1 | h1
      · have := powN_stay h1 1
        omega
      · exact h1
    have ih := powN_pow hm k h1
    rw [show powN m (k + 1) = if powN m k ≤ 400 then powN m k * m else powN m k from rfl, if_pos h1, ih, Nat.pow_succ]
    simp

noncomputable def E_fe (c T lo hi : Int) (n : Nat) (a b u v : Nat → Int) : St := (some
  {
    σ :=
      [AV.agg
          [AV.x (Value.int IntKind.i64 c), AV.x (Value.int IntKind.i64 T), AV.x (Value.int IntKind.i64 lo),
            AV.x (Value.int IntKind.i64 hi)],
        AV.lst (4 : Nat) n fun k =>
          [AV.x (Value.int IntKind.i64 (a k)), AV.x (Value.int IntKind.i64 (b k)), AV.x (Value.int IntKind.i64 (u k)),
            AV.x (Value.int IntKind.i64 (v k))],
        AV.ptr (0 : Nat) (0 : Nat), AV.top, AV.lit false, AV.top, AV.top, AV.top, AV.top, AV.top, AV.top, AV.top,
        AV.top, AV.top, AV.top, AV.top, AV.top, AV.top, AV.top, AV.top, AV.top, AV.top, AV.top, AV.top, AV.top, AV.top,
        AV.top, AV.top, AV.top, AV.top, AV.top, AV.top, AV.top, AV.top, AV.top, AV.top, AV.top, AV.top, AV.top, AV.top,
        AV.top],
    m :=
      [((0 : Nat),
          Res.cells (25 : Nat)
            [AV.x (Value.int IntKind.i64 c), AV.x (Value.int IntKind.i64 T), AV.x (Value.int IntKind.i64 lo),
              AV.x (Value.int IntKind.i64 hi)])],
    nx := (11 : Nat) } : Option St).getD { σ := [], m := [], nx := 0 }
noncomputable def B_fe : Code := loopBody (loopAt (bodyOf Try.f19) 0)
noncomputable def inv_fe (c T lo hi : Int) (n : Nat) (a b u v : Nat → Int) (k : Nat) : St := { σ := ovrS [(5, i (powN (hi - lo + 1) k)), (6, i ((k : Int) + 1))] (E_fe c T lo hi n a b u v).σ, m := [(0, .cells 25 [i c, i T, i lo, i hi])], nx := (E_fe c T lo hi n a b u v).nx }
noncomputable def out_fe (c T lo hi : Int) (n : Nat) (a b u v : Nat → Int) (k : Nat) : AEx → Option St := fun ex => match ex with
  | .exit 0 => some { σ := ovrS [(5, i (powN (hi - lo + 1) (c.toNat - 1)))] (E_fe c T lo hi n a b u v).σ, m := [(0, .cells 25 [i c, i T, i lo, i hi])], nx := (E_fe c T lo hi n a b u v).nx }
  | _ => none
noncomputable def T_fe (c T lo hi : Int) (n : Nat) (a b u v : Nat → Int) : CT := .leaf (.exit 0, ( out_fe c T lo hi n a b u v 0 (.exit 0)).getD (E_fe c T lo hi n a b u v))
noncomputable def LS_fe (c T lo hi : Int) (n : Nat) (a b u v : Nat → Int) : LSpec := normSp [] (sumL (inv_fe c T lo hi n a b u v (0)) (T_fe c T lo hi n a b u v))
set_option maxRecDepth 100000 in
theorem fe_ls (c T lo hi : Int) (n : Nat) (a b u v : Nat → Int) (pre0 : tubeB c T lo hi = true) : LSound Try.prog (.loop B_fe) (LS_fe c T lo hi n a b u v) := by
  refine loop_roundsX [] (E := { R := [], H := [] }) (G := [(63, S_rFault)]) (L := []) (SoundG.cons rFault_ok (SoundG.nil _)) (SoundX.of (SoundRL.nil _) (SoundHL.nil _)) mixed noLoops (X := Nat) (inv_fe c T lo hi n a b u v) (fun k => k + 1 ≤ c.toNat) (fun k => c.toNat - k) (out_fe c T lo hi n a b u v) (x0 := 0) (by have := tube_bd pre0; omega) ?_ ?_ ?_
  · rintro k
    kernel_rfl
  · rintro k y E h
    unfold out_fe at h
    split at h
    · cases h; kernel_rfl
    · cases h
  · rintro Q hQ k hx
    refine ⟨(k + 1), ?_⟩
    have e : roundX Try.prog [(63, S_rFault)] { R := [], H := [] } [] [] B_fe (inv_fe c T lo hi n a b u v k) (inv_fe c T lo hi n a b u v ((k + 1))) (out_fe c T lo hi n a b u v k) = (Tree.branch (decide ((↑k : Int) + (1 : Int) < c)) (Tree.branch (decide (powN (hi - lo + (1 : Int)) k ≤ (400 : Int))) (Tree.need [inI64 (hi - lo)] (Tree.need [inI64 (hi - lo + (1 : Int))] (Tree.need [inI64 (powN (hi - lo + (1 : Int)) k * (hi - lo + (1 : Int)))] (Tree.need [inI64 ((↑k : Int) + (1 : Int) + (1 : Int))] (Tree.need [AV.agg [iI c, iI T, iI lo, iI hi] = AV.agg [iI c, iI T, iI lo, iI hi], (AV.lst 4 n fun k => [iI (a k), iI (b k), iI (u k), iI (v k)]) = AV.lst 4 n fun k => [iI (a k), iI (b k), iI (u k), iI (v k)], AV.ptr 0 0 = AV.ptr 0 0, AV.lit false = AV.lit false, powN (hi - lo + (1 : Int)) k * (hi - lo + (1 : Int)) = powN (hi - lo + (1 : Int)) (k + 1), (↑k : Int) + (1 : Int) + (1 : Int) = (↑(k + 1) : Int) + (1 : Int), c = c, T = T, lo = lo, hi = hi] (Tree.leaf AEx.normal)))))) (Tree.need [AV.agg [iI c, iI T, iI lo, iI hi] = AV.agg [iI c, iI T, iI lo, iI hi], (AV.lst 4 n fun k => [iI (a k), iI (b k), iI (u k), iI (v k)]) = AV.lst 4 n fun k => [iI (a k), iI (b k), iI (u k), iI (v k)], AV.ptr 0 0 = AV.ptr 0 0, AV.lit false = AV.lit false, powN (hi - lo + (1 : Int)) k = powN (hi - lo + (1 : Int)) (Int.toNat c - 1), c = c, T = T, lo = lo, hi = hi] (Tree.leaf (AEx.exit 0)))) (Tree.need [AV.agg [iI c, iI T, iI lo, iI hi] = AV.agg [iI c, iI T, iI lo, iI hi], (AV.lst 4 n fun k => [iI (a k), iI (b k), iI (u k), iI (v k)]) = AV.lst 4 n fun k => [iI (a k), iI (b k), iI (u k), iI (v k)], AV.ptr 0 0 = AV.ptr 0 0, AV.lit false = AV.lit false, powN (hi - lo + (1 : Int)) k = powN (hi - lo + (1 : Int)) (Int.toNat c - 1), c = c, T = T, lo = lo, hi = hi] (Tree.leaf (AEx.exit 0)))) := by kernel_rfl
    rw [e]
    simp only [T_fe, out_fe, Tree.sat, Option.getD_some] at hQ
    have hb := tube_bd pre0
    have hp := powN_bd (m := hi - lo + 1) (by omega) k
    have hp2 := powN_bd (m := hi - lo + 1) (by omega) (k + 1)
    have hs : powN (hi - lo + 1) (k + 1) = if powN (hi - lo + 1) k ≤ 400 then powN (hi - lo + 1) k * (hi - lo + 1) else powN (hi - lo + 1) k := rfl
    simp only [Tree.sat, allP, fitP, fitL, valEq, inI64, true_and, and_true, decide_eq_true_eq, decide_eq_false_iff_not, Int.toNat_natCast]
    clear e
    refine ⟨fun h => ⟨fun h2 => ?_, fun h2 => ?_⟩, fun h => ?_⟩
    · rw [if_pos h2] at hs
      rw [← hs]
      (repeat' first | with_reducible apply And.intro | with_reducible intro _)
      all_goals first | exact True.intro | omega | with_reducible rfl | rfl
    · have e3 := powN_stay (m := hi - lo + 1) (k := k) (by omega) (c.toNat - 1 - k)
      rw [show k + (c.toNat - 1 - k) = c.toNat - 1 by omega] at e3
      rw [e3]
      (repeat' first | with_reducible apply And.intro | with_reducible intro _)
      all_goals first | exact True.intro | omega | with_reducible rfl | (rename_i E hE; cases hE; exact hQ) | rfl
    · obtain rfl : k = c.toNat - 1 := by omega
      (repeat' first | with_reducible apply And.intro | with_reducible intro _)
      all_goals first | exact True.intro | omega | with_reducible rfl | (rename_i E hE; cases hE; exact hQ) | rfl

set_option maxRecDepth 100000 in
theorem Few_at (c T lo hi : Int) (n : Nat) (a b u v : Nat → Int) : SoundAt Try.prog 19 [.agg [i c, i T, i lo, i hi], rds n a b u v] (bl (fewB c T lo hi n a b u v)) := by
  refine soundAt_finX (G := [(63, S_rFault)]) (X := { R := [], H := [] }) (L := [needSp [tubeB c T lo hi = true] (LS_fe c T lo hi n a b u v)]) (SoundG.cons rFault_ok (SoundG.nil _)) (SoundX.of (SoundRL.nil _) (SoundHL.nil _)) mixed Try.func19 (show Try.f19.body = some (bodyOf Try.f19) by kernel_rfl) (one_loop (fun cj hcj => by
    have e : loopAt (bodyOf Try.f19) 0 = some (.loop B_fe) := by kernel_rfl
    rw [e] at hcj; cases hcj
    exact (needSp_sound (ps := [tubeB c T lo hi = true]) (fun h => fe_ls c T lo hi n a b u v h)).N)) (t := (Tree.branch (decide ((↑n : Int) > (15 : Int))) (Tree.leaf (RV.x (Value.bool false))) (Tree.need [isRec 4 n fun k => [i (a k), i (b k), i (u k), i (v k)]] (Tree.branch (flt c T lo hi n a b u v != (0 : Int)) (Tree.leaf (RV.x (Value.bool true))) (Tree.need [tubeB c T lo hi = true] (Tree.need [AV.agg [iI c, iI T, iI lo, iI hi] = AV.agg [iI c, iI T, iI lo, iI hi], (AV.lst 4 n fun k => [iI (a k), iI (b k), iI (u k), iI (v k)]) = AV.lst 4 n fun k => [iI (a k), iI (b k), iI (u k), iI (v k)], AV.ptr 0 0 = AV.ptr 0 0, AV.lit false = AV.lit false, (1 : Int) = powN (hi - lo + (1 : Int)) 0, (1 : Int) = (↑(0 : Nat) : Int) + (1 : Int), c = c, T = T, lo = lo, hi = hi] (Tree.branch (decide (powN (hi - lo + (1 : Int)) (Int.toNat c - 1) ≤ (400 : Int))) (Tree.leaf (RV.x (Value.bool (decide ((↑n : Int) ≤ (6 : Int)))))) (Tree.leaf (RV.x (Value.bool false)))))))))) (by kernel_rfl) ?_
  simp only [Tree.sat, allP, fitP, fitL, valEq, inI64, true_and, and_true, decide_eq_true_eq, decide_eq_false_iff_not, bne_iff_ne, ne_eq, bne_eq_false_iff_eq]
  refine ⟨fun h => ?_, fun h => ⟨isRec4 n a b u v, fun h2 => ?_, fun h2 => ⟨(flt_iff.1 h2).1, ⟨rfl, rfl⟩, fun h3 => ?_, fun h3 => ?_⟩⟩⟩
  · have : ¬ n ≤ 15 := by omega
    simp [fewB, this]
  · have : n ≤ 15 := by omega
    simp [fewB, this, h2]
  · have : n ≤ 15 := by omega
    simp [fewB, this, h2, h3]
    by_cases h4 : n ≤ 6
    · simp [h4]; omega
    · simp [h4]; omega
  · have : n ≤ 15 := by omega
    simp [fewB, this, h2, h3]

def S_Few : Sx.Spec := fun l => match l with
  | [.agg [.x (.int .i64 c), .x (.int .i64 T), .x (.int .i64 lo), .x (.int .i64 hi)], .lst 4 n f] => some ([isRec 4 n f], bl (fewB c T lo hi n (col 0 f) (col 1 f) (col 2 f) (col 3 f)))
  | _ => none

theorem Few_ok : SoundSpec Try.prog 19 S_Few := by
  refine ⟨⟨_, Try.func19, by kernel_rfl, by kernel_rfl⟩, ?_⟩
  intro avs ns res h hn
  unfold S_Few at h
  split at h
  · rename_i c T lo hi n f
    cases h
    have hr0 : isRec 4 n f := hn _ (by simp)
    exact (Few_at c T lo hi n (col 0 f) (col 1 f) (col 2 f) (col 3 f)).same (.cons (.refl _) (.cons (.lst 4 n _ _ hr0) .nil))
  · cases h


theorem few_all {c T lo hi : Int} {n : Nat} {a b u v : Nat → Int} (h : fewB c T lo hi n a b u v = true) (hf : flt c T lo hi n a b u v = 0) : (allV T lo hi (c.toNat - 1) []).length ≤ 400 ∧ n ≤ 6 := by
  have hb := tube_bd (flt_iff.1 hf).1
  simp [fewB, hf] at h
  obtain ⟨_, h1, h2⟩ := h
  refine ⟨?_, h2⟩
  have e : (((hi - lo + 1).toNat : Nat) : Int) = hi - lo + 1 := by omega
  rw [← e] at h1
  have h3 := powN_pow (m := (hi - lo + 1).toNat) (by omega) (c.toNat - 1) h1
  have h4 := allV_len (T := T) (lo := lo) (hi := hi) (c.toNat - 1) []
  rw [h3] at h1
  omega


theorem smLL_all {T lo hi : Int} {d : Nat} (h : (allV T lo hi d []).length ≤ 1000000) (hd : d < 100) : smLL (allV T lo hi d []) := by
  refine ⟨h, fun k hk => ?_⟩
  obtain ⟨s, h1, h2, _⟩ := allV_mem.1 (getD_mem hk)
  rw [h1]
  simp [h2]
  omega

end Go.Proofs.Ytmdeoobmeokmeaa
/- Contracts of functions of the program, by the engine Sx: what each call comes to. Printed by a program of this repo (sxgen.py). -/
set_option linter.unusedSimpArgs false
set_option linter.unusedVariables false
namespace Go.Proofs.Ytmdeoobmeokmeaa
open Go Go.Sx Go.RowKit

theorem few_n {c T lo hi : Int} {n : Nat} {a b u v : Nat → Int} (h : fewB c T lo hi n a b u v = true) : n ≤ 100000 := by
  have : n ≤ 15 := by
    simp [fewB] at h
    exact h.1
  omega
end Go.Proofs.Ytmdeoobmeokmeaa
/- Contracts of functions of the program, by the engine Sx: what each call comes to. Printed by a program of this repo (sxgen.py). -/
set_option linter.unusedSimpArgs false
set_option linter.unusedVariables false
namespace Go.Proofs.Ytmdeoobmeokmeaa
open Go Go.Sx Go.RowKit

/-- Is a list in order? Is it a rising one of numbers below n? -/
def srtB (m : Nat) (f : Nat → Int) : Bool := allI (fun j => !decide (f (j + 1) < f j)) (m - 1)
def riP (n : Nat) (f : Nat → Int) (k : Nat) : Bool := bt 0 (f k) ((n : Int) - 1) && (decide (k = 0) || decide (f (k - 1) < f k))
def risB (n m : Nat) (f : Nat → Int) : Bool := allI (riP n f) m
/-- Is a number in a list? The numbers below k that are, or that are not. -/
def memB (m : Nat) (g : Nat → Int) (k : Nat) : Bool := !allI (fun j => !(g j == (k : Int))) m
def soL (m : Nat) (g : Nat → Int) (o : Bool) : Nat → List Int
  | 0 => []
  | k + 1 => if memB m g k != o then soL m g o k ++ [(k : Int)] else soL m g o k
/-- Numbers of readings. -/
def inR (n m : Nat) (g : Nat → Int) : Prop := ∀ j, j < m → 0 ≤ g j ∧ g j < n
def subS (m : Nat) (g : Nat → Int) (m' : Nat) (g' : Nat → Int) : Prop := ∀ j, j < m → ∃ j', j' < m' ∧ g j = g' j'
def pkB (c T lo hi : Int) (n : Nat) (a b u v : Nat → Int) (m : Nat) (g : Nat → Int) : Bool := decide (flt c T lo hi n a b u v = 0) && srtB m g && allI (fun k => bt 0 (g k) ((n : Int) - 1)) m && clB c T lo hi m a b u v g && allI (fun k => !clB c T lo hi (m - 1) a b u v (butF k g)) m
/-- A knot, as the reference says. -/
def clS (c T lo hi : Int) (n : Nat) (a b u v : Nat → Int) (m : Nat) (g : Nat → Int) : Bool := clB c T lo hi (soL m g false n).length a b u v (nthJ (soL m g false n))
def ikB (c T lo hi : Int) (n : Nat) (a b u v : Nat → Int) (m : Nat) (g : Nat → Int) : Bool := risB n m g && clS c T lo hi n a b u v m g && allI (fun k => !clS c T lo hi n a b u v (m - 1) (butF k g)) m


theorem memB_iff {m : Nat} {g : Nat → Int} {k : Nat} : memB m g k = true ↔ ∃ j, j < m ∧ g j = k := by
  unfold memB
  rw [Bool.not_eq_true', ← Bool.not_eq_true, allI_iff]
  constructor
  · intro h
    rcases Classical.em (∃ j, j < m ∧ g j = k) with h1 | h1
    · exact h1
    · exfalso
      refine h fun j hj => ?_
      rw [Bool.not_eq_true', beq_eq_false_iff_ne]
      exact fun h2 => h1 ⟨j, hj, h2⟩
  · rintro ⟨j, hj, h⟩ h2
    have := h2 j hj
    rw [h] at this
    simp at this
theorem memB_succ (m : Nat) (g : Nat → Int) (k : Nat) : memB (m + 1) g k = (memB m g k || (g m == (k : Int))) := by
  simp [memB, allI, Bool.not_and]
theorem soL_mem {m : Nat} {g : Nat → Int} {o : Bool} {x : Int} : ∀ {n : Nat}, x ∈ soL m g o n ↔ ∃ k : Nat, k < n ∧ x = k ∧ memB m g k ≠ o
  | 0 => by simp [soL]
  | n + 1 => by
    have ih := soL_mem (m := m) (g := g) (o := o) (x := x) (n := n)
    unfold soL
    by_cases h : memB m g n = o
    · rw [if_neg (by simp [h]), ih]
      constructor
      · rintro ⟨k, h1, h2, h3⟩
        exact ⟨k, by omega, h2, h3⟩
      · rintro ⟨k, h1, h2, h3⟩
        rcases (show k < n ∨ k = n by omega) with h4 | rfl
        · exact ⟨k, h4, h2, h3⟩
        · exact absurd h h3
    · rw [if_pos (by simpa using h), List.mem_append, ih, List.mem_singleton]
      constructor
      · rintro (⟨k, h1, h2, h3⟩ | rfl)
        · exact ⟨k, by omega, h2, h3⟩
        · exact ⟨n, by omega, rfl, h⟩
      · rintro ⟨k, h1, h2, h3⟩
        rcases (show k < n ∨ k = n by omega) with h4 | rfl
        · exact .inl ⟨k, h4, h2, h3⟩
        · exact .inr h2
theorem soL_len (m : Nat) (g : Nat → Int) (o : Bool) : ∀ n, (soL m g o n).length ≤ n
  | 0 => Nat.le_refl _
  | n + 1 => by
    have := soL_len m g o n
    unfold soL
    split
    · simp; omega
    · omega
theorem nthJ_mem {l : List Int} {j : Nat} (h : j < l.length) : nthJ l j ∈ l := by
  rw [nthJ_get h]
  exact List.getElem_mem h
theorem mem_nthJ {l : List Int} {x : Int} (h : x ∈ l) : ∃ j, j < l.length ∧ x = nthJ l j := by
  obtain ⟨j, hj, rfl⟩ := List.mem_iff_getElem.1 h
  exact ⟨j, hj, (nthJ_get hj).symm⟩
theorem soL_in (m : Nat) (g : Nat → Int) (o : Bool) (n : Nat) : inR n (soL m g o n).length (nthJ (soL m g o n)) := fun j hj => by
  obtain ⟨k, h1, h2, _⟩ := soL_mem.1 (nthJ_mem hj)
  rw [h2]
  omega
theorem soL_sub (m : Nat) (g : Nat → Int) (n : Nat) : subS (soL m g false n).length (nthJ (soL m g false n)) m g := fun j hj => by
  obtain ⟨k, h1, h2, h3⟩ := soL_mem.1 (nthJ_mem hj)
  obtain ⟨q, hq, he⟩ := memB_iff.1 (by simpa using h3)
  exact ⟨q, hq, by rw [h2, he]⟩
theorem sub_soL {m : Nat} {g : Nat → Int} {n : Nat} (h : inR n m g) : subS m g (soL m g false n).length (nthJ (soL m g false n)) := fun j hj => by
  have h1 := h j hj
  have : g j ∈ soL m g false n := soL_mem.2 ⟨(g j).toNat, by omega, by omega, by
    rw [ne_eq, Bool.not_eq_false]
    exact memB_iff.2 ⟨j, hj, by omega⟩⟩
  exact mem_nthJ this
theorem subS.trans {m : Nat} {g : Nat → Int} {m' : Nat} {g' : Nat → Int} {m'' : Nat} {g'' : Nat → Int} (h : subS m g m' g') (k : subS m' g' m'' g'') : subS m g m'' g'' := fun j hj => by
  obtain ⟨q, hq, he⟩ := h j hj
  obtain ⟨p, hp, hf⟩ := k q hq
  exact ⟨p, hp, he.trans hf⟩
theorem but_has {m q : Nat} {g : Nat → Int} {j : Nat} (hq : q < m) (hj : j < m) (hne : j ≠ q) : ∃ p, p < m - 1 ∧ butF q g p = g j := by
  rcases (show j < q ∨ q < j by omega) with h | h
  · exact ⟨j, by omega, by unfold butF; rw [if_pos h]⟩
  · refine ⟨j - 1, by omega, ?_⟩
    unfold butF
    rw [if_neg (by omega)]
    congr 1
    omega
theorem sel_tr {c : Nat} {T lo hi : Int} {a b u v : Nat → Int} {m : Nat} {g : Nat → Int} {m' : Nat} {g' : Nat → Int} {h : Nat → Int} (hs : subS m g m' g') (k : Tr c T lo hi m' (selF a g') (selF b g') (selF u g') (selF v g') h) : Tr c T lo hi m (selF a g) (selF b g) (selF u g) (selF v g) h := by
  refine ⟨k.1, k.2.1, k.2.2.1, fun j hj => ?_⟩
  obtain ⟨q, hq, he⟩ := hs j hj
  have := k.2.2.2 q hq
  unfold selF at this ⊢
  rw [he]
  exact this
/-- More readings that contradict each other still do. -/
theorem cl_mono {c T lo hi : Int} {n : Nat} {a b u v : Nat → Int} {m : Nat} {g : Nat → Int} {m' : Nat} {g' : Nat → Int} (h1 : flt c T lo hi n a b u v = 0) (hg : inR n m g) (hg' : inR n m' g') (hs : subS m g m' g') (h : clB c T lo hi m a b u v g = true) : clB c T lo hi m' a b u v g' = true := by
  have hf := flt_iff.1 h1
  have hb := tube_bd hf.1
  have r1 := rdOk_of hb.1 (sel_rd hf.2.2 hg)
  have r2 := rdOk_of hb.1 (sel_rd hf.2.2 hg')
  unfold clB at h ⊢
  rw [Bool.not_eq_true', ← Bool.not_eq_true] at h ⊢
  intro h2
  exact h (ok_of_tr hb.2.1 r1 (sel_tr hs (tr_hi hb.2.1 r2 h2)))
theorem cl_same {c T lo hi : Int} {n : Nat} {a b u v : Nat → Int} {m : Nat} {g : Nat → Int} {m' : Nat} {g' : Nat → Int} (h1 : flt c T lo hi n a b u v = 0) (hg : inR n m g) (hg' : inR n m' g') (hs : subS m g m' g') (hs' : subS m' g' m g) : clB c T lo hi m a b u v g = clB c T lo hi m' a b u v g' := by
  rw [Bool.eq_iff_iff]
  exact ⟨cl_mono h1 hg hg' hs, cl_mono h1 hg' hg hs'⟩
theorem clS_eq {c T lo hi : Int} {n : Nat} {a b u v : Nat → Int} {m : Nat} {g : Nat → Int} (h1 : flt c T lo hi n a b u v = 0) (hg : inR n m g) : clS c T lo hi n a b u v m g = clB c T lo hi m a b u v g :=
  cl_same h1 (soL_in m g false n) hg (soL_sub m g n) (sub_soL hg)
theorem ris_iff {n m : Nat} {g : Nat → Int} : risB n m g = true ↔ inR n m g ∧ ∀ k, k + 1 < m → g k < g (k + 1) := by
  unfold risB
  rw [allI_iff]
  constructor
  · intro h
    refine ⟨fun j hj => ?_, fun k hk => ?_⟩
    · have := h j hj
      simp only [riP, Bool.and_eq_true, bt_iff] at this
      omega
    · have := h (k + 1) hk
      simp only [riP, Bool.and_eq_true, Bool.or_eq_true, decide_eq_true_eq, Nat.add_sub_cancel] at this
      omega
  · rintro ⟨h1, h2⟩ j hj
    have := h1 j hj
    simp only [riP, Bool.and_eq_true, bt_iff, Bool.or_eq_true, decide_eq_true_eq]
    refine ⟨by omega, ?_⟩
    rcases Nat.eq_zero_or_pos j with h | h
    · exact .inl h
    · right
      have := h2 (j - 1) (by omega)
      rw [show j - 1 + 1 = j by omega] at this
      exact this
theorem srt_iff {m : Nat} {g : Nat → Int} : srtB m g = true ↔ ∀ k, k + 1 < m → g k ≤ g (k + 1) := by
  unfold srtB
  rw [allI_iff]
  constructor
  · intro h k hk
    have := h k (by omega)
    simpa using this
  · intro h k hk
    have := h k (by omega)
    simpa using this
theorem in_iff {n m : Nat} {g : Nat → Int} : allI (fun k => bt 0 (g k) ((n : Int) - 1)) m = true ↔ inR n m g := by
  rw [allI_iff]
  constructor
  · intro h j hj
    have := (bt_iff _ _ _).1 (h j hj)
    omega
  · intro h j hj
    have := h j hj
    exact (bt_iff _ _ _).2 (by omega)
theorem but_inR {n m q : Nat} {g : Nat → Int} (h : inR n m g) (hq : q < m) : inR n (m - 1) (butF q g) := but_in h hq
/-- The package's words and the reference's words on a knot are the same. -/
theorem pk_ik {c T lo hi : Int} {n : Nat} {a b u v : Nat → Int} {m : Nat} {g : Nat → Int} (h1 : flt c T lo hi n a b u v = 0) : pkB c T lo hi n a b u v m g = ikB c T lo hi n a b u v m g := by
  unfold pkB ikB
  rw [decide_eq_true h1, Bool.true_and]
  cases hr : risB n m g with
  | true =>
    obtain ⟨r1, r2⟩ := ris_iff.1 hr
    rw [show srtB m g = true from srt_iff.2 fun k hk => by have := r2 k hk; omega, show allI (fun k => bt 0 (g k) ((n : Int) - 1)) m = true from in_iff.2 r1, clS_eq h1 r1]
    have e : allI (fun k => !clB c T lo hi (m - 1) a b u v (butF k g)) m = allI (fun k => !clS c T lo hi n a b u v (m - 1) (butF k g)) m := by
      rw [Bool.eq_iff_iff, allI_iff, allI_iff]
      constructor
      · intro h j hj
        rw [clS_eq h1 (but_inR r1 hj)]
        exact h j hj
      · intro h j hj
        rw [← clS_eq h1 (but_inR r1 hj)]
        exact h j hj
    rw [e]
    rfl
  | false =>
    rw [Bool.false_and, Bool.false_and, ← Bool.not_eq_true]
    simp only [Bool.and_eq_true]
    rintro ⟨⟨⟨h2, h3⟩, h4⟩, h5⟩
    rw [← Bool.not_eq_true] at hr
    apply hr
    refine ris_iff.2 ⟨in_iff.1 h3, fun k hk => ?_⟩
    have h6 := srt_iff.1 h2 k hk
    rcases Int.lt_or_le (g k) (g (k + 1)) with h7 | h7
    · exact h7
    · exfalso
      have he : g (k + 1) = g k := by omega
      have h8 := allI_iff.1 h5 (k + 1) hk
      rw [Bool.not_eq_true', ← Bool.not_eq_true] at h8
      apply h8
      refine cl_mono h1 (in_iff.1 h3) (but_inR (in_iff.1 h3) hk) (fun j hj => ?_) h4
      by_cases hjk : j = k + 1
      · subst hjk
        obtain ⟨p, hp, hq⟩ := but_has (q := k + 1) (g := g) (j := k) (m := m) hk (by omega) (by omega)
        exact ⟨p, hp, by rw [hq, he]⟩
      · obtain ⟨p, hp, hq⟩ := but_has (q := k + 1) (g := g) hk hj hjk
        exact ⟨p, hp, hq.symm⟩
theorem kn_step (c T lo hi : Int) (n : Nat) (a b u v : Nat → Int) (t : Nat) : (clB c T lo hi (knN c T lo hi n a b u v t - 1) a b u v (butF (n - 1 - t) (knF c T lo hi n a b u v t)) = true ∧ knN c T lo hi n a b u v (t + 1) = knN c T lo hi n a b u v t - 1 ∧ knF c T lo hi n a b u v (t + 1) = butF (n - 1 - t) (knF c T lo hi n a b u v t)) ∨ (clB c T lo hi (knN c T lo hi n a b u v t - 1) a b u v (butF (n - 1 - t) (knF c T lo hi n a b u v t)) = false ∧ knN c T lo hi n a b u v (t + 1) = knN c T lo hi n a b u v t ∧ knF c T lo hi n a b u v (t + 1) = knF c T lo hi n a b u v t) := by
  cases h : clB c T lo hi (knN c T lo hi n a b u v t - 1) a b u v (butF (n - 1 - t) (knF c T lo hi n a b u v t)) with
  | true => exact .inl ⟨rfl, kn_yes rfl h⟩
  | false => exact .inr ⟨rfl, kn_no rfl h⟩
/-- What 'Knot' keeps: a rising list that contradicts itself; none of those that were asked can be left out. -/
theorem kn_all {c T lo hi : Int} {n : Nat} {a b u v : Nat → Int} (h1 : flt c T lo hi n a b u v = 0) (h2 : knA c T lo hi n a b u v = true) : ∀ t, t ≤ n → (∀ j, j < n - t → knF c T lo hi n a b u v t j = j) ∧ (∀ k, k + 1 < knN c T lo hi n a b u v t → knF c T lo hi n a b u v t k < knF c T lo hi n a b u v t (k + 1)) ∧
    clB c T lo hi (knN c T lo hi n a b u v t) a b u v (knF c T lo hi n a b u v t) = true ∧ ∀ j, n - t ≤ j → j < knN c T lo hi n a b u v t → clB c T lo hi (knN c T lo hi n a b u v t - 1) a b u v (butF j (knF c T lo hi n a b u v t)) = false
  | 0, _ => by
    refine ⟨fun j hj => ?_, fun k hk => ?_, h2, fun j hj hk => ?_⟩
    · show numF n j = j
      unfold numF
      rw [if_pos (by omega)]
    · have hk : k + 1 < n := hk
      show numF n k < numF n (k + 1)
      unfold numF
      rw [if_pos (by omega), if_pos hk]
      omega
    · have hk : j < n := hk
      omega
  | t + 1, ht => by
    obtain ⟨i1, i2, i3, i4⟩ := kn_all h1 h2 t (by omega)
    obtain ⟨v1, v2, v3⟩ := kn_inv c T lo hi n a b u v t (by omega)
    rcases kn_step c T lo hi n a b u v t with ⟨s1, s2, s3⟩ | ⟨s1, s2, s3⟩
    · rw [s2, s3]
      refine ⟨fun j hj => ?_, fun k hk => ?_, s1, fun j hj hk => ?_⟩
      · unfold butF
        rw [if_pos (by omega)]
        exact i1 j (by omega)
      · unfold butF
        by_cases hk1 : k + 1 < n - 1 - t
        · rw [if_pos (by omega), if_pos hk1]
          exact i2 k (by omega)
        · by_cases hk2 : k < n - 1 - t
          · rw [if_pos hk2, if_neg hk1]
            have e1 := i2 k (by omega)
            have e2 := i2 (k + 1) (by omega)
            rw [show n - 1 - t + 1 + (k + 1 - (n - 1 - t)) = k + 1 + 1 by omega]
            omega
          · rw [if_neg hk2, if_neg hk1]
            have e1 := i2 (k + 1) (by omega)
            rw [show n - 1 - t + 1 + (k - (n - 1 - t)) = k + 1 by omega, show n - 1 - t + 1 + (k + 1 - (n - 1 - t)) = k + 1 + 1 by omega]
            exact e1
      · have h3 := i4 (j + 1) (by omega) (by omega)
        rw [← Bool.not_eq_true] at h3 ⊢
        intro h4
        apply h3
        refine cl_mono h1 (but_inR (but_inR v3 (by omega)) hk) (but_inR v3 (by omega)) (fun x hx => ?_) h4
        have hx1 : ∃ p, p < knN c T lo hi n a b u v t ∧ p ≠ j + 1 ∧ butF j (butF (n - 1 - t) (knF c T lo hi n a b u v t)) x = knF c T lo hi n a b u v t p := by
          unfold butF
          by_cases x1 : x < j
          · rw [if_pos x1]
            by_cases x2 : x < n - 1 - t
            · rw [if_pos x2]; exact ⟨x, by omega, by omega, rfl⟩
            · rw [if_neg x2]; exact ⟨_, by omega, by omega, rfl⟩
          · rw [if_neg x1]
            by_cases x2 : j + 1 + (x - j) < n - 1 - t
            · omega
            · rw [if_neg x2]; exact ⟨_, by omega, by omega, rfl⟩
        obtain ⟨p, p1, p2, p3⟩ := hx1
        obtain ⟨q, q1, q2⟩ := but_has (q := j + 1) (g := knF c T lo hi n a b u v t) (by omega) p1 p2
        exact ⟨q, q1, by rw [p3, q2]⟩
    · rw [s2, s3]
      refine ⟨fun j hj => i1 j (by omega), i2, i3, fun j hj hk => ?_⟩
      rcases (show j = n - 1 - t ∨ n - t ≤ j by omega) with rfl | h
      · exact s1
      · exact i4 j h hk
theorem kn_ik {c T lo hi : Int} {n : Nat} {a b u v : Nat → Int} (h1 : flt c T lo hi n a b u v = 0) (h2 : knA c T lo hi n a b u v = true) : pkB c T lo hi n a b u v (knN c T lo hi n a b u v n) (knF c T lo hi n a b u v n) = true := by
  obtain ⟨i1, i2, i3, i4⟩ := kn_all h1 h2 n (Nat.le_refl n)
  obtain ⟨v1, v2, v3⟩ := kn_inv c T lo hi n a b u v n (Nat.le_refl n)
  unfold pkB
  rw [decide_eq_true h1, i3, show srtB _ _ = true from srt_iff.2 fun k hk => by have := i2 k hk; omega, show allI (fun k => bt 0 (knF c T lo hi n a b u v n k) ((n : Int) - 1)) (knN c T lo hi n a b u v n) = true from in_iff.2 v3]
  simp only [Bool.true_and]
  refine allI_iff.2 fun j hj => ?_
  rw [i4 j (by omega) hj]
  rfl
theorem sel_num {n : Nat} {a : Nat → Int} {j : Nat} (h : j < n) : selF a (numF n) j = a j := by
  unfold selF numF
  rw [if_pos h]
  simp
/-- All readings contradict each other just if there is no truth. -/
theorem knA_ok {c T lo hi : Int} {n : Nat} {a b u v : Nat → Int} : knA c T lo hi n a b u v = !okB c T lo hi n a b u v := by
  unfold knA clB okB
  rw [okR_congr (fun j hj => ⟨sel_num hj, sel_num hj, sel_num hj, sel_num hj⟩)]

end Go.Proofs.Ytmdeoobmeokmeaa
/- Contracts of functions of the program, by the engine Sx: what each call comes to. Printed by a program of this repo (sxgen.py). -/
set_option linter.unusedSimpArgs false
set_option linter.unusedVariables false
namespace Go.Proofs.Ytmdeoobmeokmeaa
open Go Go.Sx Go.RowKit
def S_isNaN : Sx.Spec := fun l => match l with
  | [.x (.int .i64 x)] => some ([], bl false)
  | _ => none

set_option maxRecDepth 100000 in
theorem isNaN_at (x : Int) : SoundAt Try.prog 111 [i x] (bl false) := by
  refine soundAt_fin (G := []) (L := []) (SoundG.nil _) mixed Try.func111 (show Try.f111.body = some (bodyOf Try.f111) by kernel_rfl) noLoops (t := (Tree.leaf (RV.x (Value.bool (x != x))))) (by kernel_rfl) ?_
  simp [Tree.sat, fitP, valEq]
theorem isNaN_ok : SoundSpec Try.prog 111 S_isNaN := by
  refine ⟨⟨_, Try.func111, by kernel_rfl, by kernel_rfl⟩, ?_⟩
  intro avs ns res h hn
  unfold S_isNaN at h
  split at h
  · cases h
    exact isNaN_at _
  · cases h

def S_cless : Sx.Spec := fun l => match l with
  | [.x (.int .i64 x), .x (.int .i64 y)] => some ([], bl (decide (x < y)))
  | _ => none

set_option maxRecDepth 100000 in
theorem cless_at (x y : Int) : SoundAt Try.prog 105 [i x, i y] (bl (decide (x < y))) := by
  refine soundAt_fin (G := [(111, S_isNaN)]) (L := []) (SoundG.cons isNaN_ok (SoundG.nil _)) mixed Try.func105 (show Try.f105.body = some (bodyOf Try.f105) by kernel_rfl) noLoops (t := (Tree.branch false (Tree.branch (!false) (Tree.leaf (RV.x (Value.bool true))) (Tree.leaf (RV.x (Value.bool (decide (x < y)))))) (Tree.leaf (RV.x (Value.bool (decide (x < y))))))) (by kernel_rfl) ?_
  simp [Tree.sat, fitP, valEq]
theorem cless_ok : SoundSpec Try.prog 105 S_cless := by
  refine ⟨⟨_, Try.func105, by kernel_rfl, by kernel_rfl⟩, ?_⟩
  intro avs ns res h hn
  unfold S_cless at h
  split at h
  · cases h
    exact cless_at _ _
  · cases h

noncomputable def E_sr (m : Nat) (f : Nat → Int) : St := (some
  {
    σ :=
      [AV.lst (1 : Nat) m fun k => [AV.x (Value.int IntKind.i64 (f k))], AV.top, AV.top, AV.top, AV.top, AV.top, AV.top,
        AV.top, AV.top, AV.top, AV.top, AV.top, AV.top, AV.top, AV.top, AV.top, AV.top, AV.top, AV.top, AV.top, AV.top],
    m := [], nx := (5 : Nat) } : Option St).getD { σ := [], m := [], nx := 0 }
noncomputable def B_sr : Code := loopBody (loopAt (bodyOf Try.f86) 0)
noncomputable def inv_sr (m : Nat) (f : Nat → Int) (k : Nat) : St := { σ := ovrS [(3, i ((m : Int) - 1 - k))] (E_sr m f).σ, m := (E_sr m f).m, nx := (E_sr m f).nx }
noncomputable def out_sr (m : Nat) (f : Nat → Int) (k : Nat) : AEx → Option St := fun ex => match ex with
  | .exit 0 => some { σ := ovrS [] (E_sr m f).σ, m := (E_sr m f).m, nx := (E_sr m f).nx }
  | .ret => some { σ := ovrS [(2, .lit false)] (E_sr m f).σ, m := (E_sr m f).m, nx := (E_sr m f).nx }
  | _ => none
noncomputable def T_sr (m : Nat) (f : Nat → Int) : CT := .branch (srtB m f) (.leaf (.exit 0, ( out_sr m f 0 (.exit 0)).getD (E_sr m f))) (.leaf (.ret, ( out_sr m f 0 .ret).getD (E_sr m f)))
noncomputable def LS_sr (m : Nat) (f : Nat → Int) : LSpec := (sumL (inv_sr m f (0)) (T_sr m f))
set_option maxRecDepth 100000 in
theorem sr_ls (m : Nat) (f : Nat → Int) (pre0 : m ≤ 100000) : LSound Try.prog (.loop B_sr) (LS_sr m f) := by
  refine loop_rounds (G := [(105, S_cless)]) (L := []) (SoundG.cons cless_ok (SoundG.nil _)) mixed noLoops (X := Nat) (inv_sr m f) (fun k => k ≤ m - 1 ∧ ∀ j, m - 1 - k ≤ j → j < m - 1 → ¬ f (j + 1) < f j) (fun k => m - 1 - k) (out_sr m f) (x0 := 0) ⟨by omega, fun j h1 h2 => by omega⟩ ?_ ?_ ?_
  · rintro k
    kernel_rfl
  · rintro k y E h
    unfold out_sr at h
    split at h
    · cases h; kernel_rfl
    · cases h; kernel_rfl
    · cases h
  · rintro Q hQ k hx
    refine ⟨(k + 1), ?_⟩
    have e : roundT Try.prog [(105, S_cless)] [] B_sr (inv_sr m f k) (inv_sr m f ((k + 1))) (out_sr m f k) = (Tree.branch (decide ((↑m : Int) - (1 : Int) - (↑k : Int) > (0 : Int))) (Tree.need [(0 : Int) ≤ (↑m : Int) - (1 : Int) - (↑k : Int) ∧ (↑m : Int) - (1 : Int) - (↑k : Int) < (↑m : Int)] (Tree.need [inI64 ((↑m : Int) - (1 : Int) - (↑k : Int) - (1 : Int))] (Tree.need [(0 : Int) ≤ (↑m : Int) - (1 : Int) - (↑k : Int) - (1 : Int) ∧ (↑m : Int) - (1 : Int) - (↑k : Int) - (1 : Int) < (↑m : Int)] (Tree.branch (decide (f (Int.toNat ((↑m : Int) - (1 : Int) - (↑k : Int))) < f (Int.toNat ((↑m : Int) - (1 : Int) - (↑k : Int) - (1 : Int))))) (Tree.need [(AV.lst 1 m fun k => [iI (f k)]) = AV.lst 1 m fun k => [iI (f k)], AV.lit false = AV.lit false] (Tree.leaf AEx.ret)) (Tree.need [inI64 ((↑m : Int) - (1 : Int) - (↑k : Int) - (1 : Int))] (Tree.need [(AV.lst 1 m fun k => [iI (f k)]) = AV.lst 1 m fun k => [iI (f k)], (↑m : Int) - (1 : Int) - (↑k : Int) - (1 : Int) = (↑m : Int) - (1 : Int) - (↑(k + 1) : Int)] (Tree.leaf AEx.normal))))))) (Tree.need [(AV.lst 1 m fun k => [iI (f k)]) = AV.lst 1 m fun k => [iI (f k)]] (Tree.leaf (AEx.exit 0)))) := by kernel_rfl
    rw [e]
    simp only [T_sr, out_sr, Tree.sat, Option.getD_some] at hQ
    obtain ⟨x1, x2⟩ := hx
    have e1 : ((m : Int) - 1 - k).toNat = m - 1 - k := by omega
    have e2 : ((m : Int) - 1 - k - 1).toNat = m - 1 - k - 1 := by omega
    have hbad : k < m - 1 → f (m - 1 - k) < f (m - 1 - k - 1) → srtB m f = false := by
      intro h1 h2
      rw [← Bool.not_eq_true]
      intro h3
      have := allI_iff.1 h3 (m - 1 - k - 1) (by omega)
      rw [show m - 1 - k - 1 + 1 = m - 1 - k by omega] at this
      simp at this
      omega
    have hend : ¬ k < m - 1 → srtB m f = true := fun h => allI_iff.2 fun j hj => by
      have := x2 j (by omega) hj
      simp
      omega
    have hgood : k < m - 1 → ¬ f (m - 1 - k) < f (m - 1 - k - 1) → ∀ j, m - 1 - (k + 1) ≤ j → j < m - 1 → ¬ f (j + 1) < f j := by
      intro h1 h2 j h3 h4
      rcases (show j = m - 1 - k - 1 ∨ m - 1 - k ≤ j by omega) with rfl | h
      · rw [show m - 1 - k - 1 + 1 = m - 1 - k by omega]; exact h2
      · exact x2 j h h4
    simp only [Tree.sat, allP, fitP, fitL, valEq, inI64, true_and, and_true, decide_eq_true_eq, decide_eq_false_iff_not, Int.toNat_natCast, e1, e2, gt_iff_lt]
    clear e
    refine ⟨fun h => ⟨by omega, by omega, by omega, fun h2 => ?_, fun h2 => ?_⟩, fun h => ?_⟩
    · intro E hE
      cases hE
      exact hQ.2 (hbad (by omega) h2)
    · exact ⟨by omega, by omega, ⟨by omega, hgood (by omega) h2⟩, by omega⟩
    · intro E hE
      cases hE
      exact hQ.1 (hend (by omega))

set_option maxRecDepth 100000 in
theorem srt_at (m : Nat) (f : Nat → Int) (pre0 : m ≤ 100000) : SoundAt Try.prog 86 [.lst 1 m (fun k => [i (f k)])] (bl (srtB m f)) := by
  refine soundAt_fin (G := [(105, S_cless)]) (L := [LS_sr m f]) (SoundG.cons cless_ok (SoundG.nil _)) mixed Try.func86 (show Try.f86.body = some (bodyOf Try.f86) by kernel_rfl) (one_loop (fun cj hcj => by
    have e : loopAt (bodyOf Try.f86) 0 = some (.loop B_sr) := by kernel_rfl
    rw [e] at hcj; cases hcj
    exact sr_ls m f pre0)) (t := (Tree.need [inI64 ((↑m : Int) - (1 : Int))] (Tree.need [(AV.lst 1 m fun k => [iI (f k)]) = AV.lst 1 m fun k => [iI (f k)], (↑m : Int) - (1 : Int) = (↑m : Int) - (1 : Int) - (↑(0 : Nat) : Int)] (Tree.branch (srtB m f) (Tree.leaf (RV.x (Value.bool true))) (Tree.leaf (RV.x (Value.bool false))))))) (by kernel_rfl) ?_
  simp only [Tree.sat, allP, fitP, fitL, valEq, inI64, true_and, and_true]
  refine ⟨by omega, by omega, fun h => ?_, fun h => ?_⟩
  · rw [h]
  · rw [h]

def S_srt : Sx.Spec := fun l => match l with
  | [.lst 1 m f] => some ([isRec 1 m f, m ≤ 100000], bl (srtB m (col 0 f)))
  | _ => none

theorem srt_ok : SoundSpec Try.prog 86 S_srt := by
  refine ⟨⟨_, Try.func86, by kernel_rfl, by kernel_rfl⟩, ?_⟩
  intro avs ns res h hn
  unfold S_srt at h
  split at h
  · rename_i m f
    cases h
    have hr0 : isRec 1 m f := hn _ (by simp)
    exact (srt_at m (col 0 f) (hn _ (by simp))).same (.cons (.lst 1 m _ _ hr0) .nil)
  · cases h

noncomputable def E_ri2 (n m : Nat) (a b u v f : Nat → Int) : St := (some
  {
    σ :=
      [AV.lst (4 : Nat) n fun k =>
          [AV.x (Value.int IntKind.i64 (a k)), AV.x (Value.int IntKind.i64 (b k)), AV.x (Value.int IntKind.i64 (u k)),
            AV.x (Value.int IntKind.i64 (v k))],
        AV.lst (1 : Nat) m fun k => [AV.x (Value.int IntKind.i64 (f k))], AV.top, AV.top, AV.top, AV.top, AV.top,
        AV.top, AV.top, AV.top, AV.top, AV.top, AV.top, AV.top, AV.top, AV.top, AV.top, AV.top, AV.top, AV.top, AV.top,
        AV.top, AV.top, AV.top, AV.top, AV.top, AV.top, AV.top, AV.top, AV.top, AV.top, AV.top, AV.top, AV.top, AV.top,
        AV.top, AV.top],
    m := [], nx := (2 : Nat) } : Option St).getD { σ := [], m := [], nx := 0 }
noncomputable def B_ri2 : Code := loopBody (loopAt (bodyOf Try.f60) 0)
noncomputable def inv_ri2 (n m : Nat) (a b u v f : Nat → Int) (k : Nat) : St := { σ := ovrS [(5, i k)] (E_ri2 n m a b u v f).σ, m := (E_ri2 n m a b u v f).m, nx := (E_ri2 n m a b u v f).nx }
noncomputable def out_ri2 (n m : Nat) (a b u v f : Nat → Int) (k : Nat) : AEx → Option St := fun ex => match ex with
  | .exit 0 => some { σ := ovrS [] (E_ri2 n m a b u v f).σ, m := (E_ri2 n m a b u v f).m, nx := (E_ri2 n m a b u v f).nx }
  | .ret => some { σ := ovrS [(4, .lit false)] (E_ri2 n m a b u v f).σ, m := (E_ri2 n m a b u v f).m, nx := (E_ri2 n m a b u v f).nx }
  | _ => none
noncomputable def T_ri2 (n m : Nat) (a b u v f : Nat → Int) : CT := .branch (risB n m f) (.leaf (.exit 0, ( out_ri2 n m a b u v f 0 (.exit 0)).getD (E_ri2 n m a b u v f))) (.leaf (.ret, ( out_ri2 n m a b u v f 0 .ret).getD (E_ri2 n m a b u v f)))
noncomputable def LS_ri2 (n m : Nat) (a b u v f : Nat → Int) : LSpec := (sumL (inv_ri2 n m a b u v f (0)) (T_ri2 n m a b u v f))
set_option maxRecDepth 100000 in
theorem ri2_ls (n m : Nat) (a b u v f : Nat → Int) (pre0 : m ≤ 100000) (pre1 : n ≤ 100000) : LSound Try.prog (.loop B_ri2) (LS_ri2 n m a b u v f) := by
  refine loop_rounds (G := [(42, S_rIn)]) (L := []) (SoundG.cons rIn_ok (SoundG.nil _)) mixed noLoops (X := Nat) (inv_ri2 n m a b u v f) (fun k => k ≤ m ∧ ∀ j, j < k → riP n f j = true) (fun k => m - k) (out_ri2 n m a b u v f) (x0 := 0) ⟨by omega, fun j h1 => by omega⟩ ?_ ?_ ?_
  · rintro k
    kernel_rfl
  · rintro k y E h
    unfold out_ri2 at h
    split at h
    · cases h; kernel_rfl
    · cases h; kernel_rfl
    · cases h
  · rintro Q hQ k hx
    refine ⟨(k + 1), ?_⟩
    have e : roundT Try.prog [(42, S_rIn)] [] B_ri2 (inv_ri2 n m a b u v f k) (inv_ri2 n m a b u v f ((k + 1))) (out_ri2 n m a b u v f k) = (Tree.branch (decide ((↑k : Int) < (↑m : Int))) (Tree.need [(0 : Int) ≤ (↑k : Int) ∧ (↑k : Int) < (↑m : Int)] (Tree.need [inI64 ((↑n : Int) - (1 : Int))] (Tree.branch (!bt (0 : Int) (f k) ((↑n : Int) - (1 : Int))) (Tree.need [(AV.lst 4 n fun k => [iI (a k), iI (b k), iI (u k), iI (v k)]) = AV.lst 4 n fun k => [iI (a k), iI (b k), iI (u k), iI (v k)], (AV.lst 1 m fun k => [iI (f k)]) = AV.lst 1 m fun k => [iI (f k)], AV.lit false = AV.lit false] (Tree.leaf AEx.ret)) (Tree.branch (decide ((↑k : Int) > (0 : Int))) (Tree.need [(0 : Int) ≤ (↑k : Int) ∧ (↑k : Int) < (↑m : Int)] (Tree.need [inI64 ((↑k : Int) - (1 : Int))] (Tree.need [(0 : Int) ≤ (↑k : Int) - (1 : Int) ∧ (↑k : Int) - (1 : Int) < (↑m : Int)] (Tree.branch (decide (f k ≤ f (Int.toNat ((↑k : Int) - (1 : Int))))) (Tree.need [(AV.lst 4 n fun k => [iI (a k), iI (b k), iI (u k), iI (v k)]) = AV.lst 4 n fun k => [iI (a k), iI (b k), iI (u k), iI (v k)], (AV.lst 1 m fun k => [iI (f k)]) = AV.lst 1 m fun k => [iI (f k)], AV.lit false = AV.lit false] (Tree.leaf AEx.ret)) (Tree.need [inI64 ((↑k : Int) + (1 : Int))] (Tree.need [(AV.lst 4 n fun k => [iI (a k), iI (b k), iI (u k), iI (v k)]) = AV.lst 4 n fun k => [iI (a k), iI (b k), iI (u k), iI (v k)], (AV.lst 1 m fun k => [iI (f k)]) = AV.lst 1 m fun k => [iI (f k)], (↑k : Int) + (1 : Int) = (↑(k + 1) : Int)] (Tree.leaf AEx.normal))))))) (Tree.need [inI64 ((↑k : Int) + (1 : Int))] (Tree.need [(AV.lst 4 n fun k => [iI (a k), iI (b k), iI (u k), iI (v k)]) = AV.lst 4 n fun k => [iI (a k), iI (b k), iI (u k), iI (v k)], (AV.lst 1 m fun k => [iI (f k)]) = AV.lst 1 m fun k => [iI (f k)], (↑k : Int) + (1 : Int) = (↑(k + 1) : Int)] (Tree.leaf AEx.normal))))))) (Tree.need [(AV.lst 4 n fun k => [iI (a k), iI (b k), iI (u k), iI (v k)]) = AV.lst 4 n fun k => [iI (a k), iI (b k), iI (u k), iI (v k)], (AV.lst 1 m fun k => [iI (f k)]) = AV.lst 1 m fun k => [iI (f k)]] (Tree.leaf (AEx.exit 0)))) := by kernel_rfl
    rw [e]
    simp only [T_ri2, out_ri2, Tree.sat, Option.getD_some] at hQ
    obtain ⟨x1, x2⟩ := hx
    have e1 : ((k : Int) - 1).toNat = k - 1 := by omega
    have hbad : k < m → riP n f k = false → risB n m f = false := by
      intro h1 h2
      rw [← Bool.not_eq_true]
      intro h3
      have := allI_iff.1 h3 k h1
      rw [h2] at this
      cases this
    have hend : ¬ k < m → risB n m f = true := fun h => allI_iff.2 fun j hj => x2 j (by omega)
    have hgood : riP n f k = true → ∀ j, j < k + 1 → riP n f j = true := by
      intro h1 j h3
      rcases (show j = k ∨ j < k by omega) with rfl | h
      · exact h1
      · exact x2 j h
    simp only [Tree.sat, allP, fitP, fitL, valEq, inI64, true_and, and_true, decide_eq_true_eq, decide_eq_false_iff_not, Int.toNat_natCast, e1, gt_iff_lt, Bool.not_eq_true', Bool.not_eq_false']
    clear e
    refine ⟨fun h => ⟨by omega, by omega, fun h2 => ?_, fun h2 => ⟨fun h3 => ⟨by omega, by omega, by omega, fun h4 => ?_, fun h4 => ?_⟩, fun h3 => ?_⟩⟩, fun h => ?_⟩
    · intro E hE
      cases hE
      exact hQ.2 (hbad (by omega) (by simp [riP, h2]))
    · intro E hE
      cases hE
      exact hQ.2 (hbad (by omega) (by
        have g1 : ¬ k = 0 := by omega
        have g2 : ¬ f (k - 1) < f k := by omega
        simp [riP, g1, g2]))
    · exact ⟨by omega, by omega, ⟨by omega, hgood (by
        have g2 : f (k - 1) < f k := by omega
        simp [riP, h2, g2])⟩, by omega⟩
    · have g1 : k = 0 := by omega
      subst g1
      exact ⟨by omega, by omega, ⟨by omega, hgood (by simp [riP, h2])⟩, by omega⟩
    · intro E hE
      cases hE
      exact hQ.1 (hend (by omega))

set_option maxRecDepth 100000 in
theorem rRising_at (n m : Nat) (a b u v f : Nat → Int) (pre0 : m ≤ 100000) (pre1 : n ≤ 100000) : SoundAt Try.prog 60 [rds n a b u v, .lst 1 m (fun k => [i (f k)])] (bl (risB n m f)) := by
  refine soundAt_fin (G := [(42, S_rIn)]) (L := [LS_ri2 n m a b u v f]) (SoundG.cons rIn_ok (SoundG.nil _)) mixed Try.func60 (show Try.f60.body = some (bodyOf Try.f60) by kernel_rfl) (one_loop (fun cj hcj => by
    have e : loopAt (bodyOf Try.f60) 0 = some (.loop B_ri2) := by kernel_rfl
    rw [e] at hcj; cases hcj
    exact ri2_ls n m a b u v f pre0 pre1)) (t := (Tree.need [(AV.lst 4 n fun k => [iI (a k), iI (b k), iI (u k), iI (v k)]) = AV.lst 4 n fun k => [iI (a k), iI (b k), iI (u k), iI (v k)], (AV.lst 1 m fun k => [iI (f k)]) = AV.lst 1 m fun k => [iI (f k)], (0 : Int) = (↑(0 : Nat) : Int)] (Tree.branch (risB n m f) (Tree.leaf (RV.x (Value.bool true))) (Tree.leaf (RV.x (Value.bool false)))))) (by kernel_rfl) ?_
  simp only [Tree.sat, allP, fitP, fitL, valEq, inI64, true_and, and_true]
  refine ⟨rfl, fun h => ?_, fun h => ?_⟩
  · rw [h]
  · rw [h]

def S_rRising : Sx.Spec := fun l => match l with
  | [.lst 4 n f, .lst 1 m g] => some ([isRec 4 n f, isRec 1 m g, m ≤ 100000, n ≤ 100000], bl (risB n m (col 0 g)))
  | _ => none

theorem rRising_ok : SoundSpec Try.prog 60 S_rRising := by
  refine ⟨⟨_, Try.func60, by kernel_rfl, by kernel_rfl⟩, ?_⟩
  intro avs ns res h hn
  unfold S_rRising at h
  split at h
  · rename_i n f m g
    cases h
    have hr0 : isRec 4 n f := hn _ (by simp)
    have hr1 : isRec 1 m g := hn _ (by simp)
    exact (rRising_at n m (col 0 f) (col 1 f) (col 2 f) (col 3 f) (col 0 g) (hn _ (by simp)) (hn _ (by simp))).same (.cons (.lst 4 n _ _ hr0) (.cons (.lst 1 m _ _ hr1) .nil))
  · cases h

noncomputable def E_sm (n m : Nat) (a b u v g : Nat → Int) (o : Bool) : St := (some
  {
    σ :=
      [AV.lst (4 : Nat) n fun k =>
          [AV.x (Value.int IntKind.i64 (a k)), AV.x (Value.int IntKind.i64 (b k)), AV.x (Value.int IntKind.i64 (u k)),
            AV.x (Value.int IntKind.i64 (v k))],
        AV.lst (1 : Nat) m fun j => [AV.x (Value.int IntKind.i64 (g j))], AV.lit o, AV.top, AV.top, AV.top,
        AV.x (Value.slice none (0 : Nat) (0 : Nat)), AV.top, AV.top, AV.top, AV.top, AV.top, AV.top, AV.top, AV.top,
        AV.top, AV.top, AV.top, AV.top, AV.top, AV.top, AV.top, AV.top, AV.top, AV.top, AV.top, AV.top, AV.top, AV.top,
        AV.top, AV.top, AV.top, AV.top, AV.top, AV.top, AV.top, AV.top, AV.top, AV.top, AV.top, AV.top, AV.top, AV.top],
    m := [((900 : Nat), Res.row (47 : Nat) (4 : Nat) (0 : Nat) fun x => [])], nx := (901 : Nat) } : Option St).getD { σ := [], m := [], nx := 0 }
noncomputable def B_sm : Code := loopBody (loopAt (bodyOf Try.f58) 0)
noncomputable def inv_sm (n m : Nat) (a b u v g : Nat → Int) (o : Bool) (k : Nat) : St := { σ := ovrS [(7, .row 900), (8, i k)] (E_sm n m a b u v g o).σ, m := [(900, .row 47 4 (soL m g o k).length (fun j => [i (selF a (nthJ (soL m g o k)) j), i (selF b (nthJ (soL m g o k)) j), i (selF u (nthJ (soL m g o k)) j), i (selF v (nthJ (soL m g o k)) j)]))], nx := (E_sm n m a b u v g o).nx }
noncomputable def out_sm (n m : Nat) (a b u v g : Nat → Int) (o : Bool) (k : Nat) : AEx → Option St := fun ex => match ex with
  | .exit 0 => some { σ := ovrS [(7, .row 900)] (E_sm n m a b u v g o).σ, m := [(900, .row 47 4 (soL m g o n).length (fun j => [i (selF a (nthJ (soL m g o n)) j), i (selF b (nthJ (soL m g o n)) j), i (selF u (nthJ (soL m g o n)) j), i (selF v (nthJ (soL m g o n)) j)]))], nx := (E_sm n m a b u v g o).nx }
  | _ => none
noncomputable def T_sm (n m : Nat) (a b u v g : Nat → Int) (o : Bool) : CT := .leaf (.exit 0, ( out_sm n m a b u v g o 0 (.exit 0)).getD (E_sm n m a b u v g o))
noncomputable def LS_sm (n m : Nat) (a b u v g : Nat → Int) (o : Bool) : LSpec := normSp [(.slot 7, 900, 47, 4)] (sumL (inv_sm n m a b u v g o (0)) (T_sm n m a b u v g o))
noncomputable def E_sj (n m : Nat) (a b u v g : Nat → Int) (o : Bool) (k : Nat) : St := (some
  {
    σ :=
      [AV.lst (4 : Nat) n fun k =>
          [AV.x (Value.int IntKind.i64 (a k)), AV.x (Value.int IntKind.i64 (b k)), AV.x (Value.int IntKind.i64 (u k)),
            AV.x (Value.int IntKind.i64 (v k))],
        AV.lst (1 : Nat) m fun j => [AV.x (Value.int IntKind.i64 (g j))], AV.lit o, AV.top, AV.top, AV.top,
        AV.x (Value.slice none (0 : Nat) (0 : Nat)), AV.row (900 : Nat), AV.x (Value.int IntKind.i64 (↑k : Int)),
        AV.top, AV.top, AV.top, AV.top, AV.top, AV.top, AV.top, AV.top, AV.top, AV.top, AV.top, AV.top, AV.top, AV.top,
        AV.top, AV.top, AV.top, AV.top, AV.top, AV.top, AV.top, AV.top, AV.top, AV.top, AV.top, AV.top, AV.top, AV.top,
        AV.top, AV.top, AV.top, AV.top, AV.top, AV.top],
    m :=
      [((900 : Nat),
          Res.row (47 : Nat) (4 : Nat) (List.length (soL m g o k)) fun j =>
            [AV.x (Value.int IntKind.i64 (selF a (nthJ (soL m g o k)) j)),
              AV.x (Value.int IntKind.i64 (selF b (nthJ (soL m g o k)) j)),
              AV.x (Value.int IntKind.i64 (selF u (nthJ (soL m g o k)) j)),
              AV.x (Value.int IntKind.i64 (selF v (nthJ (soL m g o k)) j))])],
    nx := (907 : Nat) } : Option St).getD { σ := [], m := [], nx := 0 }
noncomputable def B_sj : Code := (loopBody (loopAt (loopBody (loopAt (bodyOf Try.f58) 0)) 0))
noncomputable def inv_sj (n m : Nat) (a b u v g : Nat → Int) (o : Bool) (k : Nat) (j : Nat) : St := { σ := ovrS [(9, bl (memB j g k)), (10, i j)] (E_sj n m a b u v g o k).σ, m := [(900, .row 47 4 (soL m g o k).length (fun j => [i (selF a (nthJ (soL m g o k)) j), i (selF b (nthJ (soL m g o k)) j), i (selF u (nthJ (soL m g o k)) j), i (selF v (nthJ (soL m g o k)) j)]))], nx := (E_sj n m a b u v g o k).nx }
noncomputable def out_sj (n m : Nat) (a b u v g : Nat → Int) (o : Bool) (k : Nat) (j : Nat) : AEx → Option St := fun ex => match ex with
  | .exit 2 => some { σ := ovrS [(9, bl (memB m g k))] (E_sj n m a b u v g o k).σ, m := [(900, .row 47 4 (soL m g o k).length (fun j => [i (selF a (nthJ (soL m g o k)) j), i (selF b (nthJ (soL m g o k)) j), i (selF u (nthJ (soL m g o k)) j), i (selF v (nthJ (soL m g o k)) j)]))], nx := (E_sj n m a b u v g o k).nx }
  | _ => none
noncomputable def T_sj (n m : Nat) (a b u v g : Nat → Int) (o : Bool) (k : Nat) : CT := .leaf (.exit 2, ( out_sj n m a b u v g o k 0 (.exit 2)).getD (E_sj n m a b u v g o k))
noncomputable def LS_sj (n m : Nat) (a b u v g : Nat → Int) (o : Bool) (k : Nat) : LSpec := normSp [] (sumL (inv_sj n m a b u v g o k (0)) (T_sj n m a b u v g o k))
set_option maxRecDepth 100000 in
theorem sj_ls (n m : Nat) (a b u v g : Nat → Int) (o : Bool) (k : Nat) (pre0 : m ≤ 100000) (pre1 : n ≤ 100000) : LSound Try.prog (.loop B_sj) (LS_sj n m a b u v g o k) := by
  refine loop_roundsX [] (E := { R := [], H := [] }) (G := []) (L := []) (SoundG.nil _) (SoundX.of (SoundRL.nil _) (SoundHL.nil _)) mixed noLoops (X := Nat) (inv_sj n m a b u v g o k) (fun j => j ≤ m) (fun j => m - j) (out_sj n m a b u v g o k) (x0 := 0) (by simp) ?_ ?_ ?_
  · rintro j
    kernel_rfl
  · rintro j y E h
    unfold out_sj at h
    split at h
    · cases h; kernel_rfl
    · cases h
  · rintro Q hQ j hx
    refine ⟨(j + 1), ?_⟩
    have e : roundX Try.prog [] { R := [], H := [] } [] [] B_sj (inv_sj n m a b u v g o k j) (inv_sj n m a b u v g o k ((j + 1))) (out_sj n m a b u v g o k j) = (Tree.branch (decide ((↑j : Int) < (↑m : Int))) (Tree.branch (memB j g k) (Tree.need [inI64 ((↑j : Int) + (1 : Int))] (Tree.need [(AV.lst 4 n fun k => [iI (a k), iI (b k), iI (u k), iI (v k)]) = AV.lst 4 n fun k => [iI (a k), iI (b k), iI (u k), iI (v k)], (AV.lst 1 m fun j => [iI (g j)]) = AV.lst 1 m fun j => [iI (g j)], AV.lit o = AV.lit o, AV.x (Value.slice none 0 0) = AV.x (Value.slice none 0 0), AV.row 900 = AV.row 900, (↑k : Int) = (↑k : Int), true = memB (j + 1) g k, (↑j : Int) + (1 : Int) = (↑(j + 1) : Int), List.length (soL m g o k) = List.length (soL m g o k), ∀ (i : Nat), i < List.length (soL m g o k) → [Ytmdeoobmeokmeaa.i (selF a (nthJ (soL m g o k)) i), Ytmdeoobmeokmeaa.i (selF b (nthJ (soL m g o k)) i), Ytmdeoobmeokmeaa.i (selF u (nthJ (soL m g o k)) i), Ytmdeoobmeokmeaa.i (selF v (nthJ (soL m g o k)) i)] = [Ytmdeoobmeokmeaa.i (selF a (nthJ (soL m g o k)) i), Ytmdeoobmeokmeaa.i (selF b (nthJ (soL m g o k)) i), Ytmdeoobmeokmeaa.i (selF u (nthJ (soL m g o k)) i), Ytmdeoobmeokmeaa.i (selF v (nthJ (soL m g o k)) i)]] (Tree.leaf AEx.normal))) (Tree.need [(0 : Int) ≤ (↑j : Int) ∧ (↑j : Int) < (↑m : Int)] (Tree.need [inI64 ((↑j : Int) + (1 : Int))] (Tree.need [(AV.lst 4 n fun k => [iI (a k), iI (b k), iI (u k), iI (v k)]) = AV.lst 4 n fun k => [iI (a k), iI (b k), iI (u k), iI (v k)], (AV.lst 1 m fun j => [iI (g j)]) = AV.lst 1 m fun j => [iI (g j)], AV.lit o = AV.lit o, AV.x (Value.slice none 0 0) = AV.x (Value.slice none 0 0), AV.row 900 = AV.row 900, (↑k : Int) = (↑k : Int), (g j == (↑k : Int)) = memB (j + 1) g k, (↑j : Int) + (1 : Int) = (↑(j + 1) : Int), List.length (soL m g o k) = List.length (soL m g o k), ∀ (i : Nat), i < List.length (soL m g o k) → [Ytmdeoobmeokmeaa.i (selF a (nthJ (soL m g o k)) i), Ytmdeoobmeokmeaa.i (selF b (nthJ (soL m g o k)) i), Ytmdeoobmeokmeaa.i (selF u (nthJ (soL m g o k)) i), Ytmdeoobmeokmeaa.i (selF v (nthJ (soL m g o k)) i)] = [Ytmdeoobmeokmeaa.i (selF a (nthJ (soL m g o k)) i), Ytmdeoobmeokmeaa.i (selF b (nthJ (soL m g o k)) i), Ytmdeoobmeokmeaa.i (selF u (nthJ (soL m g o k)) i), Ytmdeoobmeokmeaa.i (selF v (nthJ (soL m g o k)) i)]] (Tree.leaf AEx.normal))))) (Tree.need [(AV.lst 4 n fun k => [iI (a k), iI (b k), iI (u k), iI (v k)]) = AV.lst 4 n fun k => [iI (a k), iI (b k), iI (u k), iI (v k)], (AV.lst 1 m fun j => [iI (g j)]) = AV.lst 1 m fun j => [iI (g j)], AV.lit o = AV.lit o, AV.x (Value.slice none 0 0) = AV.x (Value.slice none 0 0), AV.row 900 = AV.row 900, (↑k : Int) = (↑k : Int), memB j g k = memB m g k, List.length (soL m g o k) = List.length (soL m g o k), ∀ (i : Nat), i < List.length (soL m g o k) → [Ytmdeoobmeokmeaa.i (selF a (nthJ (soL m g o k)) i), Ytmdeoobmeokmeaa.i (selF b (nthJ (soL m g o k)) i), Ytmdeoobmeokmeaa.i (selF u (nthJ (soL m g o k)) i), Ytmdeoobmeokmeaa.i (selF v (nthJ (soL m g o k)) i)] = [Ytmdeoobmeokmeaa.i (selF a (nthJ (soL m g o k)) i), Ytmdeoobmeokmeaa.i (selF b (nthJ (soL m g o k)) i), Ytmdeoobmeokmeaa.i (selF u (nthJ (soL m g o k)) i), Ytmdeoobmeokmeaa.i (selF v (nthJ (soL m g o k)) i)]] (Tree.leaf (AEx.exit 2)))) := by kernel_rfl
    rw [e]
    simp only [T_sj, out_sj, Tree.sat, Option.getD_some] at hQ
    have ms := memB_succ j g k
    simp only [Tree.sat, allP, fitP, fitL, valEq, inI64, true_and, and_true, decide_eq_true_eq, decide_eq_false_iff_not, Int.toNat_natCast]
    clear e
    refine ⟨fun h => ⟨fun h2 => ?_, fun h2 => ?_⟩, fun h => ?_⟩
    · rw [ms, h2, Bool.true_or]
      (repeat' first | with_reducible apply And.intro | with_reducible intro _)
      all_goals first | exact True.intro | omega | with_reducible rfl | rfl
    · rw [ms, h2, Bool.false_or]
      (repeat' first | with_reducible apply And.intro | with_reducible intro _)
      all_goals first | exact True.intro | omega | with_reducible rfl | rfl
    · obtain rfl : j = m := by omega
      (repeat' first | with_reducible apply And.intro | with_reducible intro _)
      all_goals first | exact True.intro | omega | with_reducible rfl | (rename_i E hE; cases hE; exact hQ) | rfl


theorem catS {S : List Int} {a b u v : Nat → Int} {x : Nat} {j : Nat} (h : j < S.length + 1) : catF S.length (fun j => [i (selF a (nthJ S) j), i (selF b (nthJ S) j), i (selF u (nthJ S) j), i (selF v (nthJ S) j)]) (chunk 4 [i (a x), i (b x), i (u x), i (v x)]) j = [i (selF a (nthJ (S ++ [(x : Int)])) j), i (selF b (nthJ (S ++ [(x : Int)])) j), i (selF u (nthJ (S ++ [(x : Int)])) j), i (selF v (nthJ (S ++ [(x : Int)])) j)] := by
  unfold selF
  rw [nthJ_app]
  show mergeL (decide (j < S.length)) _ (chunk 4 [i (a x), i (b x), i (u x), i (v x)] (j - S.length)) = _
  rw [show j - S.length = 0 by omega]
  by_cases hj : j < S.length
  · rw [decide_eq_true hj, if_pos hj]; rfl
  · rw [decide_eq_false hj, if_neg hj, show nthJ [(x : Int)] 0 = x from rfl, Int.toNat_natCast]; rfl

set_option maxRecDepth 100000 in
theorem sm_ls (n m : Nat) (a b u v g : Nat → Int) (o : Bool) (pre0 : m ≤ 100000) (pre1 : n ≤ 100000) : LSound Try.prog (.loop B_sm) (LS_sm n m a b u v g o) := by
  refine loop_roundsX [(.slot 7, 900, 47, 4)] (E := { R := [], H := [] }) (G := []) (L := [depSp 8 (fun k => LS_sj n m a b u v g o k)]) (SoundG.nil _) (SoundX.of (SoundRL.nil _) (SoundHL.nil _)) mixed (one_loop (fun cj hcj => by
    have e : loopAt B_sm 0 = some (.loop B_sj) := by kernel_rfl
    rw [e] at hcj; cases hcj
    exact depSp_sound (fun k => sj_ls n m a b u v g o k pre0 pre1))) (X := Nat) (inv_sm n m a b u v g o) (fun k => k ≤ n) (fun k => n - k) (out_sm n m a b u v g o) (x0 := 0) (by simp) ?_ ?_ ?_
  · rintro k
    kernel_rfl
  · rintro k y E h
    unfold out_sm at h
    split at h
    · cases h; kernel_rfl
    · cases h
  · rintro Q hQ k hx
    refine ⟨(k + 1), ?_⟩
    have e : roundX Try.prog [] { R := [], H := [] } [depSp 8 (fun k => LS_sj n m a b u v g o k)] [(.slot 7, 900, 47, 4)] B_sm (inv_sm n m a b u v g o k) (inv_sm n m a b u v g o ((k + 1))) (out_sm n m a b u v g o k) = (Tree.branch (decide ((↑k : Int) < (↑n : Int))) (Tree.need [(AV.lst 4 n fun k => [iI (a k), iI (b k), iI (u k), iI (v k)]) = AV.lst 4 n fun k => [iI (a k), iI (b k), iI (u k), iI (v k)], (AV.lst 1 m fun j => [iI (g j)]) = AV.lst 1 m fun j => [iI (g j)], AV.lit o = AV.lit o, AV.x (Value.slice none 0 0) = AV.x (Value.slice none 0 0), AV.row 900 = AV.row 900, (↑k : Int) = (↑k : Int), false = memB 0 g k, (0 : Int) = (↑(0 : Nat) : Int), List.length (soL m g o k) = List.length (soL m g o k), ∀ (i : Nat), i < List.length (soL m g o k) → [Ytmdeoobmeokmeaa.i (selF a (nthJ (soL m g o k)) i), Ytmdeoobmeokmeaa.i (selF b (nthJ (soL m g o k)) i), Ytmdeoobmeokmeaa.i (selF u (nthJ (soL m g o k)) i), Ytmdeoobmeokmeaa.i (selF v (nthJ (soL m g o k)) i)] = [Ytmdeoobmeokmeaa.i (selF a (nthJ (soL m g o k)) i), Ytmdeoobmeokmeaa.i (selF b (nthJ (soL m g o k)) i), Ytmdeoobmeokmeaa.i (selF u (nthJ (soL m g o k)) i), Ytmdeoobmeokmeaa.i (selF v (nthJ (soL m g o k)) i)]] (Tree.branch (!memB m g k == o) (Tree.need [(0 : Int) ≤ (↑k : Int) ∧ (↑k : Int) < (↑n : Int)] (Tree.need [(List.length (soL m g o k) + 1) * 32 ≤ 140737488355328, ∀ (i : Nat), i < 1 → ∀ (a_2 : AV), a_2 ∈ chunk 4 [iI (a k), iI (b k), iI (u k), iI (v k)] i → AV.one a_2 = true] (Tree.need [inI64 ((↑k : Int) + (1 : Int))] (Tree.need [(AV.lst 4 n fun k => [iI (a k), iI (b k), iI (u k), iI (v k)]) = AV.lst 4 n fun k => [iI (a k), iI (b k), iI (u k), iI (v k)], (AV.lst 1 m fun j => [iI (g j)]) = AV.lst 1 m fun j => [iI (g j)], AV.lit o = AV.lit o, AV.x (Value.slice none 0 0) = AV.x (Value.slice none 0 0), AV.row 900 = AV.row 900, (↑k : Int) + (1 : Int) = (↑(k + 1) : Int), List.length (soL m g o k) + 1 = List.length (soL m g o (k + 1)), ∀ (i : Nat), i < List.length (soL m g o (k + 1)) → catF (List.length (soL m g o k)) (fun j => [Ytmdeoobmeokmeaa.i (selF a (nthJ (soL m g o k)) j), Ytmdeoobmeokmeaa.i (selF b (nthJ (soL m g o k)) j), Ytmdeoobmeokmeaa.i (selF u (nthJ (soL m g o k)) j), Ytmdeoobmeokmeaa.i (selF v (nthJ (soL m g o k)) j)]) (chunk 4 [iI (a k), iI (b k), iI (u k), iI (v k)]) i = [Ytmdeoobmeokmeaa.i (selF a (nthJ (soL m g o (k + 1))) i), Ytmdeoobmeokmeaa.i (selF b (nthJ (soL m g o (k + 1))) i), Ytmdeoobmeokmeaa.i (selF u (nthJ (soL m g o (k + 1))) i), Ytmdeoobmeokmeaa.i (selF v (nthJ (soL m g o (k + 1))) i)]] (Tree.leaf AEx.normal))))) (Tree.need [inI64 ((↑k : Int) + (1 : Int))] (Tree.need [(AV.lst 4 n fun k => [iI (a k), iI (b k), iI (u k), iI (v k)]) = AV.lst 4 n fun k => [iI (a k), iI (b k), iI (u k), iI (v k)], (AV.lst 1 m fun j => [iI (g j)]) = AV.lst 1 m fun j => [iI (g j)], AV.lit o = AV.lit o, AV.x (Value.slice none 0 0) = AV.x (Value.slice none 0 0), AV.row 900 = AV.row 900, (↑k : Int) + (1 : Int) = (↑(k + 1) : Int), List.length (soL m g o k) = List.length (soL m g o (k + 1)), ∀ (i : Nat), i < List.length (soL m g o (k + 1)) → [Ytmdeoobmeokmeaa.i (selF a (nthJ (soL m g o k)) i), Ytmdeoobmeokmeaa.i (selF b (nthJ (soL m g o k)) i), Ytmdeoobmeokmeaa.i (selF u (nthJ (soL m g o k)) i), Ytmdeoobmeokmeaa.i (selF v (nthJ (soL m g o k)) i)] = [Ytmdeoobmeokmeaa.i (selF a (nthJ (soL m g o (k + 1))) i), Ytmdeoobmeokmeaa.i (selF b (nthJ (soL m g o (k + 1))) i), Ytmdeoobmeokmeaa.i (selF u (nthJ (soL m g o (k + 1))) i), Ytmdeoobmeokmeaa.i (selF v (nthJ (soL m g o (k + 1))) i)]] (Tree.leaf AEx.normal))))) (Tree.need [(AV.lst 4 n fun k => [iI (a k), iI (b k), iI (u k), iI (v k)]) = AV.lst 4 n fun k => [iI (a k), iI (b k), iI (u k), iI (v k)], (AV.lst 1 m fun j => [iI (g j)]) = AV.lst 1 m fun j => [iI (g j)], AV.lit o = AV.lit o, AV.x (Value.slice none 0 0) = AV.x (Value.slice none 0 0), AV.row 900 = AV.row 900, List.length (soL m g o k) = List.length (soL m g o n), ∀ (i : Nat), i < List.length (soL m g o n) → [Ytmdeoobmeokmeaa.i (selF a (nthJ (soL m g o k)) i), Ytmdeoobmeokmeaa.i (selF b (nthJ (soL m g o k)) i), Ytmdeoobmeokmeaa.i (selF u (nthJ (soL m g o k)) i), Ytmdeoobmeokmeaa.i (selF v (nthJ (soL m g o k)) i)] = [Ytmdeoobmeokmeaa.i (selF a (nthJ (soL m g o n)) i), Ytmdeoobmeokmeaa.i (selF b (nthJ (soL m g o n)) i), Ytmdeoobmeokmeaa.i (selF u (nthJ (soL m g o n)) i), Ytmdeoobmeokmeaa.i (selF v (nthJ (soL m g o n)) i)]] (Tree.leaf (AEx.exit 0)))) := by kernel_rfl
    rw [e]
    simp only [T_sm, out_sm, Tree.sat, Option.getD_some] at hQ
    have hs : soL m g o (k + 1) = if memB m g k != o then soL m g o k ++ [(k : Int)] else soL m g o k := rfl
    have hl := soL_len m g o k
    simp only [Tree.sat, allP, fitP, fitL, valEq, inI64, true_and, and_true, decide_eq_true_eq, decide_eq_false_iff_not, Int.toNat_natCast]
    clear e
    refine ⟨fun h => ?_, fun h => ?_⟩
    · refine ⟨⟨rfl, rfl, fun _ _ => True.intro⟩, fun h2 => ?_, fun h2 => ?_⟩
      · have h2' : (memB m g k != o) = true := by simpa using h2
        rw [if_pos h2'] at hs
        rw [hs, List.length_append]
        (repeat' first | with_reducible apply And.intro | with_reducible intro _)
        all_goals first | exact True.intro | omega | with_reducible rfl | exact one_of (by assumption) (by simp [AV.one, Value.oneCell']) | exact catS (by assumption) | rfl
      · have h2' : ¬ (memB m g k != o) = true := by simpa using h2
        rw [if_neg h2'] at hs
        rw [hs]
        (repeat' first | with_reducible apply And.intro | with_reducible intro _)
        all_goals first | exact True.intro | omega | with_reducible rfl | rfl
    · obtain rfl : k = n := by omega
      (repeat' first | with_reducible apply And.intro | with_reducible intro _)
      all_goals first | exact True.intro | omega | with_reducible rfl | (rename_i E hE; cases hE; exact hQ) | rfl

set_option maxRecDepth 100000 in
theorem rSome_at (n m : Nat) (a b u v g : Nat → Int) (o : Bool) (pre0 : m ≤ 100000) (pre1 : n ≤ 100000) : SoundAt Try.prog 58 [rds n a b u v, .lst 1 m (fun j => [i (g j)]), .lit o] (rds (soL m g o n).length (selF a (nthJ (soL m g o n))) (selF b (nthJ (soL m g o n))) (selF u (nthJ (soL m g o n))) (selF v (nthJ (soL m g o n)))) := by
  refine soundAt_finX (G := []) (X := { R := [], H := [] }) (L := [LS_sm n m a b u v g o]) (SoundG.nil _) (SoundX.of (SoundRL.nil _) (SoundHL.nil _)) mixed Try.func58 (show Try.f58.body = some (bodyOf Try.f58) by kernel_rfl) (one_loop (fun cj hcj => by
    have e : loopAt (bodyOf Try.f58) 0 = some (.loop B_sm) := by kernel_rfl
    rw [e] at hcj; cases hcj
    exact (sm_ls n m a b u v g o pre0 pre1).N)) (t := (Tree.need [(AV.lst 4 n fun k => [iI (a k), iI (b k), iI (u k), iI (v k)]) = AV.lst 4 n fun k => [iI (a k), iI (b k), iI (u k), iI (v k)], (AV.lst 1 m fun j => [iI (g j)]) = AV.lst 1 m fun j => [iI (g j)], AV.lit o = AV.lit o, AV.x (Value.slice none 0 0) = AV.x (Value.slice none 0 0), AV.row 900 = AV.row 900, (0 : Int) = (↑(0 : Nat) : Int), 0 = List.length (soL m g o 0), ∀ (i : Nat), i < List.length (soL m g o 0) → [] = [Ytmdeoobmeokmeaa.i (selF a (nthJ (soL m g o 0)) i), Ytmdeoobmeokmeaa.i (selF b (nthJ (soL m g o 0)) i), Ytmdeoobmeokmeaa.i (selF u (nthJ (soL m g o 0)) i), Ytmdeoobmeokmeaa.i (selF v (nthJ (soL m g o 0)) i)]] (Tree.leaf (RV.lst 4 (List.length (soL m g o n)) fun j => [iI (selF a (nthJ (soL m g o n)) j), iI (selF b (nthJ (soL m g o n)) j), iI (selF u (nthJ (soL m g o n)) j), iI (selF v (nthJ (soL m g o n)) j)])))) (by kernel_rfl) ?_
  simp only [Tree.sat, allP, fitP, fitL, valEq, inI64, true_and, and_true]
  (repeat' first | with_reducible apply And.intro | with_reducible intro _)
  all_goals first | exact True.intro | omega | with_reducible rfl | rfl | (rename_i hm; simp only [List.mem_cons, List.not_mem_nil, or_false] at hm; rcases hm with rfl | rfl | rfl | rfl <;> exact True.intro) | (rename_i h; exact absurd h (Nat.not_lt_zero _))


def S_rSome : Sx.Spec := fun l => match l with
  | [.lst 4 n f, .lst 1 m g, .lit o] => some ([isRec 4 n f, isRec 1 m g, m ≤ 100000, n ≤ 100000], rds (soL m (col 0 g) o n).length (selF (col 0 f) (nthJ (soL m (col 0 g) o n))) (selF (col 1 f) (nthJ (soL m (col 0 g) o n))) (selF (col 2 f) (nthJ (soL m (col 0 g) o n))) (selF (col 3 f) (nthJ (soL m (col 0 g) o n))))
  | _ => none


theorem rSome_ok : SoundSpec Try.prog 58 S_rSome := by
  refine ⟨⟨_, Try.func58, by kernel_rfl, by kernel_rfl⟩, ?_⟩
  intro avs ns res h hn
  unfold S_rSome at h
  split at h
  · rename_i n f m g o
    cases h
    have hr : isRec 4 n f := hn _ (by simp)
    have hg : isRec 1 m g := hn _ (by simp)
    exact (rSome_at n m (col 0 f) (col 1 f) (col 2 f) (col 3 f) (col 0 g) o (hn _ (by simp)) (hn _ (by simp))).same (.cons (.lst 4 n _ _ hr) (.cons (.lst 1 m _ _ hg) (.cons (.refl _) .nil)))
  · cases h


theorem memB_congr {m : Nat} {g g' : Nat → Int} {k : Nat} (h : ∀ j, j < m → g j = g' j) : memB m g k = memB m g' k := by
  rw [Bool.eq_iff_iff, memB_iff, memB_iff]
  constructor
  · rintro ⟨j, hj, he⟩
    exact ⟨j, hj, by rw [← h j hj]; exact he⟩
  · rintro ⟨j, hj, he⟩
    exact ⟨j, hj, by rw [h j hj]; exact he⟩
theorem soL_congr {m : Nat} {g g' : Nat → Int} {o : Bool} (h : ∀ j, j < m → g j = g' j) : ∀ n, soL m g o n = soL m g' o n
  | 0 => rfl
  | n + 1 => by
    unfold soL
    rw [memB_congr h, soL_congr h n]
theorem ik_list {m k : Nat} (g : Nat → Int) (hk : k < m) : isRec 1 (0 + (k - Int.toNat 0) + (m - ((k : Int) + 1).toNat)) (catF (0 + (k - Int.toNat 0)) (catF 0 (fun _ => []) fun i => [iI (g (Int.toNat 0 + i))]) fun i => [iI (g (((k : Int) + 1).toNat + i))]) ∧ 0 + (k - Int.toNat 0) + (m - ((k : Int) + 1).toNat) = m - 1 ∧
    ∀ n, soL (0 + (k - Int.toNat 0) + (m - ((k : Int) + 1).toNat)) (col 0 (catF (0 + (k - Int.toNat 0)) (catF 0 (fun _ => []) fun i => [iI (g (Int.toNat 0 + i))]) fun i => [iI (g (((k : Int) + 1).toNat + i))])) false n = soL (m - 1) (butF k g) false n := by
  have e0 : Int.toNat 0 = 0 := rfl
  have e1 : ((k : Int) + 1).toNat = k + 1 := by omega
  have e2 : 0 + (k - Int.toNat 0) + (m - ((k : Int) + 1).toNat) = m - 1 := by omega
  have hc : ∀ j, j < m - 1 → catF (0 + (k - Int.toNat 0)) (catF 0 (fun _ => []) fun i => [iI (g (Int.toNat 0 + i))]) (fun i => [iI (g (((k : Int) + 1).toNat + i))]) j = [iI (butF k g j)] := by
    intro j hj
    have h0 : catF 0 (fun _ => []) (fun i => [iI (g (Int.toNat 0 + i))]) j = [iI (g (0 + j))] := by
      show mergeL (decide (j < 0)) [] [iI (g (Int.toNat 0 + (j - 0)))] = _
      rw [show decide (j < 0) = false by simp]
      rfl
    show mergeL (decide (j < 0 + (k - Int.toNat 0))) (catF 0 (fun _ => []) (fun i => [iI (g (Int.toNat 0 + i))]) j) [iI (g (((k : Int) + 1).toNat + (j - (0 + (k - Int.toNat 0)))))] = _
    rw [h0]
    unfold butF
    by_cases h : j < k
    · rw [if_pos h, decide_eq_true (by omega), show 0 + j = j by omega]; rfl
    · rw [if_neg h, decide_eq_false (by omega), show ((k : Int) + 1).toNat + (j - (0 + (k - Int.toNat 0))) = k + 1 + (j - k) by omega]; rfl
  refine ⟨fun j hj => ?_, e2, fun n => ?_⟩
  · rw [hc j (by omega)]; rfl
  · rw [e2]
    refine soL_congr (fun j hj => ?_) n
    unfold col
    rw [hc j hj]
    rfl


/-- The truths of the readings of a list; whether it is a knot. -/
def tsL (c T lo hi : Int) (a b u v : Nat → Int) (L : List (List Int)) (S : List Int) : List (List Int) := L.filter (itW c T lo hi S.length (selF a (nthJ S)) (selF b (nthJ S)) (selF u (nthJ S)) (selF v (nthJ S)))
def ikP (c T lo hi : Int) (n : Nat) (a b u v : Nat → Int) (L : List (List Int)) (m : Nat) (g : Nat → Int) (k : Nat) : Bool := !decide ((tsL c T lo hi a b u v L (soL (m - 1) (butF k g) false n)).length = 0)
def ikL (c T lo hi : Int) (n : Nat) (a b u v : Nat → Int) (L : List (List Int)) (m : Nat) (g : Nat → Int) : Bool := risB n m g && decide ((tsL c T lo hi a b u v L (soL m g false n)).length = 0) && allI (ikP c T lo hi n a b u v L m g) m

noncomputable def E_ik (c T lo hi : Int) (n : Nat) (a b u v : Nat → Int) (L : List (List Int)) (m : Nat) (g : Nat → Int) : St := (some
  {
    σ :=
      [AV.agg
          [AV.x (Value.int IntKind.i64 c), AV.x (Value.int IntKind.i64 T), AV.x (Value.int IntKind.i64 lo),
            AV.x (Value.int IntKind.i64 hi)],
        AV.lst (1 : Nat) (List.length L) fun k =>
          [AV.lst (1 : Nat) (List.length (nL L k)) fun k_1 => [AV.x (Value.int IntKind.i64 (nthJ (nL L k) k_1))]],
        AV.lst (4 : Nat) n fun k =>
          [AV.x (Value.int IntKind.i64 (a k)), AV.x (Value.int IntKind.i64 (b k)), AV.x (Value.int IntKind.i64 (u k)),
            AV.x (Value.int IntKind.i64 (v k))],
        AV.lst (1 : Nat) m fun j => [AV.x (Value.int IntKind.i64 (g j))], AV.ptr (0 : Nat) (0 : Nat), AV.top, AV.top,
        AV.top, AV.top, AV.top, AV.top, AV.top, AV.top, AV.top, AV.top, AV.top, AV.top, AV.top, AV.top, AV.top, AV.top,
        AV.top, AV.top, AV.top, AV.top, AV.top, AV.top, AV.top, AV.top, AV.top, AV.top, AV.top, AV.top, AV.top, AV.top,
        AV.top, AV.top, AV.top, AV.top, AV.top, AV.top, AV.top, AV.top, AV.top, AV.top, AV.top, AV.top, AV.top, AV.top],
    m :=
      [((0 : Nat),
          Res.cells (25 : Nat)
            [AV.x (Value.int IntKind.i64 c), AV.x (Value.int IntKind.i64 T), AV.x (Value.int IntKind.i64 lo),
              AV.x (Value.int IntKind.i64 hi)])],
    nx := (17 : Nat) } : Option St).getD { σ := [], m := [], nx := 0 }
noncomputable def B_ik : Code := loopBody (loopAt (bodyOf Try.f52) 0)
noncomputable def inv_ik (c T lo hi : Int) (n : Nat) (a b u v : Nat → Int) (L : List (List Int)) (m : Nat) (g : Nat → Int) (k : Nat) : St := { σ := ovrS [(9, i k)] (E_ik c T lo hi n a b u v L m g).σ, m := [(0, .cells 25 [i c, i T, i lo, i hi])], nx := (E_ik c T lo hi n a b u v L m g).nx }
noncomputable def out_ik (c T lo hi : Int) (n : Nat) (a b u v : Nat → Int) (L : List (List Int)) (m : Nat) (g : Nat → Int) (k : Nat) : AEx → Option St := fun ex => match ex with
  | .exit 0 => some { σ := ovrS [] (E_ik c T lo hi n a b u v L m g).σ, m := [(0, .cells 25 [i c, i T, i lo, i hi])], nx := (E_ik c T lo hi n a b u v L m g).nx }
  | .ret => some { σ := ovrS [(8, .lit false)] (E_ik c T lo hi n a b u v L m g).σ, m := [(0, .cells 25 [i c, i T, i lo, i hi])], nx := (E_ik c T lo hi n a b u v L m g).nx }
  | _ => none
noncomputable def T_ik (c T lo hi : Int) (n : Nat) (a b u v : Nat → Int) (L : List (List Int)) (m : Nat) (g : Nat → Int) : CT := .branch (allI (ikP c T lo hi n a b u v L m g) m) (.leaf (.exit 0, ( out_ik c T lo hi n a b u v L m g 0 (.exit 0)).getD (E_ik c T lo hi n a b u v L m g))) (.leaf (.ret, ( out_ik c T lo hi n a b u v L m g 0 .ret).getD (E_ik c T lo hi n a b u v L m g)))
noncomputable def LS_ik (c T lo hi : Int) (n : Nat) (a b u v : Nat → Int) (L : List (List Int)) (m : Nat) (g : Nat → Int) : LSpec := normSp [] (sumL (inv_ik c T lo hi n a b u v L m g (0)) (T_ik c T lo hi n a b u v L m g))
set_option maxRecDepth 100000 in
theorem ik_ls (c T lo hi : Int) (n : Nat) (a b u v : Nat → Int) (L : List (List Int)) (m : Nat) (g : Nat → Int) (pre0 : flt c T lo hi n a b u v = 0) (pre1 : smLL L) (pre2 : m ≤ 100000) : LSound Try.prog (.loop B_ik) (LS_ik c T lo hi n a b u v L m g) := by
  refine loop_roundsX [] (E := { R := [], H := [], C := [(53, C_rTruths)] }) (G := [(60, S_rRising), (58, S_rSome)]) (L := []) (SoundG.cons rRising_ok (SoundG.cons rSome_ok (SoundG.nil _))) (SoundX.ofC (SoundRL.nil _) (SoundHL.nil _) (SoundCL.cons rTruths_okC (SoundCL.nil _))) mixed noLoops (X := Nat) (inv_ik c T lo hi n a b u v L m g) (fun k => k ≤ m ∧ ∀ j, j < k → ikP c T lo hi n a b u v L m g j = true) (fun k => m - k) (out_ik c T lo hi n a b u v L m g) (x0 := 0) ⟨by omega, fun j h1 => by omega⟩ ?_ ?_ ?_
  · rintro k
    kernel_rfl
  · rintro k y E h
    unfold out_ik at h
    split at h
    · cases h; kernel_rfl
    · cases h; kernel_rfl
    · cases h
  · rintro Q hQ k hx
    refine ⟨(k + 1), ?_⟩
    have e : roundX Try.prog [(60, S_rRising), (58, S_rSome)] { R := [], H := [], C := [(53, C_rTruths)] } [] [] B_ik (inv_ik c T lo hi n a b u v L m g k) (inv_ik c T lo hi n a b u v L m g ((k + 1))) (out_ik c T lo hi n a b u v L m g k) = (Tree.branch (decide ((↑k : Int) < (↑m : Int))) (Tree.need [(0 : Int) ≤ (0 : Int) ∧ (0 : Int) ≤ (↑k : Int) ∧ (↑k : Int) ≤ (↑m : Int)] (Tree.need [(0 + (k - Int.toNat (0 : Int))) * 8 ≤ 140737488355328, ∀ (i : Nat), i < k - Int.toNat (0 : Int) → ∀ (a : AV), a ∈ [iI (g (Int.toNat (0 : Int) + i))] → AV.one a = true] (Tree.need [inI64 ((↑k : Int) + (1 : Int))] (Tree.need [(0 : Int) ≤ (↑k : Int) + (1 : Int) ∧ (↑k : Int) + (1 : Int) ≤ (↑m : Int) ∧ (↑m : Int) ≤ (↑m : Int)] (Tree.need [(0 + (k - Int.toNat (0 : Int)) + (m - Int.toNat ((↑k : Int) + (1 : Int)))) * 8 ≤ 140737488355328, ∀ (i : Nat), i < m - Int.toNat ((↑k : Int) + (1 : Int)) → ∀ (a : AV), a ∈ [iI (g (Int.toNat ((↑k : Int) + (1 : Int)) + i))] → AV.one a = true] (Tree.need [isRec 4 n fun k => [iI (a k), iI (b k), iI (u k), iI (v k)], isRec 1 (0 + (k - Int.toNat (0 : Int)) + (m - Int.toNat ((↑k : Int) + (1 : Int)))) (catF (0 + (k - Int.toNat (0 : Int))) (catF 0 (fun x => []) fun i => [iI (g (Int.toNat (0 : Int) + i))]) fun i => [iI (g (Int.toNat ((↑k : Int) + (1 : Int)) + i))]), 0 + (k - Int.toNat (0 : Int)) + (m - Int.toNat ((↑k : Int) + (1 : Int))) ≤ 100000, n ≤ 100000] (Tree.need [isRec 4 (List.length (soL (0 + (k - Int.toNat (0 : Int)) + (m - Int.toNat ((↑k : Int) + (1 : Int)))) (col 0 (catF (0 + (k - Int.toNat (0 : Int))) (catF 0 (fun x => []) fun i => [iI (g (Int.toNat (0 : Int) + i))]) fun i => [iI (g (Int.toNat ((↑k : Int) + (1 : Int)) + i))])) false n)) fun k_1 => [i (selF a (nthJ (soL (0 + (k - Int.toNat (0 : Int)) + (m - Int.toNat ((↑k : Int) + (1 : Int)))) (col 0 (catF (0 + (k - Int.toNat (0 : Int))) (catF 0 (fun x => []) fun i => [iI (g (Int.toNat (0 : Int) + i))]) fun i => [iI (g (Int.toNat ((↑k : Int) + (1 : Int)) + i))])) false n)) k_1), i (selF b (nthJ (soL (0 + (k - Int.toNat (0 : Int)) + (m - Int.toNat ((↑k : Int) + (1 : Int)))) (col 0 (catF (0 + (k - Int.toNat (0 : Int))) (catF 0 (fun x => []) fun i => [iI (g (Int.toNat (0 : Int) + i))]) fun i => [iI (g (Int.toNat ((↑k : Int) + (1 : Int)) + i))])) false n)) k_1), i (selF u (nthJ (soL (0 + (k - Int.toNat (0 : Int)) + (m - Int.toNat ((↑k : Int) + (1 : Int)))) (col 0 (catF (0 + (k - Int.toNat (0 : Int))) (catF 0 (fun x => []) fun i => [iI (g (Int.toNat (0 : Int) + i))]) fun i => [iI (g (Int.toNat ((↑k : Int) + (1 : Int)) + i))])) false n)) k_1), i (selF v (nthJ (soL (0 + (k - Int.toNat (0 : Int)) + (m - Int.toNat ((↑k : Int) + (1 : Int)))) (col 0 (catF (0 + (k - Int.toNat (0 : Int))) (catF 0 (fun x => []) fun i => [iI (g (Int.toNat (0 : Int) + i))]) fun i => [iI (g (Int.toNat ((↑k : Int) + (1 : Int)) + i))])) false n)) k_1)], isLL (List.length L) fun k => [AV.lst 1 (List.length (nL L k)) fun k_1 => [iI (nthJ (nL L k) k_1)]], flt c T lo hi (List.length (soL (0 + (k - Int.toNat (0 : Int)) + (m - Int.toNat ((↑k : Int) + (1 : Int)))) (col 0 (catF (0 + (k - Int.toNat (0 : Int))) (catF 0 (fun x => []) fun i => [iI (g (Int.toNat (0 : Int) + i))]) fun i => [iI (g (Int.toNat ((↑k : Int) + (1 : Int)) + i))])) false n)) (selF a (nthJ (soL (0 + (k - Int.toNat (0 : Int)) + (m - Int.toNat ((↑k : Int) + (1 : Int)))) (col 0 (catF (0 + (k - Int.toNat (0 : Int))) (catF 0 (fun x => []) fun i => [iI (g (Int.toNat (0 : Int) + i))]) fun i => [iI (g (Int.toNat ((↑k : Int) + (1 : Int)) + i))])) false n))) (selF b (nthJ (soL (0 + (k - Int.toNat (0 : Int)) + (m - Int.toNat ((↑k : Int) + (1 : Int)))) (col 0 (catF (0 + (k - Int.toNat (0 : Int))) (catF 0 (fun x => []) fun i => [iI (g (Int.toNat (0 : Int) + i))]) fun i => [iI (g (Int.toNat ((↑k : Int) + (1 : Int)) + i))])) false n))) (selF u (nthJ (soL (0 + (k - Int.toNat (0 : Int)) + (m - Int.toNat ((↑k : Int) + (1 : Int)))) (col 0 (catF (0 + (k - Int.toNat (0 : Int))) (catF 0 (fun x => []) fun i => [iI (g (Int.toNat (0 : Int) + i))]) fun i => [iI (g (Int.toNat ((↑k : Int) + (1 : Int)) + i))])) false n))) (selF v (nthJ (soL (0 + (k - Int.toNat (0 : Int)) + (m - Int.toNat ((↑k : Int) + (1 : Int)))) (col 0 (catF (0 + (k - Int.toNat (0 : Int))) (catF 0 (fun x => []) fun i => [iI (g (Int.toNat (0 : Int) + i))]) fun i => [iI (g (Int.toNat ((↑k : Int) + (1 : Int)) + i))])) false n))) = (0 : Int), smLL (lolOf (List.length L) fun k => [AV.lst 1 (List.length (nL L k)) fun k_1 => [iI (nthJ (nL L k) k_1)]])] (Tree.branch ((↑(List.length (List.filter (itW c T lo hi (List.length (soL (0 + (k - Int.toNat (0 : Int)) + (m - Int.toNat ((↑k : Int) + (1 : Int)))) (col 0 (catF (0 + (k - Int.toNat (0 : Int))) (catF 0 (fun x => []) fun i => [iI (g (Int.toNat (0 : Int) + i))]) fun i => [iI (g (Int.toNat ((↑k : Int) + (1 : Int)) + i))])) false n)) (selF a (nthJ (soL (0 + (k - Int.toNat (0 : Int)) + (m - Int.toNat ((↑k : Int) + (1 : Int)))) (col 0 (catF (0 + (k - Int.toNat (0 : Int))) (catF 0 (fun x => []) fun i => [iI (g (Int.toNat (0 : Int) + i))]) fun i => [iI (g (Int.toNat ((↑k : Int) + (1 : Int)) + i))])) false n))) (selF b (nthJ (soL (0 + (k - Int.toNat (0 : Int)) + (m - Int.toNat ((↑k : Int) + (1 : Int)))) (col 0 (catF (0 + (k - Int.toNat (0 : Int))) (catF 0 (fun x => []) fun i => [iI (g (Int.toNat (0 : Int) + i))]) fun i => [iI (g (Int.toNat ((↑k : Int) + (1 : Int)) + i))])) false n))) (selF u (nthJ (soL (0 + (k - Int.toNat (0 : Int)) + (m - Int.toNat ((↑k : Int) + (1 : Int)))) (col 0 (catF (0 + (k - Int.toNat (0 : Int))) (catF 0 (fun x => []) fun i => [iI (g (Int.toNat (0 : Int) + i))]) fun i => [iI (g (Int.toNat ((↑k : Int) + (1 : Int)) + i))])) false n))) (selF v (nthJ (soL (0 + (k - Int.toNat (0 : Int)) + (m - Int.toNat ((↑k : Int) + (1 : Int)))) (col 0 (catF (0 + (k - Int.toNat (0 : Int))) (catF 0 (fun x => []) fun i => [iI (g (Int.toNat (0 : Int) + i))]) fun i => [iI (g (Int.toNat ((↑k : Int) + (1 : Int)) + i))])) false n)))) (lolOf (List.length L) fun k => [AV.lst 1 (List.length (nL L k)) fun k_1 => [iI (nthJ (nL L k) k_1)]]))) : Int) == (0 : Int)) (Tree.need [AV.agg [iI c, iI T, iI lo, iI hi] = AV.agg [iI c, iI T, iI lo, iI hi], (AV.lst 1 (List.length L) fun k => [AV.lst 1 (List.length (nL L k)) fun k_1 => [iI (nthJ (nL L k) k_1)]]) = AV.lst 1 (List.length L) fun k => [AV.lst 1 (List.length (nL L k)) fun k_1 => [iI (nthJ (nL L k) k_1)]], (AV.lst 4 n fun k => [iI (a k), iI (b k), iI (u k), iI (v k)]) = AV.lst 4 n fun k => [iI (a k), iI (b k), iI (u k), iI (v k)], (AV.lst 1 m fun j => [iI (g j)]) = AV.lst 1 m fun j => [iI (g j)], AV.ptr 0 0 = AV.ptr 0 0, AV.lit false = AV.lit false, c = c, T = T, lo = lo, hi = hi] (Tree.leaf AEx.ret)) (Tree.need [inI64 ((↑k : Int) + (1 : Int))] (Tree.need [AV.agg [iI c, iI T, iI lo, iI hi] = AV.agg [iI c, iI T, iI lo, iI hi], (AV.lst 1 (List.length L) fun k => [AV.lst 1 (List.length (nL L k)) fun k_1 => [iI (nthJ (nL L k) k_1)]]) = AV.lst 1 (List.length L) fun k => [AV.lst 1 (List.length (nL L k)) fun k_1 => [iI (nthJ (nL L k) k_1)]], (AV.lst 4 n fun k => [iI (a k), iI (b k), iI (u k), iI (v k)]) = AV.lst 4 n fun k => [iI (a k), iI (b k), iI (u k), iI (v k)], (AV.lst 1 m fun j => [iI (g j)]) = AV.lst 1 m fun j => [iI (g j)], AV.ptr 0 0 = AV.ptr 0 0, (↑k : Int) + (1 : Int) = (↑(k + 1) : Int), c = c, T = T, lo = lo, hi = hi] (Tree.leaf AEx.normal))))))))))) (Tree.need [AV.agg [iI c, iI T, iI lo, iI hi] = AV.agg [iI c, iI T, iI lo, iI hi], (AV.lst 1 (List.length L) fun k => [AV.lst 1 (List.length (nL L k)) fun k_1 => [iI (nthJ (nL L k) k_1)]]) = AV.lst 1 (List.length L) fun k => [AV.lst 1 (List.length (nL L k)) fun k_1 => [iI (nthJ (nL L k) k_1)]], (AV.lst 4 n fun k => [iI (a k), iI (b k), iI (u k), iI (v k)]) = AV.lst 4 n fun k => [iI (a k), iI (b k), iI (u k), iI (v k)], (AV.lst 1 m fun j => [iI (g j)]) = AV.lst 1 m fun j => [iI (g j)], AV.ptr 0 0 = AV.ptr 0 0, c = c, T = T, lo = lo, hi = hi] (Tree.leaf (AEx.exit 0)))) := by kernel_rfl
    rw [e]
    simp only [T_ik, out_ik, Tree.sat, Option.getD_some] at hQ
    obtain ⟨x1, x2⟩ := hx
    have hf := flt_iff.1 pre0
    have hb := tube_bd hf.1
    have hg : k < m → ikP c T lo hi n a b u v L m g k = true → ∀ j, j < k + 1 → ikP c T lo hi n a b u v L m g j = true := by
      intro h1 h2 j hj
      rcases (show j = k ∨ j < k by omega) with rfl | h
      · exact h2
      · exact x2 j h
    have hend : ¬ k < m → allI (ikP c T lo hi n a b u v L m g) m = true := fun h => allI_iff.2 fun j hj => x2 j (by omega)
    have hbad : k < m → ikP c T lo hi n a b u v L m g k = false → allI (ikP c T lo hi n a b u v L m g) m = false := by
      intro h1 h2
      rw [← Bool.not_eq_true]
      intro h3
      have := allI_iff.1 h3 k h1
      rw [h2] at this
      cases this
    have hsel : flt c T lo hi (soL (m - 1) (butF k g) false n).length (selF a (nthJ (soL (m - 1) (butF k g) false n))) (selF b (nthJ (soL (m - 1) (butF k g) false n))) (selF u (nthJ (soL (m - 1) (butF k g) false n))) (selF v (nthJ (soL (m - 1) (butF k g) false n))) = 0 :=
      flt_ok hf.1 (by have := soL_len (m - 1) (butF k g) false n; omega) (sel_rd hf.2.2 (soL_in _ _ _ n))
    have hP : ikP c T lo hi n a b u v L m g k = !decide ((tsL c T lo hi a b u v L (soL (m - 1) (butF k g) false n)).length = 0) := rfl
    have hT : ∀ S : List Int, List.filter (itW c T lo hi S.length (selF a (nthJ S)) (selF b (nthJ S)) (selF u (nthJ S)) (selF v (nthJ S))) L = tsL c T lo hi a b u v L S := fun _ => rfl
    by_cases hk : k < m
    · obtain ⟨g1, g2, g3⟩ := ik_list g hk
      simp only [Tree.sat, allP, fitP, fitL, valEq, inI64, true_and, and_true, decide_eq_true_eq, decide_eq_false_iff_not, Int.toNat_natCast, lol_LL, g3, c40, c41, c42, c43, hT]
      clear e
      refine ⟨fun _ => ?_, fun h => absurd (by omega) h⟩
      refine ⟨by omega, ⟨by omega, fun i hi a ha => by cases List.mem_singleton.1 ha; rfl⟩, by omega, by omega, ⟨by omega, fun i hi a ha => by cases List.mem_singleton.1 ha; rfl⟩, ⟨isRec4 n a b u v, g1, by omega, by have := hf.2.1; omega⟩, ⟨isRec4 _ _ _ _ _, isLL_LL _, hsel, pre1⟩, fun h2 => ?_, fun h2 => ?_⟩
      · have h3 : ikP c T lo hi n a b u v L m g k = false := by
          rw [hP]
          simp at h2 ⊢
          exact h2
        intro E hE
        cases hE
        exact hQ.2 (hbad hk h3)
      · have h3 : ikP c T lo hi n a b u v L m g k = true := by
          rw [hP]
          simp at h2 ⊢
          exact h2
        have hg := hg hk h3
        (repeat' first | with_reducible apply And.intro | with_reducible intro _)
        all_goals first | exact True.intro | omega | with_reducible rfl | exact hg _ (by assumption) | rfl
    · simp only [Tree.sat, allP, fitP, fitL, valEq, inI64, true_and, and_true, decide_eq_true_eq, decide_eq_false_iff_not]
      clear e
      refine ⟨fun h => absurd (by omega) hk, fun _ => ?_⟩
      intro E hE
      cases hE
      exact hQ.1 (hend hk)

set_option maxRecDepth 100000 in
theorem rIsKnot_at (c T lo hi : Int) (n : Nat) (a b u v : Nat → Int) (L : List (List Int)) (m : Nat) (g : Nat → Int) (pre0 : flt c T lo hi n a b u v = 0) (pre1 : smLL L) (pre2 : m ≤ 100000) : SoundAt Try.prog 52 [.agg [i c, i T, i lo, i hi], LL L, rds n a b u v, .lst 1 m (fun j => [i (g j)])] (bl (ikL c T lo hi n a b u v L m g)) := by
  refine soundAt_finX (G := [(60, S_rRising), (58, S_rSome)]) (X := { R := [], H := [], C := [(53, C_rTruths)] }) (L := [LS_ik c T lo hi n a b u v L m g]) (SoundG.cons rRising_ok (SoundG.cons rSome_ok (SoundG.nil _))) (SoundX.ofC (SoundRL.nil _) (SoundHL.nil _) (SoundCL.cons rTruths_okC (SoundCL.nil _))) mixed Try.func52 (show Try.f52.body = some (bodyOf Try.f52) by kernel_rfl) (one_loop (fun cj hcj => by
    have e : loopAt (bodyOf Try.f52) 0 = some (.loop B_ik) := by kernel_rfl
    rw [e] at hcj; cases hcj
    exact (ik_ls c T lo hi n a b u v L m g pre0 pre1 pre2).N)) (t := (Tree.need [isRec 4 n fun k => [i (a k), i (b k), i (u k), i (v k)], isRec 1 m fun j => [i (g j)], m ≤ 100000, n ≤ 100000] (Tree.branch (!risB n m g) (Tree.leaf (RV.x (Value.bool false))) (Tree.need [isRec 4 n fun k => [i (a k), i (b k), i (u k), i (v k)], isRec 1 m fun j => [i (g j)], m ≤ 100000, n ≤ 100000] (Tree.need [isRec 4 (List.length (soL m g false n)) fun k => [i (selF a (nthJ (soL m g false n)) k), i (selF b (nthJ (soL m g false n)) k), i (selF u (nthJ (soL m g false n)) k), i (selF v (nthJ (soL m g false n)) k)], isLL (List.length L) fun k => [LI (nL L k)], flt c T lo hi (List.length (soL m g false n)) (selF a (nthJ (soL m g false n))) (selF b (nthJ (soL m g false n))) (selF u (nthJ (soL m g false n))) (selF v (nthJ (soL m g false n))) = (0 : Int), smLL (lolOf (List.length L) fun k => [LI (nL L k)])] (Tree.branch (decide ((↑(List.length (List.filter (itW c T lo hi (List.length (soL m g false n)) (selF a (nthJ (soL m g false n))) (selF b (nthJ (soL m g false n))) (selF u (nthJ (soL m g false n))) (selF v (nthJ (soL m g false n)))) (lolOf (List.length L) fun k => [LI (nL L k)]))) : Int) > (0 : Int))) (Tree.leaf (RV.x (Value.bool false))) (Tree.need [AV.agg [iI c, iI T, iI lo, iI hi] = AV.agg [iI c, iI T, iI lo, iI hi], (AV.lst 1 (List.length L) fun k => [AV.lst 1 (List.length (nL L k)) fun k_1 => [iI (nthJ (nL L k) k_1)]]) = AV.lst 1 (List.length L) fun k => [AV.lst 1 (List.length (nL L k)) fun k_1 => [iI (nthJ (nL L k) k_1)]], (AV.lst 4 n fun k => [iI (a k), iI (b k), iI (u k), iI (v k)]) = AV.lst 4 n fun k => [iI (a k), iI (b k), iI (u k), iI (v k)], (AV.lst 1 m fun j => [iI (g j)]) = AV.lst 1 m fun j => [iI (g j)], AV.ptr 0 0 = AV.ptr 0 0, (0 : Int) = (↑(0 : Nat) : Int), c = c, T = T, lo = lo, hi = hi] (Tree.branch (allI (ikP c T lo hi n a b u v L m g) m) (Tree.leaf (RV.x (Value.bool true))) (Tree.leaf (RV.x (Value.bool false))))))))))) (by kernel_rfl) ?_
  have hf := flt_iff.1 pre0
  have hsel : flt c T lo hi (soL m g false n).length (selF a (nthJ (soL m g false n))) (selF b (nthJ (soL m g false n))) (selF u (nthJ (soL m g false n))) (selF v (nthJ (soL m g false n))) = 0 :=
    flt_ok hf.1 (by have := soL_len m g false n; omega) (sel_rd hf.2.2 (soL_in _ _ _ n))
  have hT : ∀ S : List Int, List.filter (itW c T lo hi S.length (selF a (nthJ S)) (selF b (nthJ S)) (selF u (nthJ S)) (selF v (nthJ S))) L = tsL c T lo hi a b u v L S := fun _ => rfl
  simp only [Tree.sat, allP, fitP, fitL, valEq, inI64, true_and, and_true, decide_eq_true_eq, decide_eq_false_iff_not, Int.toNat_natCast, lol_LL, hT, Bool.not_eq_true', Bool.not_eq_false']
  have hn : n ≤ 100000 := by have := hf.2.1; omega
  refine ⟨⟨isRec4 n a b u v, isRec1 _ _, pre2, hn⟩, fun h => ?_, fun h => ⟨⟨isRec4 n a b u v, isRec1 _ _, pre2, hn⟩, ⟨isRec4 _ _ _ _ _, isLL_LL _, hsel, pre1⟩, fun h2 => ?_, fun h2 => ⟨rfl, fun h3 => ?_, fun h3 => ?_⟩⟩⟩
  · simp [ikL, h]
  · have : ¬ (tsL c T lo hi a b u v L (soL m g false n)).length = 0 := by omega
    simp [ikL, this]
  · have : (tsL c T lo hi a b u v L (soL m g false n)).length = 0 := by omega
    unfold ikL
    rw [h, decide_eq_true this, h3]
    rfl
  · unfold ikL
    rw [h3, Bool.and_false]


def S_rIsKnot : Sx.Spec := fun l => match l with
  | [.agg [.x (.int .i64 c), .x (.int .i64 T), .x (.int .i64 lo), .x (.int .i64 hi)], .lst 1 N F, .lst 4 n f, .lst 1 m g] => some ([isLL N F, isRec 4 n f, isRec 1 m g, flt c T lo hi n (col 0 f) (col 1 f) (col 2 f) (col 3 f) = 0, smLL (lolOf N F), m ≤ 100000], bl (ikL c T lo hi n (col 0 f) (col 1 f) (col 2 f) (col 3 f) (lolOf N F) m (col 0 g)))
  | _ => none
def CofS (s : Sx.Spec) : CSpec := fun l => match s l with
  | some (ns, r) => some (.needT ns (.leaf r))
  | none => none
def pkP (c T lo hi : Int) (a b u v : Nat → Int) (m : Nat) (g : Nat → Int) (k : Nat) : Bool := !clB c T lo hi (m - 1) a b u v (butF k g)


theorem rIsKnot_ok : SoundSpec Try.prog 52 S_rIsKnot := by
  refine ⟨⟨_, Try.func52, by kernel_rfl, by kernel_rfl⟩, ?_⟩
  intro avs ns res h hn
  unfold S_rIsKnot at h
  split at h
  · rename_i c T lo hi N F n f m g
    cases h
    have h1 : isLL N F := hn _ (by simp)
    have hr : isRec 4 n f := hn _ (by simp)
    have hg : isRec 1 m g := hn _ (by simp)
    exact (rIsKnot_at c T lo hi n (col 0 f) (col 1 f) (col 2 f) (col 3 f) (lolOf N F) m (col 0 g) (hn _ (by simp)) (hn _ (by simp)) (hn _ (by simp))).same (.cons (.refl _) (.cons (sameLL h1) (.cons (.lst 4 n _ _ hr) (.cons (.lst 1 m _ _ hg) .nil))))
  · cases h
theorem cofS_ok {P : Program} {f : FuncId} {s : Sx.Spec} (h : SoundR P f s) : Enters P f ∧ ∀ avs t, CofS s avs = some t → SoundCAt P f avs t := by
  refine ⟨h.1, fun avs t ht Q hQ e w args hro hidf hrep => ?_⟩
  unfold CofS at ht
  split at ht
  · rename_i ns r hs
    cases ht
    obtain ⟨h1, h2⟩ := Tree.sat_needT hQ
    refine (h.2 _ _ _ hs (allP_mem h1) e w args hro hidf hrep).mono ?_
    rintro en w' ⟨v, h3, h4, h5⟩
    exact ⟨v, r, h3, h2, h4, h5⟩
  · cases ht

noncomputable def E_pk (c T lo hi : Int) (n : Nat) (a b u v : Nat → Int) (m : Nat) (g : Nat → Int) : St := (some
  {
    σ :=
      [AV.agg
          [AV.x (Value.int IntKind.i64 c), AV.x (Value.int IntKind.i64 T), AV.x (Value.int IntKind.i64 lo),
            AV.x (Value.int IntKind.i64 hi)],
        AV.lst (4 : Nat) n fun k =>
          [AV.x (Value.int IntKind.i64 (a k)), AV.x (Value.int IntKind.i64 (b k)), AV.x (Value.int IntKind.i64 (u k)),
            AV.x (Value.int IntKind.i64 (v k))],
        AV.lst (1 : Nat) m fun j => [AV.x (Value.int IntKind.i64 (g j))], AV.ptr (0 : Nat) (0 : Nat),
        AV.ptr (1 : Nat) (0 : Nat), AV.top, AV.top, AV.top, AV.top, AV.top, AV.top, AV.top, AV.top, AV.top, AV.top,
        AV.top, AV.top, AV.top, AV.top, AV.top, AV.top, AV.top, AV.top, AV.top, AV.top, AV.top, AV.top, AV.top, AV.top,
        AV.top, AV.top, AV.x (Value.int IntKind.i64 (↑m : Int)), AV.top, AV.top, AV.top, AV.top, AV.top, AV.top, AV.top,
        AV.top, AV.top, AV.top],
    m :=
      [((1 : Nat),
          Res.cells (36 : Nat)
            [AV.lst (4 : Nat) n fun k =>
                [AV.x (Value.int IntKind.i64 (a k)), AV.x (Value.int IntKind.i64 (b k)),
                  AV.x (Value.int IntKind.i64 (u k)), AV.x (Value.int IntKind.i64 (v k))]]),
        ((0 : Nat),
          Res.cells (34 : Nat)
            [AV.x (Value.int IntKind.i64 c), AV.x (Value.int IntKind.i64 T), AV.x (Value.int IntKind.i64 lo),
              AV.x (Value.int IntKind.i64 hi)])],
    nx := (28 : Nat) } : Option St).getD { σ := [], m := [], nx := 0 }
noncomputable def B_pk : Code := loopBody (loopAt (bodyOf Try.f50) 0)
noncomputable def inv_pk (c T lo hi : Int) (n : Nat) (a b u v : Nat → Int) (m : Nat) (g : Nat → Int) (k : Nat) : St := { σ := ovrS [(32, i k)] (E_pk c T lo hi n a b u v m g).σ, m := [(1, .cells 36 [rds n a b u v]), (0, .cells 34 [i c, i T, i lo, i hi])], nx := (E_pk c T lo hi n a b u v m g).nx }
noncomputable def out_pk (c T lo hi : Int) (n : Nat) (a b u v : Nat → Int) (m : Nat) (g : Nat → Int) (k : Nat) : AEx → Option St := fun ex => match ex with
  | .exit 0 => some { σ := ovrS [] (E_pk c T lo hi n a b u v m g).σ, m := [(1, .cells 36 [rds n a b u v]), (0, .cells 34 [i c, i T, i lo, i hi])], nx := (E_pk c T lo hi n a b u v m g).nx }
  | .ret => some { σ := ovrS [(6, .lit false)] (E_pk c T lo hi n a b u v m g).σ, m := [(1, .cells 36 [rds n a b u v]), (0, .cells 34 [i c, i T, i lo, i hi])], nx := (E_pk c T lo hi n a b u v m g).nx }
  | _ => none
noncomputable def T_pk (c T lo hi : Int) (n : Nat) (a b u v : Nat → Int) (m : Nat) (g : Nat → Int) : CT := .branch (allI (pkP c T lo hi a b u v m g) m) (.leaf (.exit 0, ( out_pk c T lo hi n a b u v m g 0 (.exit 0)).getD (E_pk c T lo hi n a b u v m g))) (.leaf (.ret, ( out_pk c T lo hi n a b u v m g 0 .ret).getD (E_pk c T lo hi n a b u v m g)))
noncomputable def LS_pk (c T lo hi : Int) (n : Nat) (a b u v : Nat → Int) (m : Nat) (g : Nat → Int) : LSpec := normSp [] (sumL (inv_pk c T lo hi n a b u v m g (0)) (T_pk c T lo hi n a b u v m g))
set_option maxRecDepth 100000 in
theorem pk_ls (c T lo hi : Int) (n : Nat) (a b u v : Nat → Int) (m : Nat) (g : Nat → Int) (pre0 : flt c T lo hi n a b u v = 0) (pre1 : m ≤ 1000) (pre2 : inR n m g) : LSound Try.prog (.loop B_pk) (LS_pk c T lo hi n a b u v m g) := by
  refine loop_roundsX [] (E := { R := [], H := [], C := [(85, (CofS S_but))] }) (G := [(80, S_check), (86, S_srt), (81, S_alliK), (84, S_clash)]) (L := []) (SoundG.cons check_ok (SoundG.cons srt_ok (SoundG.cons alliK_ok (SoundG.cons clash_ok (SoundG.nil _))))) (SoundX.ofC (SoundRL.nil _) (SoundHL.nil _) (SoundCL.cons (cofS_ok but_okR) (SoundCL.nil _))) mixed noLoops (X := Nat) (inv_pk c T lo hi n a b u v m g) (fun k => k ≤ m ∧ ∀ j, j < k → pkP c T lo hi a b u v m g j = true) (fun k => m - k) (out_pk c T lo hi n a b u v m g) (x0 := 0) ⟨by omega, fun j h1 => by omega⟩ ?_ ?_ ?_
  · rintro k
    kernel_rfl
  · rintro k y E h
    unfold out_pk at h
    split at h
    · cases h; kernel_rfl
    · cases h; kernel_rfl
    · cases h
  · rintro Q hQ k hx
    refine ⟨(k + 1), ?_⟩
    have e : roundX Try.prog [(80, S_check), (86, S_srt), (81, S_alliK), (84, S_clash)] { R := [], H := [], C := [(85, (CofS S_but))] } [] [] B_pk (inv_pk c T lo hi n a b u v m g k) (inv_pk c T lo hi n a b u v m g ((k + 1))) (out_pk c T lo hi n a b u v m g k) = (Tree.branch (decide ((↑k : Int) < (↑m : Int))) (Tree.need [isRec 1 m fun j => [iI (g j)], m ≤ 100000, (0 : Int) ≤ (↑k : Int) ∧ (↑k : Int) < (↑m : Int)] (Tree.need [isRec 4 n fun k => [i (a k), i (b k), i (u k), i (v k)], isRec 1 (m - 1) fun j => [i (butF k g j)], (1 : Int) ≤ c ∧ c ≤ (10 : Int), (1 : Int) ≤ lo ∧ lo ≤ hi ∧ hi ≤ (200 : Int) ∧ (1 : Int) ≤ T ∧ T ≤ (2000 : Int), m - 1 ≤ 1000, ∀ (j : Nat), j < m - 1 → (0 : Int) ≤ butF k g j ∧ butF k g j < (↑n : Int), allI (fun k_1 => rdB c (selF a (butF k g) k_1) (selF b (butF k g) k_1) (selF u (butF k g) k_1) (selF v (butF k g) k_1)) (m - 1) = true] (Tree.branch (clB c T lo hi (m - 1) a b u v (butF k g)) (Tree.need [AV.agg [iI c, iI T, iI lo, iI hi] = AV.agg [iI c, iI T, iI lo, iI hi], (AV.lst 4 n fun k => [iI (a k), iI (b k), iI (u k), iI (v k)]) = AV.lst 4 n fun k => [iI (a k), iI (b k), iI (u k), iI (v k)], (AV.lst 1 m fun j => [iI (g j)]) = AV.lst 1 m fun j => [iI (g j)], AV.ptr 0 0 = AV.ptr 0 0, AV.ptr 1 0 = AV.ptr 1 0, AV.lit false = AV.lit false, (↑m : Int) = (↑m : Int), (AV.lst 4 n fun k => [iI (a k), iI (b k), iI (u k), iI (v k)]) = AV.lst 4 n fun k => [iI (a k), iI (b k), iI (u k), iI (v k)], c = c, T = T, lo = lo, hi = hi] (Tree.leaf AEx.ret)) (Tree.need [inI64 ((↑k : Int) + (1 : Int))] (Tree.need [AV.agg [iI c, iI T, iI lo, iI hi] = AV.agg [iI c, iI T, iI lo, iI hi], (AV.lst 4 n fun k => [iI (a k), iI (b k), iI (u k), iI (v k)]) = AV.lst 4 n fun k => [iI (a k), iI (b k), iI (u k), iI (v k)], (AV.lst 1 m fun j => [iI (g j)]) = AV.lst 1 m fun j => [iI (g j)], AV.ptr 0 0 = AV.ptr 0 0, AV.ptr 1 0 = AV.ptr 1 0, (↑m : Int) = (↑m : Int), (↑k : Int) + (1 : Int) = (↑(k + 1) : Int), (AV.lst 4 n fun k => [iI (a k), iI (b k), iI (u k), iI (v k)]) = AV.lst 4 n fun k => [iI (a k), iI (b k), iI (u k), iI (v k)], c = c, T = T, lo = lo, hi = hi] (Tree.leaf AEx.normal)))))) (Tree.need [AV.agg [iI c, iI T, iI lo, iI hi] = AV.agg [iI c, iI T, iI lo, iI hi], (AV.lst 4 n fun k => [iI (a k), iI (b k), iI (u k), iI (v k)]) = AV.lst 4 n fun k => [iI (a k), iI (b k), iI (u k), iI (v k)], (AV.lst 1 m fun j => [iI (g j)]) = AV.lst 1 m fun j => [iI (g j)], AV.ptr 0 0 = AV.ptr 0 0, AV.ptr 1 0 = AV.ptr 1 0, (↑m : Int) = (↑m : Int), (AV.lst 4 n fun k => [iI (a k), iI (b k), iI (u k), iI (v k)]) = AV.lst 4 n fun k => [iI (a k), iI (b k), iI (u k), iI (v k)], c = c, T = T, lo = lo, hi = hi] (Tree.leaf (AEx.exit 0)))) := by kernel_rfl
    rw [e]
    simp only [T_pk, out_pk, Tree.sat, Option.getD_some] at hQ
    obtain ⟨x1, x2⟩ := hx
    have hf := flt_iff.1 pre0
    have hb := tube_bd hf.1
    have hP : pkP c T lo hi a b u v m g k = !clB c T lo hi (m - 1) a b u v (butF k g) := rfl
    have hgood : pkP c T lo hi a b u v m g k = true → ∀ j, j < k + 1 → pkP c T lo hi a b u v m g j = true := by
      intro h2 j hj
      rcases (show j = k ∨ j < k by omega) with rfl | h
      · exact h2
      · exact x2 j h
    have hend : ¬ k < m → allI (pkP c T lo hi a b u v m g) m = true := fun h => allI_iff.2 fun j hj => x2 j (by omega)
    have hbad : k < m → pkP c T lo hi a b u v m g k = false → allI (pkP c T lo hi a b u v m g) m = false := by
      intro h1 h2
      rw [← Bool.not_eq_true]
      intro h3
      have := allI_iff.1 h3 k h1
      rw [h2] at this
      cases this
    simp only [Tree.sat, allP, fitP, fitL, valEq, inI64, true_and, and_true, decide_eq_true_eq, decide_eq_false_iff_not, Int.toNat_natCast]
    clear e
    refine ⟨fun h => ?_, fun h => ?_⟩
    · have hk : k < m := by omega
      refine ⟨⟨isRec1 _ _, by omega, by omega, by omega⟩, ⟨isRec4 n a b u v, isRec1 _ _, hb.1, hb.2.1, by omega, but_inR pre2 hk, sel_rd hf.2.2 (but_inR pre2 hk)⟩, fun h2 => ?_, fun h2 => ?_⟩
      · intro E hE
        cases hE
        exact hQ.2 (hbad hk (by rw [hP, h2]; rfl))
      · have hg := hgood (by rw [hP, h2]; rfl)
        (repeat' first | with_reducible apply And.intro | with_reducible intro _)
        all_goals first | exact True.intro | omega | with_reducible rfl | exact hg _ (by assumption) | rfl
    · intro E hE
      cases hE
      exact hQ.1 (hend (by omega))

set_option maxRecDepth 100000 in
theorem ProveKnot_at (c T lo hi : Int) (n : Nat) (a b u v : Nat → Int) (m : Nat) (g : Nat → Int) (pre0 : m ≤ 1000) : SoundAt Try.prog 50 [.agg [i c, i T, i lo, i hi], rds n a b u v, .lst 1 m (fun j => [i (g j)])] (bl (pkB c T lo hi n a b u v m g)) := by
  refine soundAt_finX (G := [(80, S_check), (86, S_srt), (81, S_alliK), (84, S_clash)]) (X := { R := [], H := [], C := [(85, (CofS S_but))] }) (L := [needSp [flt c T lo hi n a b u v = 0, inR n m g] (LS_pk c T lo hi n a b u v m g)]) (SoundG.cons check_ok (SoundG.cons srt_ok (SoundG.cons alliK_ok (SoundG.cons clash_ok (SoundG.nil _))))) (SoundX.ofC (SoundRL.nil _) (SoundHL.nil _) (SoundCL.cons (cofS_ok but_okR) (SoundCL.nil _))) mixed Try.func50 (show Try.f50.body = some (bodyOf Try.f50) by kernel_rfl) (one_loop (fun cj hcj => by
    have e : loopAt (bodyOf Try.f50) 0 = some (.loop B_pk) := by kernel_rfl
    rw [e] at hcj; cases hcj
    exact (needSp_sound (ps := [flt c T lo hi n a b u v = 0, inR n m g]) (fun h => pk_ls c T lo hi n a b u v m g h.1 pre0 h.2)).N)) (t := (Tree.need [isRec 4 n fun k => [i (a k), i (b k), i (u k), i (v k)]] (Tree.branch (flt c T lo hi n a b u v != (0 : Int)) (Tree.leaf (RV.x (Value.bool false))) (Tree.need [isRec 1 m fun j => [i (g j)], m ≤ 100000] (Tree.branch (!srtB m g) (Tree.leaf (RV.x (Value.bool false))) (Tree.need [isRec 1 m fun j => [i (g j)], m ≤ 100000, n ≤ 100000] (Tree.branch (!allI (fun k => bt (0 : Int) (g k) ((↑n : Int) - (1 : Int))) m) (Tree.leaf (RV.x (Value.bool false))) (Tree.need [isRec 4 n fun k => [i (a k), i (b k), i (u k), i (v k)], isRec 1 m fun j => [i (g j)], (1 : Int) ≤ c ∧ c ≤ (10 : Int), (1 : Int) ≤ lo ∧ lo ≤ hi ∧ hi ≤ (200 : Int) ∧ (1 : Int) ≤ T ∧ T ≤ (2000 : Int), m ≤ 1000, ∀ (j : Nat), j < m → (0 : Int) ≤ g j ∧ g j < (↑n : Int), allI (fun k => rdB c (selF a g k) (selF b g k) (selF u g k) (selF v g k)) m = true] (Tree.branch (!clB c T lo hi m a b u v g) (Tree.leaf (RV.x (Value.bool false))) (Tree.need [flt c T lo hi n a b u v = (0 : Int), inR n m g] (Tree.need [AV.agg [iI c, iI T, iI lo, iI hi] = AV.agg [iI c, iI T, iI lo, iI hi], (AV.lst 4 n fun k => [iI (a k), iI (b k), iI (u k), iI (v k)]) = AV.lst 4 n fun k => [iI (a k), iI (b k), iI (u k), iI (v k)], (AV.lst 1 m fun j => [iI (g j)]) = AV.lst 1 m fun j => [iI (g j)], AV.ptr 0 0 = AV.ptr 0 0, AV.ptr 1 0 = AV.ptr 1 0, (↑m : Int) = (↑m : Int), (0 : Int) = (↑(0 : Nat) : Int), (AV.lst 4 n fun k => [iI (a k), iI (b k), iI (u k), iI (v k)]) = AV.lst 4 n fun k => [iI (a k), iI (b k), iI (u k), iI (v k)], c = c, T = T, lo = lo, hi = hi] (Tree.branch (allI (pkP c T lo hi a b u v m g) m) (Tree.leaf (RV.x (Value.bool true))) (Tree.leaf (RV.x (Value.bool false))))))))))))))) (by kernel_rfl) ?_
  simp only [Tree.sat, allP, fitP, fitL, valEq, inI64, true_and, and_true, decide_eq_true_eq, decide_eq_false_iff_not, Int.toNat_natCast, bne_iff_ne, ne_eq, bne_eq_false_iff_eq, Bool.not_eq_true', Bool.not_eq_false']
  refine ⟨isRec4 n a b u v, fun h1 => ?_, fun h1 => ⟨⟨isRec1 _ _, by omega⟩, fun h2 => ?_, fun h2 => ⟨⟨isRec1 _ _, by omega, by have := (flt_iff.1 h1).2.1; omega⟩, fun h3 => ?_, fun h3 => ?_⟩⟩⟩
  · simp [pkB, h1]
  · simp [pkB, h2]
  · unfold pkB
    rw [h3]
    simp
  · have hf := flt_iff.1 h1
    have hb := tube_bd hf.1
    have hin : inR n m g := in_iff.1 h3
    refine ⟨⟨isRec4 n a b u v, isRec1 _ _, hb.1, hb.2.1, pre0, hin, sel_rd hf.2.2 hin⟩, fun h4 => ?_, fun h4 => ⟨⟨h1, hin⟩, rfl, fun h5 => ?_, fun h5 => ?_⟩⟩
    · simp [pkB, h4]
    · have h5 : allI (fun k => !clB c T lo hi (m - 1) a b u v (butF k g)) m = true := h5
      unfold pkB
      rw [decide_eq_true h1, h2, h3, h4, h5]
      rfl
    · have h5 : allI (fun k => !clB c T lo hi (m - 1) a b u v (butF k g)) m = false := h5
      unfold pkB
      rw [h5, Bool.and_false]

def S_ProveKnot : Sx.Spec := fun l => match l with
  | [.agg [.x (.int .i64 c), .x (.int .i64 T), .x (.int .i64 lo), .x (.int .i64 hi)], .lst 4 n f, .lst 1 m g] => some ([isRec 4 n f, isRec 1 m g, m ≤ 1000], bl (pkB c T lo hi n (col 0 f) (col 1 f) (col 2 f) (col 3 f) m (col 0 g)))
  | _ => none

theorem ProveKnot_ok : SoundSpec Try.prog 50 S_ProveKnot := by
  refine ⟨⟨_, Try.func50, by kernel_rfl, by kernel_rfl⟩, ?_⟩
  intro avs ns res h hn
  unfold S_ProveKnot at h
  split at h
  · rename_i c T lo hi n f m g
    cases h
    have hr0 : isRec 4 n f := hn _ (by simp)
    have hr1 : isRec 1 m g := hn _ (by simp)
    exact (ProveKnot_at c T lo hi n (col 0 f) (col 1 f) (col 2 f) (col 3 f) m (col 0 g) (hn _ (by simp))).same (.cons (.refl _) (.cons (.lst 4 n _ _ hr0) (.cons (.lst 1 m _ _ hr1) .nil)))
  · cases h


theorem ts_cl {c T lo hi : Int} {n : Nat} {a b u v : Nat → Int} {S : List Int} (h1 : flt c T lo hi n a b u v = 0) (hS : inR n S.length (nthJ S)) (hl : S.length ≤ 12) : decide ((tsL c T lo hi a b u v (allV T lo hi (c.toNat - 1) []) S).length = 0) = clB c T lo hi S.length a b u v (nthJ S) := by
  have hf := flt_iff.1 h1
  have h2 : flt c T lo hi S.length (selF a (nthJ S)) (selF b (nthJ S)) (selF u (nthJ S)) (selF v (nthJ S)) = 0 := flt_ok hf.1 hl (sel_rd hf.2.2 hS)
  have ho := tu_ok h2
  have e : tsL c T lo hi a b u v (allV T lo hi (c.toNat - 1) []) S = tuL c T lo hi S.length (selF a (nthJ S)) (selF b (nthJ S)) (selF u (nthJ S)) (selF v (nthJ S)) := rfl
  rw [e]
  unfold clB
  rw [Bool.eq_iff_iff, decide_eq_true_eq, Bool.not_eq_true', ← Bool.not_eq_true, ho]
  constructor
  · intro h h3
    exact h3 (List.eq_nil_of_length_eq_zero h)
  · intro h
    rcases Classical.em (tuL c T lo hi S.length (selF a (nthJ S)) (selF b (nthJ S)) (selF u (nthJ S)) (selF v (nthJ S)) = []) with h3 | h3
    · rw [h3]; rfl
    · exact absurd h3 h
theorem ik_eq {c T lo hi : Int} {n : Nat} {a b u v : Nat → Int} {m : Nat} {g : Nat → Int} (h1 : flt c T lo hi n a b u v = 0) : ikL c T lo hi n a b u v (allV T lo hi (c.toNat - 1) []) m g = pkB c T lo hi n a b u v m g := by
  have hn := (flt_iff.1 h1).2.1
  rw [pk_ik h1]
  unfold ikL ikB clS
  rw [ts_cl h1 (soL_in m g false n) (by have := soL_len m g false n; omega)]
  congr 1
  rw [Bool.eq_iff_iff, allI_iff, allI_iff]
  constructor
  · intro h j hj
    have := h j hj
    unfold ikP at this
    rw [ts_cl h1 (soL_in (m - 1) (butF j g) false n) (by have := soL_len (m - 1) (butF j g) false n; omega)] at this
    exact this
  · intro h j hj
    unfold ikP
    rw [ts_cl h1 (soL_in (m - 1) (butF j g) false n) (by have := soL_len (m - 1) (butF j g) false n; omega)]
    exact h j hj

set_option maxRecDepth 100000 in
theorem BoreKnots_at (c T lo hi : Int) (n : Nat) (a b u v : Nat → Int) (m : Nat) (g : Nat → Int) : SoundAt Try.prog 13 [.agg [i c, i T, i lo, i hi], rds n a b u v, .lst 1 m (fun j => [i (g j)])] (bl true) := by
  refine soundAt_finX (G := [(19, S_Few), (22, S_lTube), (23, S_lReadings), (50, S_ProveKnot), (46, S_llist), (47, S_fault), (52, S_rIsKnot), (20, S_wakes)]) (X := { R := [(49, S_Knot)], H := [], C := [(51, (C_All (c.toNat - 1))), (53, C_rTruths)] }) (L := []) (SoundG.cons Few_ok (SoundG.cons lTube_ok (SoundG.cons lReadings_ok (SoundG.cons ProveKnot_ok (SoundG.cons llist_ok (SoundG.cons fault_ok (SoundG.cons rIsKnot_ok (SoundG.cons wakes_ok (SoundG.nil _))))))))) (SoundX.ofC (SoundRL.cons Knot_okR (SoundRL.nil _)) (SoundHL.nil _) (SoundCL.cons (All_okC (c.toNat - 1)) (SoundCL.cons rTruths_okC (SoundCL.nil _)))) mixed Try.func13 (show Try.f13.body = some (bodyOf Try.f13) by kernel_rfl) noLoopsS (t := (Tree.need [isRec 4 n fun k => [i (a k), i (b k), i (u k), i (v k)]] (Tree.branch (!fewB c T lo hi n a b u v) (Tree.leaf (RV.x (Value.bool true))) (Tree.branch (decide ((↑m : Int) > (15 : Int))) (Tree.leaf (RV.x (Value.bool true))) (Tree.need [isRec 4 n fun k => [i (a k), i (b k), i (u k), i (v k)], n ≤ 100000] (Tree.need [isRec 4 n fun k => [i (a k), i (b k), i (u k), i (v k)]] (Tree.need [isRec 4 n fun k => [i (a k), i (b k), i (u k), i (v k)], n ≤ 100000] (Tree.need [isRec 1 m fun j => [i (g j)], m ≤ 100000] (Tree.need [isRec 4 n fun k => [i (a k), i (b k), i (u k), i (v k)], isRec 1 m fun k => [i (g k)], m ≤ 1000] (Tree.need [isRec 4 n fun k => [i (a k), i (b k), i (u k), i (v k)]] (Tree.branch (flt c T lo hi n a b u v != (0 : Int)) (Tree.branch (knE c T lo hi n a b u v == flt c T lo hi n a b u v) (Tree.branch ((↑(knL c T lo hi n a b u v) : Int) == (0 : Int)) (Tree.branch (!pkB c T lo hi n a b u v m g) (Tree.leaf (RV.x (Value.bool true))) (Tree.leaf (RV.x (Value.bool false)))) (Tree.leaf (RV.x (Value.bool false)))) (Tree.leaf (RV.x (Value.bool false)))) (Tree.need [alQ c T lo hi (Int.toNat c - 1) 0 fun x => (0 : Int)] (Tree.need [isLL (List.length (allV T lo hi (Int.toNat c - 1) [])) fun k => [LI (nL (allV T lo hi (Int.toNat c - 1) []) k)], isRec 4 n fun k => [i (a k), i (b k), i (u k), i (v k)], isRec 1 m fun j => [i (g j)], flt c T lo hi n a b u v = (0 : Int), smLL (lolOf (List.length (allV T lo hi (Int.toNat c - 1) [])) fun k => [LI (nL (allV T lo hi (Int.toNat c - 1) []) k)]), m ≤ 100000] (Tree.branch (!pkB c T lo hi n a b u v m g == ikL c T lo hi n a b u v (lolOf (List.length (allV T lo hi (Int.toNat c - 1) [])) fun k => [LI (nL (allV T lo hi (Int.toNat c - 1) []) k)]) m g) (Tree.leaf (RV.x (Value.bool false))) (Tree.need [isRec 4 n fun k => [i (a k), i (b k), i (u k), i (v k)], isLL (List.length (allV T lo hi (Int.toNat c - 1) [])) fun k => [LI (nL (allV T lo hi (Int.toNat c - 1) []) k)], flt c T lo hi n a b u v = (0 : Int), smLL (lolOf (List.length (allV T lo hi (Int.toNat c - 1) [])) fun k => [LI (nL (allV T lo hi (Int.toNat c - 1) []) k)])] (Tree.branch (decide ((↑(List.length (List.filter (itW c T lo hi n a b u v) (lolOf (List.length (allV T lo hi (Int.toNat c - 1) [])) fun k => [LI (nL (allV T lo hi (Int.toNat c - 1) []) k)]))) : Int) > (0 : Int))) (Tree.branch (knE c T lo hi n a b u v == (7 : Int)) (Tree.branch ((↑(knL c T lo hi n a b u v) : Int) == (0 : Int)) (Tree.leaf (RV.x (Value.bool true))) (Tree.leaf (RV.x (Value.bool false)))) (Tree.leaf (RV.x (Value.bool false)))) (Tree.branch (knE c T lo hi n a b u v == (0 : Int)) (Tree.need [isLL (List.length (allV T lo hi (Int.toNat c - 1) [])) fun k => [LI (nL (allV T lo hi (Int.toNat c - 1) []) k)], isRec 4 n fun k => [i (a k), i (b k), i (u k), i (v k)], isRec 1 (knL c T lo hi n a b u v) fun j => [i (knF c T lo hi n a b u v n j)], flt c T lo hi n a b u v = (0 : Int), smLL (lolOf (List.length (allV T lo hi (Int.toNat c - 1) [])) fun k => [LI (nL (allV T lo hi (Int.toNat c - 1) []) k)]), knL c T lo hi n a b u v ≤ 100000] (Tree.branch (ikL c T lo hi n a b u v (lolOf (List.length (allV T lo hi (Int.toNat c - 1) [])) fun k => [LI (nL (allV T lo hi (Int.toNat c - 1) []) k)]) (knL c T lo hi n a b u v) (knF c T lo hi n a b u v n)) (Tree.leaf (RV.x (Value.bool true))) (Tree.leaf (RV.x (Value.bool false))))) (Tree.leaf (RV.x (Value.bool false)))))))))))))))))))) (by kernel_rfl) ?_
  have hPA : fewB c T lo hi n a b u v = true → flt c T lo hi n a b u v = 0 → (allV T lo hi (c.toNat - 1) []).length ≤ 1000000 := fun h1 h2 => by have := (few_all h1 h2).1; omega
  have htu : List.filter (itW c T lo hi n a b u v) (allV T lo hi (c.toNat - 1) []) = tuL c T lo hi n a b u v := rfl
  simp only [Tree.sat, allP, fitP, fitL, valEq, inI64, true_and, and_true, decide_eq_true_eq, decide_eq_false_iff_not, Int.toNat_natCast, lol_LL, htu, Bool.not_eq_true', Bool.not_eq_false', bne_iff_ne, ne_eq, bne_eq_false_iff_eq, Bool.and_true, Bool.and_eq_true, beq_iff_eq, beq_eq_false_iff_ne, not_true_eq_false, false_imp_iff, true_imp_iff, c10, c40, c41, c42, c43]
  refine ⟨isRec4 n a b u v, fun _ => trivial, fun hfew => ⟨fun _ => trivial, fun hm => ⟨⟨isRec4 n a b u v, few_n hfew⟩, isRec4 n a b u v, ⟨isRec4 n a b u v, few_n hfew⟩, ⟨isRec1 _ _, by omega⟩, ⟨isRec4 n a b u v, isRec1 _ _, by omega⟩, isRec4 n a b u v, fun h1 => ?_, fun h1 => ?_⟩⟩⟩
  · have hE : knE c T lo hi n a b u v = flt c T lo hi n a b u v := if_neg h1
    have hL : knL c T lo hi n a b u v = 0 := if_neg (by rw [hE]; exact h1)
    have hp : pkB c T lo hi n a b u v m g = false := by simp [pkB, h1]
    rw [hE, hL, hp]
    (repeat' first | with_reducible apply And.intro | with_reducible intro _)
    all_goals first | exact True.intro | omega | with_reducible rfl | (rename_i h; exact absurd rfl h) | (rename_i h; cases h; done) | rfl
  · have hf := flt_iff.1 h1
    have hb := tube_bd hf.1
    have hsm := smLL_all (hPA hfew h1) (by omega)
    have hok := tu_ok h1
    have hAl := hPA hfew h1
    have hkn := kn_inv c T lo hi n a b u v n (Nat.le_refl n)
    have hkl : knL c T lo hi n a b u v ≤ 100000 := by
      have : knL c T lo hi n a b u v = if knE c T lo hi n a b u v = 0 then knN c T lo hi n a b u v n else 0 := rfl
      rw [this]
      split <;> omega
    have hA : ∀ h : (tuL c T lo hi n a b u v).length = 0, knE c T lo hi n a b u v = 0 ∧ ikL c T lo hi n a b u v (allV T lo hi (c.toNat - 1) []) (knL c T lo hi n a b u v) (knF c T lo hi n a b u v n) = true := by
      intro h
      have h2 : knA c T lo hi n a b u v = true := by
        rw [knA_ok, Bool.not_eq_true', ← Bool.not_eq_true, hok]
        exact fun h3 => h3 (List.eq_nil_of_length_eq_zero h)
      have hE : knE c T lo hi n a b u v = 0 := by simp [knE, h1, h2]
      refine ⟨hE, ?_⟩
      rw [ik_eq h1, show knL c T lo hi n a b u v = knN c T lo hi n a b u v n from if_pos hE]
      exact kn_ik h1 h2
    have hB : 0 < (tuL c T lo hi n a b u v).length → knE c T lo hi n a b u v = 7 ∧ knL c T lo hi n a b u v = 0 := by
      intro h
      have h2 : knA c T lo hi n a b u v = false := by
        rw [knA_ok, hok.2 (List.length_pos_iff.1 h)]
        rfl
      have hE : knE c T lo hi n a b u v = 7 := by simp [knE, h1, h2]
      exact ⟨hE, if_neg (by rw [hE]; decide)⟩
    have hI := ik_eq (m := m) (g := g) h1
    rw [hI]
    refine ⟨⟨by omega, by omega, hb.2.1, fun k hk => absurd hk (Nat.not_lt_zero _), hAl⟩, ⟨isLL_LL _, isRec4 n a b u v, isRec1 _ _, h1, hsm, by omega⟩, fun h2 => by simp at h2, fun _ => ⟨⟨isRec4 n a b u v, isLL_LL _, h1, hsm⟩, fun h3 => ?_, fun h3 => ?_⟩⟩
    · obtain ⟨k1, k2⟩ := hB (by omega)
      rw [k1, k2]
      (repeat' first | with_reducible apply And.intro | with_reducible intro _)
      all_goals first | exact True.intro | omega | with_reducible rfl | (rename_i h; exact absurd rfl h) | rfl
    · obtain ⟨k1, k2⟩ := hA (by omega)
      rw [k1, k2]
      (repeat' first | with_reducible apply And.intro | with_reducible intro _)
      all_goals first | exact True.intro | omega | with_reducible rfl | exact isLL_LL _ | exact isRec4 _ _ _ _ _ | exact isRec1 _ _ | exact hsm | exact hkl | exact h1 | (rename_i h; exact absurd rfl h) | (rename_i h; cases h; done) | rfl

end Go.Proofs.Ytmdeoobmeokmeaa
