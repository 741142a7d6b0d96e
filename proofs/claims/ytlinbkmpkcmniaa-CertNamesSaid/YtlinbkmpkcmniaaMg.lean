/- Texts of this claim, put together: SxM, SxN, SxNa -/
import Derived.Test.YtlinbkmpkcmniaaMf
import Derived.Orders
set_option linter.unusedSimpArgs false
set_option linter.unusedVariables false
namespace Go.Sx
open Go Go.RowKit
def forcedB (M : List Nat) (k : Nat) : Bool := Nat.beq (Nat.land (M.getD k 0) (2 ^ k - 1)) (2 ^ k - 1)
theorem forced_bit {M : List Nat} {k : Nat} (h : forcedB M k = true) {j : Nat} (hj : j < k) : (M.getD k 0).testBit j = true := by
 have h1 : Nat.land (M.getD k 0) (2 ^ k - 1) = 2 ^ k - 1 := Nat.eq_of_beq_eq_true h
 have h2 : ((M.getD k 0) &&& (2 ^ k - 1)).testBit j = (2 ^ k - 1).testBit j := congrArg (·.testBit j) h1
 rw [Nat.testBit_and, Nat.testBit_two_pow_sub_one] at h2
 simpa [hj] using h2
def mmOf (M : List Nat) : Nat → Nat
 | 0 => 0
 | k + 1 => match forcedB M k with
  | true => mmOf M k
  | false => k + 1
theorem mmOf_le (M : List Nat) : ∀ n, mmOf M n ≤ n
 | 0 => Nat.le_refl _
 | k + 1 => by
        unfold mmOf; split
        ·exact Nat.le_succ_of_le (mmOf_le M k)
        ·exact Nat.le_refl _
theorem mmOf_forced (M : List Nat) : ∀ n k, mmOf M n ≤ k → k < n → forcedB M k = true
 | 0, _, _, h => by omega
 | n + 1, k, h, hk => by
  unfold mmOf at h
  split at h
  ·rename_i hf
   by_cases he : k = n
   ·subst he; exact hf
   ·exact mmOf_forced M n k h (by omega)
  ·omega
section
variable (ops : List Oper) (mm : Nat) (outs : List Outc) (dec : List (Nat × Bool))
def finV (t : Nat) (a : AV) : AV := match writer t ops 0 with
 | some k => match Nat.blt k mm with
  | true => decV dec k (outs.getD k noOut).val
  | false => a
 | none => a
def finS : List AV → Nat → List AV
 | [], _ => []
 | a :: l, t => finV ops mm outs dec t a :: finS l (t + 1)
theorem finS_length : ∀ (l : List AV) (t : Nat), (finS ops mm outs dec l t).length = l.length
 | [], _ => rfl
 | a :: l, t => by simp [finS, finS_length l]
theorem finS_get : ∀ (l : List AV) (t i : Nat), (finS ops mm outs dec l t)[i]? = (l[i]?).map (finV ops mm outs dec (t + i))
 | [], _, _ => rfl
 | a :: l, t, 0 => by simp [finS]
 | a :: l, t, i + 1 => by simp only [finS, List.getElem?_cons_succ]; rw [finS_get l (t + 1) i, show t + 1 + i = t + (i + 1) by omega]
end
def updOf (outs : List Outc) (j : Nat) : Option Res :=
 match outs with
 | [] => none
 | c :: os => match c.upd with
  | some (k, r) => match Nat.beq k j with
   | true => some r
   | false => updOf os j
  | none => updOf os j
theorem updOf_some {j : Nat} {r : Res} : ∀ {outs : List Outc}, updOf outs j = some r → ∃ (i : Nat) (c : Outc), outs[i]? = some c ∧ c.upd = some (j, r)
 | [], h => by simp [updOf] at h
 | c :: os, h => by
  unfold updOf at h
  split at h
  ·rename_i k r' hu
   split at h
   ·rename_i hb
    cases h
    have : k = j := Nat.eq_of_beq_eq_true hb
    exact ⟨0, c, rfl, by rw [hu, this]⟩
   ·obtain ⟨i, c', h1, h2⟩ := updOf_some h; exact ⟨i + 1, c', by simpa using h1, h2⟩
  ·obtain ⟨i, c', h1, h2⟩ := updOf_some h; exact ⟨i + 1, c', by simpa using h1, h2⟩
theorem updOf_none {j : Nat} : ∀ {outs : List Outc}, updOf outs j = none → ∀ (i : Nat) (c : Outc) (r : Res), outs[i]? = some c → c.upd ≠ some (j, r)
 | [], _, i, c, r, h => by simp at h
 | c0 :: os, h, i, c, r, hc => by
  unfold updOf at h
  cases i with
  | zero =>
   simp at hc; subst hc
   intro hu
   rw [hu] at h
   simp at h
  | succ i =>
   simp at hc
   split at h
   ·split at h
    ·cases h
    ·exact updOf_none h i c r hc
   ·exact updOf_none h i c r hc
def ateB (j : Nat) : List Outc → Bool
 | [] => false
 | c :: t => (match c.eat with
  | some q => Nat.beq q j
  | none => false) || ateB j t
theorem ateB_true {j : Nat} : ∀ {l : List Outc} {i : Nat} {c : Outc}, l[i]? = some c → c.eat = some j → ateB j l = true
 | [], _, _, h, _ => by simp at h
 | c0 :: t, i, c, h, he => by
  unfold ateB
  cases i with
  | zero => simp at h; subst h; rw [he]; simp
  | succ i => rw [ateB_true (l := t) (i := i) (by simpa using h) he]; simp
def addsFin (nx0 : Nat) (all : List Outc) : List Outc → Nat → Mem
 | [], _ => []
 | o :: os, j => match o.add with
  | some r => match ateB j all with
   | true => addsFin nx0 all os (j + 1)
   | false => (nx0 + j, match updOf all j with | some r' => r' | none => r) :: addsFin nx0 all os (j + 1)
  | none => addsFin nx0 all os (j + 1)
theorem addsFin_mem {nx0 : Nat} {all : List Outc} : ∀ {outs : List Outc} {j0 : Nat} {p : Nat × Res}, p ∈ addsFin nx0 all outs j0 → ∃ j, ∃ c : Outc, ∃ r, outs[j]? = some c ∧ p.1 = nx0 + (j0 + j) ∧ c.add = some r ∧ p.2 = (match updOf all (j0 + j) with | some r' => r' | none => r) ∧ ateB (j0 + j) all = false
 | [], _, _, h => by simp [addsFin] at h
 | c :: outs, j0, p, h => by
  have tl : p ∈ addsFin nx0 all outs (j0 + 1) → ∃ j, ∃ c' : Outc, ∃ r, (c :: outs)[j]? = some c' ∧ p.1 = nx0 + (j0 + j) ∧ c'.add = some r ∧ p.2 = (match updOf all (j0 + j) with | some r' => r' | none => r) ∧ ateB (j0 + j) all = false := by
   intro h
   obtain ⟨j, c', r, h1, h2, h3, h4, h5⟩ := addsFin_mem h
   refine ⟨j + 1, c', r, by simpa using h1, ?_, h3, ?_, ?_⟩
   ·rw [show j0 + (j + 1) = j0 + 1 + j by omega]; exact h2
   ·rw [show j0 + (j + 1) = j0 + 1 + j by omega]; exact h4
   ·rw [show j0 + (j + 1) = j0 + 1 + j by omega]; exact h5
  unfold addsFin at h
  split at h
  ·rename_i r hr
   split at h
   ·exact tl h
   ·rename_i ha
    rcases List.mem_cons.1 h with rfl | h
    ·exact ⟨0, c, r, rfl, rfl, hr, rfl, ha⟩
    ·exact tl h
  ·exact tl h
def isAka : Res → Bool
 | .aka _ _ _ _ _ => true
 | _ => false
theorem akaOf_no {r : Res} (h : isAka r = false) (k : Nat) : akaOf k r = false := by
 cases r <;> first | rfl | (simp [isAka] at h)
theorem akaOf_is {r : Res} {k : Nat} (h : akaOf k r = true) : isAka r = true := by
 cases r <;> first | rfl | (simp [akaOf] at h)
def addAka (c : Outc) : Bool := match c.add with
 | some r => isAka r
 | none => false
def noAddAka : List Outc → Bool
 | [] => true
 | c :: t => !addAka c && noAddAka t
def oneAka : List Outc → Bool
 | [] => true
 | c :: t => match addAka c with
  | true => noAddAka t
  | false => oneAka t
def lowAka (nx0 : Nat) (c : Outc) : Bool := (match c.upd with
 | some (_, r) => !isAka r
 | none => true) && (match c.add with
 | some (.aka q _ _ _ _) => Nat.blt q nx0
 | _ => true)
def akaOkB (nx0 : Nat) (m : Mem) (outs : List Outc) : Bool := m.all (fun p => !isAka p.2) && (outs.all (lowAka nx0) && oneAka outs)
structure AkaOk (nx0 : Nat) (m : Mem) (outs : List Outc) : Prop where
 m0 : ∀ p ∈ m, isAka p.2 = false
 upd : ∀ (i : Nat) (c : Outc) (j : Nat) (r : Res), outs[i]? = some c → c.upd = some (j, r) → isAka r = false
 low : ∀ (i : Nat) (c : Outc) (r : Res) (q : Nat), outs[i]? = some c → c.add = some r → akaOf q r = true → q < nx0
 one : ∀ (i j : Nat) (ci cj : Outc) (ri rj : Res), outs[i]? = some ci → outs[j]? = some cj → ci.add = some ri → cj.add = some rj → isAka ri = true → isAka rj = true → i = j
theorem noAdd_aka : ∀ {l : List Outc}, noAddAka l = true → ∀ (i : Nat) (c : Outc) (r : Res), l[i]? = some c → c.add = some r → isAka r = false
 | [], _, i, c, r, h, _ => by simp at h
 | c0 :: t, h, i, c, r, hc, hr => by
  simp only [noAddAka, Bool.and_eq_true, Bool.not_eq_true'] at h
  cases i with
  | zero =>
   simp at hc; subst hc
   have := h.1
   unfold addAka at this
   rw [hr] at this
   exact this
  | succ i => exact noAdd_aka h.2 i c r (by simpa using hc) hr
theorem oneAka_eq : ∀ {l : List Outc}, oneAka l = true → ∀ (i j : Nat) (ci cj : Outc) (ri rj : Res), l[i]? = some ci → l[j]? = some cj → ci.add = some ri → cj.add = some rj → isAka ri = true → isAka rj = true → i = j
 | [], _, i, _, ci, _, _, _, h, _, _, _, _, _ => by simp at h
 | c0 :: t, h, i, j, ci, cj, ri, rj, h1, h2, h3, h4, h5, h6 => by
  unfold oneAka at h
  split at h
  ·rename_i ha
   cases i with
   | zero =>
    cases j with
    | zero => rfl
    | succ j =>
     have := noAdd_aka h j cj rj (by simpa using h2) h4
     rw [h6] at this; cases this
   | succ i =>
    have := noAdd_aka h i ci ri (by simpa using h1) h3
    rw [h5] at this; cases this
  ·rename_i ha
   have hz : ∀ c r, c0 = c → c.add = some r → isAka r = true → False := by
    rintro c r rfl hr hh
    unfold addAka at ha
    rw [hr] at ha
    simp only at ha
    rw [hh] at ha; cases ha
   cases i with
   | zero => exact (hz ci ri (by simpa using h1) h3 h5).elim
   | succ i =>
    cases j with
    | zero => exact (hz cj rj (by simpa using h2) h4 h6).elim
    | succ j => rw [oneAka_eq h i j ci cj ri rj (by simpa using h1) (by simpa using h2) h3 h4 h5 h6]
theorem akaOk_of {nx0 : Nat} {m : Mem} {outs : List Outc} (h : akaOkB nx0 m outs = true) : AkaOk nx0 m outs := by
 simp only [akaOkB, Bool.and_eq_true] at h
 obtain ⟨h1, h2, h3⟩ := h
 have hl : ∀ (i : Nat) (c : Outc), outs[i]? = some c → lowAka nx0 c = true := fun i c hc => List.all_eq_true.1 h2 c (List.mem_of_getElem? hc)
 refine ⟨fun p hp => by simpa using List.all_eq_true.1 h1 p hp, fun i c j r hc hu => ?_, fun i c r q hc hr hq => ?_, oneAka_eq h3⟩
 ·have := hl i c hc
  simp only [lowAka, Bool.and_eq_true] at this
  have h := this.1
  rw [hu] at h
  simpa using h
 ·have := hl i c hc
  simp only [lowAka, Bool.and_eq_true] at this
  have h := this.2
  rw [hr] at h
  cases r with
  | aka q' T sz n f =>
   simp only [Nat.blt_eq] at h
   have : q' = q := Nat.eq_of_beq_eq_true hq
   omega
  | _ => simp [akaOf] at hq
def regD (P : Program) (G : List (Nat × Spec)) (X : Ext) (ops : List Oper) (s : St) : Tree St :=
 match wellB s.σ.length ops ops 0 with
 | false => .fail
 | true => (drawT P G X ops (masks ops []) s.σ s.m s.nx (mmOf (masks ops []) ops.length) (ops.take (mmOf (masks ops []) ops.length)) 0 [] []).bind fun p => match akaOkB s.nx s.m p.1 with
  | false => .fail
  | true => regT P G X ops (ops.drop (mmOf (masks ops []) ops.length))
   {s with σ := finS ops (mmOf (masks ops []) ops.length) p.1 p.2 s.σ 0, m := addsFin s.nx p.1 p.1 0 ++ s.m, nx := s.nx + mmOf (masks ops []) ops.length }
theorem countP_lt {p q : Nat → Bool} : ∀ {l : List Nat}, (∀ i ∈ l, q i = true → p i = true) → ∀ {i}, i ∈ l → p i = true → q i = false → l.countP q < l.countP p
 | [], _, _, h, _, _ => by cases h
 | a :: l, hle, i, hi, hp, hq => by
  have hle' : l.countP q ≤ l.countP p := List.countP_mono_left fun x hx => hle x (List.mem_cons_of_mem _ hx)
  simp only [List.countP_cons]
  rcases List.mem_cons.1 hi with rfl | hi
  ·rw [hp, hq]; simp; omega
  ·have := countP_lt (fun x hx => hle x (List.mem_cons_of_mem _ hx)) hi hp hq
   have h2 : (if q a = true then 1 else 0) ≤ (if p a = true then 1 else 0) := by
    by_cases hqa : q a = true
    ·rw [hqa, hle a List.mem_cons_self hqa]; exact Nat.le_refl _
    ·simp [hqa]
   omega
def unl (n : Nat) (L : Array Bool) : Nat := (List.range n).countP fun i => !L.getD i true
theorem mem_ready {ops : Array Oper} {L : Array Bool} {i : Nat} (h : i ∈ Region.ready .any ops L) : i < ops.size ∧ L.getD i true = false ∧ ∃ o, ops[i]? = some o ∧ ∀ j ∈ directP o, inS L j := by
 unfold Region.ready at h
 rw [List.mem_filter] at h
 obtain ⟨h1, h2⟩ := h
 simp only [Bool.and_eq_true, Bool.not_eq_true', List.mem_range] at h1 h2
 obtain ⟨h3, h4⟩ := h2
 refine ⟨h1, h3, ops[i], by simp [h1], fun j hj => ?_⟩
 have ho : ops[i]? = some ops[i] := by simp [h1]
 rw [ho] at h4
 simp only [Option.map_some, Option.getD_some] at h4
 simp only [directP, List.mem_map, List.mem_filter] at hj
 obtain ⟨ed, ⟨he1, he2⟩, rfl⟩ := hj
 have := Array.all_eq_true_iff_forall_mem.1 h4 ed (by simpa using he1)
 simpa [he2, inS] using this
theorem wpAny_of {ro : Option Nat} {n : Nat} {P : Program} {ops : Array Oper} {Q : Exit → Act → World → Prop} (Inv : Array Bool → Act → World → Prop)
  (step : ∀ L a w i, Inv L a w → i ∈ Region.ready .any ops L → wpOpIn (fr ro) n P ops Q i (fun a' w' => Inv (L.setIfInBounds i true) a' w') a w)
  (done : ∀ L a w, Inv L a w → Region.ready .any ops L = [] → Q .normal a w) (hsz : ∀ L a w, Inv L a w → L.size = ops.size) :
  ∀ (fuel : Nat) (L : Array Bool) (a : Act) (w : World), Inv L a w → unl ops.size L ≤ fuel → wpAnyIn (fr ro) n P .any ops Q fuel L a w
 | 0, L, a, w, hI, hu => by
  have hr : Region.ready .any ops L = [] := by
   rw [List.eq_nil_iff_forall_not_mem]
   intro i hi
   obtain ⟨h1, h2, _⟩ := mem_ready hi
   have : 0 < unl ops.size L := by
    unfold unl
    rw [List.countP_pos_iff]
    exact ⟨i, List.mem_range.2 h1, by rw [h2]; rfl⟩
   omega
  exact ⟨hr, done L a w hI hr⟩
 | fuel + 1, L, a, w, hI, hu => by
  refine ⟨done L a w hI, fun i hi => ?_⟩
  obtain ⟨h1, h2, _⟩ := mem_ready hi
  have hLs := hsz L a w hI
  refine wpOpIn_mono (fun a' w' hI' => wpAny_of Inv step done hsz fuel _ a' w' hI' ?_) (step L a w i hI hi)
  have : unl ops.size (L.setIfInBounds i true) < unl ops.size L := by
   unfold unl
   refine countP_lt (fun j hj hq => ?_) (List.mem_range.2 h1) (by rw [h2]; rfl) ?_
   ·by_cases hij : i = j
    ·subst hij
     simp [Array.getD_eq_getD_getElem?, hLs, h1] at hq
    ·simpa [Array.getD_eq_getD_getElem?, Array.getElem?_setIfInBounds, hij] using hq
   ·simp [Array.getD_eq_getD_getElem?, hLs, h1]
  omega
theorem inS_set {L : Array Bool} {i k : Nat} (hi : i < L.size) : inS (L.setIfInBounds i true) k ↔ k = i ∨ inS L k := by
 unfold inS
 simp only [Array.getD_eq_getD_getElem?, Array.getElem?_setIfInBounds]
 by_cases h : i = k
 ·subst h; simp [hi]
 ·simp [h, Ne.symm h]
theorem not_inS {L : Array Bool} {i : Nat} (hi : i < L.size) (h : L.getD i true = false) : ¬ inS L i := by
 unfold inS
 simp [Array.getD_eq_getD_getElem?, hi] at h ⊢
 exact h
theorem addsOf_mem {nx0 mask : Nat} {all : List Outc} : ∀ {outs : List Outc} {j0 : Nat} {p : Nat × Res}, p ∈ addsOf nx0 mask all outs j0 → ∃ j, ∃ c : Outc, outs[j]? = some c ∧ mask.testBit (j0 + j) = true ∧ p.1 = nx0 + (j0 + j) ∧ c.add = some p.2 ∧ eatenB mask (j0 + j) all 0 = false
 | [], _, _, h => by simp [addsOf] at h
 | c :: outs, j0, p, h => by
  have tl : p ∈ addsOf nx0 mask all outs (j0 + 1) → ∃ j, ∃ c' : Outc, (c :: outs)[j]? = some c' ∧ mask.testBit (j0 + j) = true ∧ p.1 = nx0 + (j0 + j) ∧ c'.add = some p.2 ∧ eatenB mask (j0 + j) all 0 = false := by
   intro h
   obtain ⟨j, c', h1, h2, h3, h4, h5⟩ := addsOf_mem h
   exact ⟨j + 1, c', by simpa using h1, by rw [show j0 + (j + 1) = j0 + 1 + j by omega]; exact h2, by rw [show j0 + (j + 1) = j0 + 1 + j by omega]; exact h3, h4, by rw [show j0 + (j + 1) = j0 + 1 + j by omega]; exact h5⟩
  unfold addsOf at h
  split at h
  ·rename_i hb
   split at h
   ·rename_i r hr
    split at h
    ·exact tl h
    ·rename_i hea
     rcases List.mem_cons.1 h with rfl | h
     ·exact ⟨0, c, rfl, by simpa using hb, rfl, hr, hea⟩
     ·exact tl h
   ·exact tl h
  ·exact tl h
section
variable {P : Program} {G : List (Nat × Spec)} {X : Ext} {ops : Array Oper} {c : Cx} {w0 : World} {T : Nat → Prop} {s0 : St} {outs : List Outc} {dec : List (Nat × Bool)}
def slotAV (ops : List Oper) (σ0 : List AV) (outs : List Outc) (L : Array Bool) (t : Nat) : AV := match writer t ops 0 with
 | some k => if L.getD k false = true then (outs.getD k noOut).val else σ0.getD t .top
 | none => σ0.getD t .top
structure Inv1 (ops : Array Oper) (c : Cx) (w0 : World) (T : Nat → Prop) (s0 : St) (outs : List Outc) (mm : Nat) (L : Array Bool) (a : Act) (w : World) : Prop where
 size : L.size = ops.size
 dc : DC ops.toList L
 lt : ∀ k, inS L k → k < mm
 rel : ∃ e, EnvOk e w0.heap.size w ∧ Below w0.heap.size w0 w ∧ MemOk e s0.m w ∧ (∀ j c, inS L j → outs[j]? = some c → ∀ r, c.add = some r → (∀ i ci, inS L i → outs[i]? = some ci → ci.eat ≠ some j) → ∃ r'', Holds e w (s0.nx + j) r'' ∧ (∀ i ci r', inS L i → outs[i]? = some ci → ci.upd = some (j, r') → r'' = r') ∧ ((∀ i ci r', inS L i → outs[i]? = some ci → ci.upd ≠ some (j, r')) → r'' = r)) ∧
  (∀ k, e.live k → k < s0.nx ∨ ∃ i, inS L i ∧ k = s0.nx + i) ∧ ((∀ b, T b → b < w0.heap.size ∧ ¬ e.ro b) ∧ Xt c e s0.sv a.defers w) ∧ a.tmps.size = s0.σ.length ∧ ∀ t v, a.tmps[t]? = some v → Rep e w (slotAV ops.toList s0.σ outs L t) v
theorem Rep.litOf {e : Env} {w : World} {d : Bool} {v : Value} (h : Rep e w (.x (.bool d)) v) : Rep e w (.lit d) v := by rw [h.x_inv]; exact .lit d
theorem storeD_spec {M : List Nat} {mm : Nat} {σ0 : List AV} {m0 : Mem} {nx0 : Nat} {opsL : List Oper} {o : Oper} {i j : Nat} {r : Res} {ns : List Prop} {outs : List Outc} {dec : List (Nat × Bool)} (h : storeD P opsL M σ0 m0 nx0 mm o i outs dec = some (ns, j, r)) :
  ∃ t x y off m', o.op = .store t x y ∧ rhoD opsL M σ0 outs dec i x = .ptr (nx0 + j) off ∧ loneB M mm i j = true ∧ opStore P (addsOf nx0 (M.getD i 0) outs outs 0 ++ m0) t (.ptr (nx0 + j) off) (rhoD opsL M σ0 outs dec i y) = some (ns, m') ∧ getM m' (nx0 + j) = some r := by
 unfold storeD at h
 split at h
 ·rename_i t x y ho
  split at h
  ·rename_i id off hx
   split at h
   ·rename_i hb
    simp only [Bool.and_eq_true] at hb
    have hle := Nat.le_of_ble_eq_true hb.1
    split at h
    ·rename_i ns' m' hst
     split at h
     ·rename_i r' hg
      simp only [Option.some.injEq, Prod.mk.injEq] at h
      obtain ⟨rfl, rfl, rfl⟩ := h
      have e1 : nx0 + (id - nx0) = id := by omega
      exact ⟨t, x, y, off, m', ho, by rw [e1]; exact hx, hb.2, by rw [e1]; exact hst, by rw [e1]; exact hg⟩
     ·cases h
    ·cases h
   ·cases h
  ·cases h
 ·cases h
theorem upd_lone {M : List Nat} {σ0 : List AV} {m0 : Mem} {nx0 mm : Nat} {opsL : List Oper} (hall : AllOk P G X opsL M σ0 m0 nx0 mm outs dec) {i j : Nat} {c : Outc} {r : Res} (hc : outs[i]? = some c) (ho : i < opsL.length) (hu : c.upd = some (j, r)) : loneB M mm i j = true := by
 have hi : i < outs.length := (List.getElem?_eq_some_iff.1 hc).1
 have hg : outs.getD i noOut = c := by simp [List.getD, hc]
 obtain ⟨dec', _, h | h⟩ := hall.2 i opsL[i] hi (List.getElem?_eq_getElem ho)
 ·rcases h.1 with ⟨ns, _, hn, _⟩ | ⟨ns, j', r', hst, he, _⟩ | ⟨ns, val, r', eat, hst, he, _⟩ | ⟨t, val, _, he, _⟩ | ⟨ns, val, eat, _, he, _⟩ | ⟨ns, val, r', _, he, _⟩
  ·rw [hg, hu] at hn; cases hn
  ·rw [hg] at he
   subst he
   simp only [Option.some.injEq, Prod.mk.injEq] at hu
   obtain ⟨rfl, rfl⟩ := hu
   obtain ⟨_, _, _, _, _, _, _, hl, _⟩ := storeD_spec hst
   exact hl
  ·rw [hg] at he
   subst he
   cases hu
  ·rw [hg] at he
   subst he
   cases hu
  ·rw [hg] at he
   subst he
   cases hu
  ·rw [hg] at he
   subst he
   cases hu
 ·rw [hg] at h
  rw [h.1] at hu; cases hu
theorem appD_spec {M : List Nat} {mm : Nat} {σ0 : List AV} {m0 : Mem} {nx0 : Nat} {opsL : List Oper} {o : Oper} {i : Nat} {val : AV} {r : Res} {eat : Option Nat} {ns : List Prop} {outs : List Outc} {dec : List (Nat × Bool)} (h : appD P opsL M σ0 m0 nx0 mm o i outs dec = some (ns, val, r, eat)) :
  ∃ c s x t tl, o.op = .call c ∧ c.callee = .builtin .append ∧ c.args.toList = [s, x] ∧ c.argTypes.toList = [t, t] ∧ opAppend P (nx0 + i) (addsOf nx0 (M.getD i 0) outs outs 0 ++ m0) t (rhoD opsL M σ0 outs dec i s) (rhoD opsL M σ0 outs dec i x) = some (ns, val, (nx0 + i, r) :: tl) ∧
   ((∃ j, eat = some j ∧ rhoD opsL M σ0 outs dec i s = .row (nx0 + j) ∧ eatB M mm i j = true) ∨ (eat = none ∧ ∃ v, rhoD opsL M σ0 outs dec i s = .x v)) := by
 have hid : ∀ {id : Nat} {m m' : Mem} {t : TypeId} {s x v : AV} {ns : List Prop} {p : Nat} {r : Res} {tl : Mem}, opAppend P id m t s x = some (ns, v, (p, r) :: tl) → p = id := by
  intro id m m' t s x v ns p r tl h
  unfold opAppend at h
  repeat' split at h
  all_goals first | (simp only [Option.some.injEq, Prod.mk.injEq, List.cons.injEq] at h; exact h.2.2.1.1.symm) | cases h
 unfold appD at h
 split at h
 ·rename_i c ho
  split at h
  ·rename_i s x t t' hc ha hta
   split at h
   ·rename_i htt
    have : t = t' := Nat.eq_of_beq_eq_true htt
    subst this
    split at h
    ·rename_i id hs
     split at h
     ·rename_i hb
      simp only [Bool.and_eq_true] at hb
      have hle := Nat.le_of_ble_eq_true hb.1
      split at h
      ·rename_i ns' v' p r' tl hap
       simp only [Option.some.injEq, Prod.mk.injEq] at h
       obtain ⟨rfl, rfl, rfl, rfl⟩ := h
       have hp := hid (m' := []) hap
       subst hp
       exact ⟨c, s, x, t, tl, ho, hc, ha, hta, by rw [hs]; exact hap, .inl ⟨id - nx0, rfl, by rw [hs]; congr 1; omega, hb.2⟩⟩
      ·cases h
     ·cases h
    ·rename_i v hs
     split at h
     ·rename_i ns' v' p r' tl hap
      simp only [Option.some.injEq, Prod.mk.injEq] at h
      obtain ⟨rfl, rfl, rfl, rfl⟩ := h
      have hp := hid (m' := []) hap
      subst hp
      exact ⟨c, s, x, t, tl, ho, hc, ha, hta, by rw [hs]; exact hap, .inr ⟨rfl, v, hs⟩⟩
     ·cases h
    ·cases h
   ·cases h
  ·cases h
 ·cases h
theorem appZ_spec {M : List Nat} {mm : Nat} {σ0 : List AV} {m0 : Mem} {nx0 : Nat} {opsL : List Oper} {o : Oper} {i : Nat} {val : AV} {eat : Option Nat} {ns : List Prop} {outs : List Outc} {dec : List (Nat × Bool)} (h : appZ P opsL M σ0 m0 nx0 mm X o i outs dec = some (ns, val, eat)) :
  ∃ v0 T sz n f, appD P opsL M σ0 m0 nx0 mm o i outs dec = some (ns, v0, .row T sz n f, eat) ∧ val = .lst sz n f := by
 unfold appZ at h
 split at h
 ·split at h
  ·split at h
   ·rename_i ns' v0 T sz n f eat' hap
    simp only [Option.some.injEq, Prod.mk.injEq] at h
    obtain ⟨rfl, rfl, rfl⟩ := h
    exact ⟨v0, T, sz, n, f, hap, rfl⟩
   ·cases h
  ·cases h
 ·cases h
theorem appE_spec {M : List Nat} {σ0 : List AV} {m0 : Mem} {nx0 : Nat} {opsL : List Oper} {o : Oper} {i : Nat} {val : AV} {r : Res} {ns : List Prop} {outs : List Outc} {dec : List (Nat × Bool)} (h : appE P opsL M σ0 m0 nx0 o i outs dec = some (ns, val, r)) :
  ∃ c s x t q, o.op = .call c ∧ c.callee = .builtin .append ∧ c.args.toList = [s, x] ∧ c.argTypes.toList = [t, t] ∧ rhoD opsL M σ0 outs dec i s = .row q ∧ q < nx0 ∧ val = .row (nx0 + i) ∧
   opAppendA P (nx0 + i) (addsOf nx0 (M.getD i 0) outs outs 0 ++ m0) t q (rhoD opsL M σ0 outs dec i x) = some (ns, r) := by
 unfold appE at h
 split at h
 ·rename_i c ho
  split at h
  ·rename_i s x t t' hc ha hta
   split at h
   ·rename_i htt
    have : t = t' := Nat.eq_of_beq_eq_true htt
    subst this
    split at h
    ·rename_i id hs
     split at h
     ·rename_i hb
      split at h
      ·rename_i ns' r' hap
       simp only [Option.some.injEq, Prod.mk.injEq] at h
       obtain ⟨rfl, rfl, rfl⟩ := h
       exact ⟨c, s, x, t, id, ho, hc, ha, hta, hs, by simpa [Nat.blt_eq] using hb, rfl, hap⟩
      ·cases h
     ·cases h
    ·cases h
   ·cases h
  ·cases h
 ·cases h
theorem opAppend_val {id : Nat} {m m' : Mem} {t : TypeId} {s x val : AV} {ns : List Prop} (h : opAppend P id m t s x = some (ns, val, m')) : val = .row id := by
 unfold opAppend at h
 split at h
 ·split at h
  ·split at h
   ·split at h
    ·split at h
     ·simp only [Option.some.injEq, Prod.mk.injEq] at h
      exact h.2.1.symm
     ·cases h
    ·cases h
   ·cases h
  ·cases h
 ·cases h
theorem eat_lone {M : List Nat} {σ0 : List AV} {m0 : Mem} {nx0 mm : Nat} {opsL : List Oper} (hall : AllOk P G X opsL M σ0 m0 nx0 mm outs dec) {i j : Nat} {c : Outc} (hc : outs[i]? = some c) (ho : i < opsL.length) (hu : c.eat = some j) : eatB M mm i j = true := by
 have hi : i < outs.length := (List.getElem?_eq_some_iff.1 hc).1
 have hg : outs.getD i noOut = c := by simp [List.getD, hc]
 obtain ⟨dec', _, h | h⟩ := hall.2 i opsL[i] hi (List.getElem?_eq_getElem ho)
 ·rcases h.1 with ⟨ns, _, _, hn, _⟩ | ⟨ns, j', r', hst, he, _⟩ | ⟨ns, val, r', eat, hst, he, _⟩ | ⟨t, val, _, he, _⟩ | ⟨ns, val, eat, hsz, he, _⟩ | ⟨ns, val, r', _, he, _⟩
  ·rw [hg, hu] at hn; cases hn
  ·rw [hg] at he
   subst he
   cases hu
  ·rw [hg] at he
   subst he
   simp only at hu
   subst hu
   obtain ⟨_, _, _, _, _, _, _, _, _, _, h | h⟩ := appD_spec hst
   ·obtain ⟨j', h1, _, h3⟩ := h
    cases h1
    exact h3
   ·exact absurd h.1 (by simp)
  ·rw [hg] at he
   subst he
   cases hu
  ·rw [hg] at he
   subst he
   simp only at hu
   subst hu
   obtain ⟨_, _, _, _, _, hst, _⟩ := appZ_spec hsz
   obtain ⟨_, _, _, _, _, _, _, _, _, _, h | h⟩ := appD_spec hst
   ·obtain ⟨j', h1, _, h3⟩ := h
    cases h1
    exact h3
   ·exact absurd h.1 (by simp)
  ·rw [hg] at he
   subst he
   cases hu
 ·rw [hg] at h
  rw [h.1] at hu; cases hu
theorem callD_came {X : Ext} (hXc : (∀ p ∈ X.C, Enters P p.1 ∧ ∀ avs t, p.2 avs = some t → SoundCAt P p.1 avs t) ∧ (∀ p ∈ X.F, Enters P p.1 ∧ ∀ avs ns T sz n g, p.2 avs = some (ns, T, sz, n, g) → (∀ q ∈ ns, q) → SoundFAt P p.1 avs T sz n g) ∧ ∀ p ∈ X.D, Enters P p.1 ∧ ∀ avs t, p.2 avs = some t → SoundDAt P p.1 avs t) {e : Env} {B : Nat} {w : World} {m : Mem} {id : Nat} {ρ : Operand → AV} {o : Oper} {a : Act} {t : Tree (AV × Option Res)} {val : AV × Option Res}
  (h : callD X id ρ o.op = some t) (ht : t.sat (fun r => r = val)) (hE : EnvOk e B w) (hB : B ≤ w.heap.size) (hm : MemOk e m w) (hid : ¬ e.live id) (hr : ∀ x, Rep e w (ρ x) (a.eval x)) {ro : Option Nat} {n : Nat}
  {K : Act → World → Prop} {Q : Exit → Act → World → Prop} (hK : ∀ v w', Came e B w m id val.1 val.2 v w' → K (a.put o.dst v) w') : o.wpIn (fr ro) n P a w K Q := by
 obtain ⟨dst, op, type, pos, after, guard⟩ := o
 cases op <;> try (simp [callD] at h; done)
 case call c =>
  obtain ⟨callee, args, argTypes⟩ := c
  have ha := RepL.ops hr args.toList
  cases callee <;> try (simp [callD] at h; done)
  case value f =>
   simp only [callD] at h
   have hf := hr f
   split at h
   ·rename_i g first caps hfe
    rw [hfe] at hf
    obtain ⟨us, us', hv, r1, r2⟩ := hf.fn_inv
    have hall : RepL e w (first ++ args.toList.map ρ ++ caps) (us ++ args.toList.map a.eval ++ us') := (r1.append ha).append r2
    split at h
    ·rename_i hidf
     have hrun : Enters P g → (execOp a.eval ⟨dst, .call ⟨.value f, args, argTypes⟩, type, pos, after, guard⟩).run P w = .ok (.enter g (us ++ args.toList.map a.eval ++ us').toArray) w := by
      intro hent
      have e1 : (us ++ args.toList.map a.eval ++ us').toArray = us.toArray ++ args.map a.eval ++ us'.toArray := Array.ext' (by simp)
      simp only [execOp, resolve, hv, Deferred.ofValue, Sem.run_bind, Sem.run_pure, Result.andThen_ok, invoke]
      rw [e1]
      exact run_callFunc hent _ w
     have hidf' : ∀ x ∈ first ++ args.toList.map ρ ++ caps, Idf x := by
      intro x hx
      obtain ⟨i, hi⟩ := List.mem_iff_getElem?.1 hx
      obtain ⟨v, _, rv⟩ := hall.get hi
      exact idfD_idf 6 x v rv (List.all_eq_true.1 hidf x hx)
     split at h
     ·rename_i sp hsp
      split at h
      ·rename_i tr htr
       cases h
       obtain ⟨hent, hs⟩ := hXc.1 _ (getC_mem hsp)
       have hcall := hs _ _ htr _ (Tree.sat_bind ht) e w _ (fun b hb => (hE.apart b hb).2) hidf' hall
       refine wpIn_of_wp (fun c h => by cases h) ?_
       unfold Oper.wp
       rw [hrun hent, Oper.upon_enter]
       refine hcall.mono fun en w' hq => ?_
       obtain ⟨v, rr, rfl, hQ, hb, hrep⟩ := hq
       have hQ : (rr, none) = val := hQ
       subst hQ
       have st : Step e (e.more w w') w w' := ⟨fun b hlt hr => ⟨.inl hr, hb.block b hlt⟩, fun _ h => ⟨h, rfl, rfl⟩, hb.size⟩
       have hE' : EnvOk (e.more w w') B w' := by
        refine ⟨?_, fun b k hk => ?_⟩
        ·rintro b (hr | ⟨h1, h2⟩)
         ·have := hE.apart b hr; have := hb.size; exact ⟨(hE.apart b hr).1, by omega⟩
         ·refine ⟨?_, h2⟩
          cases ho : (e.more w w').own b with
          | none => rfl
          | some k => have := (hE.owned b k ho).2; omega
        ·have := hE.owned b k hk; have := hb.size; exact ⟨(hE.owned b k hk).1, by omega⟩
       have st2 : Step { freshE w w' with ro := (e.more w w').ro } (e.more w w') w' w' := ⟨fun b _ h => ⟨h, rfl⟩, fun _ h => False.elim h, Nat.le_refl _⟩
       exact hK _ _ ⟨e.more w w', hb, st, hE', fun _ _ h => h, hrep.step st2, hm.ext hb st (fun _ _ h => h), fun _ h => .inl h, fun b h => h.imp (fun h => h) (fun h => h.1)⟩
      ·cases h
     ·split at h
      ·rename_i sp hsp
       split at h
       ·rename_i ns T sz nn l htr
        cases h
        obtain ⟨hent, hs⟩ := hXc.2.1 _ (getF_mem hsp)
        have hns := Tree.sat_needT ht
        have hcall := hs _ _ _ _ _ _ htr (allP_mem hns.1) e w _ (fun b hb => (hE.apart b hb).2) hidf' hall
        refine wpIn_of_wp (fun c h => by cases h) ?_
        unfold Oper.wp
        rw [hrun hent, Oper.upon_enter]
        refine hcall.mono fun en w' hq => ?_
        obtain ⟨v, xs, rfl, hb, k1, k2, k3, k4⟩ := hq
        have hQ : ((AV.row id, some (Res.row T sz nn l)) : AV × Option Res) = val := hns.2
        subst hQ
        exact hK _ _ (came_fresh hE hB hm hid hb k1 k2 k3 k4)
       ·cases h
      ·cases h
    ·cases h
   ·cases h
theorem callW_came {X : Ext} (hXc : (∀ p ∈ X.C, Enters P p.1 ∧ ∀ avs t, p.2 avs = some t → SoundCAt P p.1 avs t) ∧ (∀ p ∈ X.F, Enters P p.1 ∧ ∀ avs ns T sz n g, p.2 avs = some (ns, T, sz, n, g) → (∀ q ∈ ns, q) → SoundFAt P p.1 avs T sz n g) ∧ ∀ p ∈ X.D, Enters P p.1 ∧ ∀ avs t, p.2 avs = some t → SoundDAt P p.1 avs t) {e : Env} {B : Nat} {w : World} {m : Mem} {id : Nat} {ρ : Operand → AV} {o : Oper} {a : Act} {t : Tree (AV × Option Res)} {val : AV × Option Res}
  (h : callW X id m ρ o.op = some t) (ht : t.sat (fun r => r = val)) (hE : EnvOk e B w) (hB : B ≤ w.heap.size) (hm : MemOk e m w) (hid : ¬ e.live id) (hr : ∀ x, Rep e w (ρ x) (a.eval x)) {ro : Option Nat} {n : Nat}
  {K : Act → World → Prop} {Q : Exit → Act → World → Prop} (hK : ∀ v w', Came e B w m id val.1 val.2 v w' → K (a.put o.dst v) w') : o.wpIn (fr ro) n P a w K Q := by
 unfold callW at h
 split at h
 ·rename_i t' hV
  cases h
  obtain ⟨dst, op, type, pos, after, guard⟩ := o
  cases op <;> try (simp [callV] at hV; done)
  case call c =>
   obtain ⟨callee, args, argTypes⟩ := c
   have ha := RepL.ops hr args.toList
   cases callee <;> try (simp [callV] at hV; done)
   case value f =>
    simp only [callV] at hV
    have hf := hr f
    split at hV
    ·rename_i g first caps hfe
     rw [hfe] at hf
     obtain ⟨us, us', hv, r1, r2⟩ := hf.fn_inv
     have hall : RepL e w (first ++ args.toList.map ρ ++ caps) (us ++ args.toList.map a.eval ++ us') := (r1.append ha).append r2
     split at hV
     ·rename_i sp hsp
      split at hV
      ·rename_i tr htr
       cases hV
       obtain ⟨hent, hs⟩ := hXc.2.2 _ (getC_mem hsp)
       have hview := RepL.map (viewA m 40) (viewA_rep hE hm 40) hall
       have hcall := hs _ _ htr _ (Tree.sat_bind ht) e.view w _ (by
        rintro b (hb | ⟨k, hb⟩)
        ·exact (hE.apart b hb).2
        ·exact (hE.owned b k hb).2) (idf_map (viewA_idf hm 40) hall) hview
       have hrun : (execOp a.eval ⟨dst, .call ⟨.value f, args, argTypes⟩, type, pos, after, guard⟩).run P w = .ok (.enter g (us ++ args.toList.map a.eval ++ us').toArray) w := by
        have e1 : (us ++ args.toList.map a.eval ++ us').toArray = us.toArray ++ args.map a.eval ++ us'.toArray := Array.ext' (by simp)
        simp only [execOp, resolve, hv, Deferred.ofValue, Sem.run_bind, Sem.run_pure, Result.andThen_ok, invoke]
        rw [e1]
        exact run_callFunc hent _ w
       refine wpIn_of_wp (fun c h => by cases h) ?_
       unfold Oper.wp
       rw [hrun, Oper.upon_enter]
       refine hcall.mono fun en w' hq => ?_
       obtain ⟨v, rr, rfl, hQ, hb, hrep⟩ := hq
       have hQ : (rr, none) = val := hQ
       subst hQ
       exact hK v w' (came_call hE hm hb hrep)
      ·cases hV
     ·cases hV
    ·cases hV
 ·exact callD_came hXc h ht hE hB hm hid hr hK
theorem step1 (hG : SoundG P G) (hXc : (∀ p ∈ X.C, Enters P p.1 ∧ ∀ avs t, p.2 avs = some t → SoundCAt P p.1 avs t) ∧ (∀ p ∈ X.F, Enters P p.1 ∧ ∀ avs ns T sz n g, p.2 avs = some (ns, T, sz, n, g) → (∀ q ∈ ns, q) → SoundFAt P p.1 avs T sz n g) ∧ ∀ p ∈ X.D, Enters P p.1 ∧ ∀ avs t, p.2 avs = some t → SoundDAt P p.1 avs t) (hwell : wellB s0.σ.length ops.toList ops.toList 0 = true) {mm : Nat} (hall : AllOk P G X ops.toList (masks ops.toList []) s0.σ s0.m s0.nx mm outs dec) (hlen : outs.length = mm) (hmm : mm ≤ ops.size) (hm0lt : ∀ p ∈ s0.m, p.1 < s0.nx) (hAk : AkaOk s0.nx s0.m outs) {L : Array Bool} {a : Act} {w : World} {i : Nat} {Q : Exit → Act → World → Prop}
  (hI : Inv1 ops c w0 T s0 outs mm L a w) (hi : i ∈ Region.ready .any ops L) (him : i < mm) {ro : Option Nat} {n : Nat} : wpOpIn (fr ro) n P ops Q i (fun a' w' => Inv1 ops c w0 T s0 outs mm (L.setIfInBounds i true) a' w') a w := by
 obtain ⟨hin, hun, o, ho, hpre⟩ := mem_ready hi
 obtain ⟨e, hE, hB, hm0, hadds, hlive, hdef, htsz, hslots⟩ := hI.rel
 have hoL : ops.toList[i]? = some o := by simpa using ho
 have hni : ¬ inS L i := not_inS (by rw [hI.size]; exact hin) hun
 have hpreds : ∀ k, ((masks ops.toList []).getD i 0).testBit k = true → inS L k := fun k hk => mask_in hI.dc i o hoL hpre k hk
 have hsucc : ∀ k, ((masks ops.toList []).getD k 0).testBit i = true → ¬ inS L k := by
  intro k hk hin'
  rcases Nat.lt_or_ge k ops.size with hkn | hkn
  ·have hok : ops.toList[k]? = some ops[k] := by simp [hkn]
   exact hni (mask_in hI.dc k _ hok (hI.dc k _ hok hin') i hk)
  ·have : L.getD k false = false := by
    rw [Array.getD_eq_getD_getElem?, Array.getElem?_eq_none (by rw [hI.size]; exact hkn)]; rfl
   unfold inS at hin'; rw [this] at hin'; cases hin'
 obtain ⟨dec', hdec', hrec⟩ := hall.2 i o (by omega) hoL
 -- what the operands are
 have hval : ∀ k, inS L k → ∀ t v, writer t ops.toList 0 = some k → a.tmps[t]? = some v → Rep e w ((outs.getD k noOut).val) v := by
  intro k hk t v hwt hv
  have := hslots t v hv
  unfold slotAV at this
  rw [hwt] at this
  simp only at this
  rw [if_pos (show L.getD k false = true from hk)] at this
  exact this
 have hσ : ∀ t v, a.tmps[t]? = some v → (∀ k, writer t ops.toList 0 = some k → ¬ inS L k) → Rep e w (s0.σ.getD t .top) v := by
  intro t v hv hno
  have := hslots t v hv
  unfold slotAV at this
  cases hwt : writer t ops.toList 0 with
  | none => rw [hwt] at this; exact this
  | some k => rw [hwt] at this; simp only at this; rw [if_neg (show ¬ L.getD k false = true from hno k hwt)] at this; exact this
 have htake : ∀ k, k < i → (outs.take i).getD k noOut = outs.getD k noOut := by
  intro k hk; simp [List.getD, hk]
 have hρ : ∀ x, Rep e w (rhoD ops.toList (masks ops.toList []) s0.σ (outs.take i) dec' i x) (a.eval x) := by
  intro x
  cases x with
  | tmp t =>
   simp only [Act.eval]
   cases hv : a.tmps[t]? with
   | none =>
    have hge : s0.σ.length ≤ t := by
     rw [← htsz]
     rcases Nat.lt_or_ge t a.tmps.size with h' | h'
     ·rw [Array.getElem?_eq_getElem h'] at hv; cases hv
     ·exact h'
    have h0 : s0.σ.getD t .top = .top := by rw [List.getD, List.getElem?_eq_none hge]; rfl
    rw [Array.getD_eq_getD_getElem?, hv]
    simp only [rhoD]
    split
    ·rw [h0]; exact .top _
    ·rename_i k hwt
     obtain ⟨_, o', ho', hd'⟩ := writer_some hwt
     have := ((wellB_at hwell k o' (by simpa using ho')).1 t hd').2
     omega
   | some v =>
    rw [Array.getD_eq_getD_getElem?, hv]
    simp only [Option.getD_some, rhoD]
    split
    ·rename_i hwt; exact hσ t v hv (fun k hk => by rw [hwt] at hk; cases hk)
    ·rename_i k hwt
     split
     ·rename_i hb
      have hk := hpreds k hb
      have hr := hval k hk t v hwt hv
      simp only [decV]
      cases hld : lookD dec' k with
      | some d =>
       have := (hall.1 k d (hdec' k d hld)).2
       rw [this] at hr
       exact hr.litOf
      | none =>
       rcases Nat.lt_or_ge k i with hki | hki
       ·rw [htake k hki]; exact hr
       ·have : (outs.take i).getD k noOut = noOut := by rw [List.getD, List.getElem?_eq_none (by simp; omega)]; rfl
        rw [this]; exact .top _
     ·rename_i hb
      split
      ·rename_i hb2
       refine hσ t v hv (fun k' hk' => ?_)
       rw [hwt] at hk'; cases hk'
       simp only [Bool.or_eq_true] at hb2
       rcases hb2 with h2 | h2
       ·rw [Nat.eq_of_beq_eq_true h2]; exact hni
       ·exact hsucc k h2
      ·exact .top _
  | const v => exact constAV_rep v
  | global g => exact .x _
  | func f => exact .fn (.func f) [] [] [] [] rfl (fun i a v h => by simp at h) rfl (fun i a v h => by simp at h)
 have hnew : ¬ e.live (s0.nx + i) := by
  intro hl
  rcases hlive _ hl with h | ⟨i', h1, h2⟩
  ·omega
  ·have : i' = i := by omega
   subst this; exact hni h1
 have hlone : ∀ i' c' j' r', outs[i']? = some c' → c'.upd = some (j', r') → loneB (masks ops.toList []) mm i' j' = true := by
  intro i' c' j' r' h1 h2
  exact upd_lone hall h1 (by have := (List.getElem?_eq_some_iff.1 h1).1; simp; omega) h2
 have heat : ∀ i' c' j', outs[i']? = some c' → c'.eat = some j' → eatB (masks ops.toList []) mm i' j' = true := by
  intro i' c' j' h1 h2
  exact eat_lone hall h1 (by have := (List.getElem?_eq_some_iff.1 h1).1; simp; omega) h2
 have horig : ∀ j', ((masks ops.toList []).getD i 0).testBit j' = true → ∀ i' c' r', inS L i' → outs[i']? = some c' → c'.upd ≠ some (j', r') := by
  intro j' hj' i' c' r' hi' hc' hu
  have := (loneB_spec (hlone i' c' j' r' hc' hu)).2.2 i him (fun he => hni (he ▸ hi'))
  rw [this] at hj'; cases hj'
 have hmi : MemOk e (addsOf s0.nx ((masks ops.toList []).getD i 0) (outs.take i) (outs.take i) 0 ++ s0.m) w := by
  intro p hp
  rcases List.mem_append.1 hp with hp | hp
  ·obtain ⟨j, c, h1, h2, h3, h4, h5⟩ := addsOf_mem hp
   simp only [Nat.zero_add] at h2 h3 h5
   have hj : outs[j]? = some c := by
    rw [List.getElem?_take] at h1
    split at h1
    ·exact h1
    ·cases h1
   rw [h3]
   have hnoeat : ∀ i' ci, inS L i' → outs[i']? = some ci → ci.eat ≠ some j := by
    intro i' ci hi' hci he
    have hne : i ≠ i' := fun hq => hni (hq ▸ hi')
    obtain ⟨g1, g2⟩ := (eatB_spec (heat i' ci j hci he)).2.2 i him hne h2
    have : (outs.take i)[i']? = some ci := by rw [List.getElem?_take, if_pos g2]; exact hci
    rw [eatenB_true (k0 := 0) this he (by simpa using g1)] at h5
    cases h5
   obtain ⟨r'', hh, _, hk⟩ := hadds j c (hpreds j h2) hj _ h4 hnoeat
   rw [hk (horig j h2)] at hh
   exact hh
  ·exact hm0 p hp
 have hnak : ∀ (q : Nat) (c : Outc) (res r'' : Res), outs[q]? = some c → c.add = some res → (∀ i ci r', inS L i → outs[i]? = some ci → ci.upd = some (q, r') → r'' = r') → ((∀ i ci r', inS L i → outs[i]? = some ci → ci.upd ≠ some (q, r')) → r'' = res) → (∀ k, s0.nx ≤ k → akaOf k r'' = false) ∧ (isAka r'' = true → isAka res = true) := by
  intro q c res r'' hc hres hk1 hk2
  rcases Classical.em (∀ i ci r', inS L i → outs[i]? = some ci → ci.upd ≠ some (q, r')) with h | h
  ·obtain rfl := hk2 h
   refine ⟨fun k hk => ?_, fun h => h⟩
   cases hq : akaOf k r'' with
   | false => rfl
   | true => have := hAk.low q c _ k hc hres hq; omega
  ·have hex : ∃ i ci r', inS L i ∧ outs[i]? = some ci ∧ ci.upd = some (q, r') := by
    apply Classical.byContradiction
    intro hno
    exact h (fun i ci r' h1 h2 h3 => hno ⟨i, ci, r', h1, h2, h3⟩)
   obtain ⟨i, ci, r', h1, h2, h3⟩ := hex
   obtain rfl := hk1 i ci r' h1 h2 h3
   have := hAk.upd i ci _ _ h2 h3
   exact ⟨fun k _ => akaOf_no this k, fun h => by rw [this] at h; cases h⟩
 have hiL : i < L.size := by rw [hI.size]; exact hin
 have hoi : outs[i]? = some (outs.getD i noOut) := by
  have : i < outs.length := by omega
  simp [List.getD, List.getElem?_eq_getElem this]
 -- the new frame
 have fin : (outs.getD i noOut).upd = none → ∀ v w', Came e w0.heap.size w (addsOf s0.nx ((masks ops.toList []).getD i 0) (outs.take i) (outs.take i) 0 ++ s0.m) (s0.nx + i) (outs.getD i noOut).val (outs.getD i noOut).add v w' → Inv1 ops c w0 T s0 outs mm (L.setIfInBounds i true) (a.put o.dst v) w' := by
  rintro hupd v w' ⟨e', hb, st, hE', hown, hrep, hm', hlv, hro⟩
  refine ⟨by simp [hI.size], ?_, ?_, e', hE', hB.trans (hb.mono hB.size), ?_, ?_, ?_, ⟨fun b hT => ⟨(hdef.1 b hT).1, fun h => ?_⟩, by rw [put_defers]; exact hdef.2.step st⟩, ?_, ?_⟩
  ·intro k o' ho' hk j hj
   rw [inS_set hiL] at hk ⊢
   rcases hk with rfl | hk
   ·rw [hoL] at ho'; cases ho'; exact .inr (hpre j hj)
   ·exact .inr (hI.dc k o' ho' hk j hj)
  ·intro k hk
   rw [inS_set hiL] at hk
   rcases hk with rfl | hk
   ·exact him
   ·exact hI.lt k hk
  ·exact hm0.ext hb st hown
  ·intro j c hj hc r hr hne
   rw [inS_set hiL] at hj
   rcases hj with rfl | hj
   ·rw [hoi] at hc; cases hc
    refine ⟨r, hm' (s0.nx + j, r) ?_, ?_, fun _ => rfl⟩
    ·rw [hr]; exact List.mem_cons_self
    ·intro i' ci r' hi' hci hu
     exfalso
     rw [inS_set hiL] at hi'
     rcases hi' with rfl | hi'
     ·rw [hoi] at hci; cases hci; rw [hupd] at hu; cases hu
     ·exact hsucc i' (loneB_spec (hlone i' ci j r' hci hu)).1 hi'
   ·obtain ⟨r'', hh, hk1, hk2⟩ := hadds j c hj hc r hr (fun i' ci hi' => hne i' ci ((inS_set hiL).2 (.inr hi')))
    refine ⟨r'', hh.ext hb st hown, ?_, fun hno => hk2 (fun i' ci r' hi' hci => hno i' ci r' ((inS_set hiL).2 (.inr hi')) hci)⟩
    intro i' ci r' hi' hci hu
    rw [inS_set hiL] at hi'
    rcases hi' with rfl | hi'
    ·rw [hoi] at hci; cases hci; rw [hupd] at hu; cases hu
    ·exact hk1 i' ci r' hi' hci hu
  ·intro k hk
   rcases hlv k hk with hk | rfl
   ·rcases hlive k hk with h | ⟨i', h1, h2⟩
    ·exact .inl h
    ·exact .inr ⟨i', (inS_set hiL).2 (.inr h1), h2⟩
   ·exact .inr ⟨i, (inS_set hiL).2 (.inl rfl), rfl⟩
  ·rcases hro b h with h | h
   ·exact (hdef.1 b hT).2 h
   ·have := (hdef.1 b hT).1; have := hB.size; omega
  ·cases hd : o.dst with
   | none => exact htsz
   | some d => simp [Act.put, htsz]
  ·intro t u hu
   have other : o.dst ≠ some t → a.tmps[t]? = some u → Rep e' w' (slotAV ops.toList s0.σ outs (L.setIfInBounds i true) t) u := by
    intro hne hu'
    have := (hslots t u hu').step st
    unfold slotAV at this ⊢
    cases hwt : writer t ops.toList 0 with
    | none => rw [hwt] at this; exact this
    | some k =>
     rw [hwt] at this
     simp only at this ⊢
     have hki : k ≠ i := by
      rintro rfl
      obtain ⟨_, o', ho', hd'⟩ := writer_some hwt
      simp only [Nat.sub_zero] at ho'
      rw [hoL] at ho'; cases ho'
      exact hne hd'
     have e1 : (L.setIfInBounds i true).getD k false = L.getD k false := by
      simp [Array.getD_eq_getD_getElem?, Ne.symm hki]
     rw [e1]; exact this
   cases hd : o.dst with
   | none => rw [hd] at hu; exact other (by rw [hd]; simp) hu
   | some d =>
    rw [hd] at hu
    simp only [Act.put, Array.getElem?_setIfInBounds] at hu
    by_cases hdt : d = t
    ·subst hdt
     obtain ⟨hw1, hw2⟩ := (wellB_at hwell i o hoL).1 d hd
     rw [if_pos rfl, if_pos (by rw [htsz]; exact hw2)] at hu
     cases hu
     unfold slotAV
     rw [hw1]
     simp only [Nat.zero_add]
     rw [if_pos (show (L.setIfInBounds i true).getD i false = true from (inS_set hiL).2 (.inl rfl))]
     exact hrep
    ·rw [if_neg hdt] at hu
     exact other (by rw [hd]; simpa using hdt) hu
 have guardRun : ∀ j want t b, o.guard = some (j, want) → guardSlot ops.toList o = some t → rhoD ops.toList (masks ops.toList []) s0.σ (outs.take i) dec' i (.tmp t) = .lit b → yielded ops a.tmps j = some b := by
  intro j want t b hg hgs hl
  have hr := hρ (.tmp t)
  rw [hl] at hr
  have hev := hr.lit_inv
  simp only [Act.eval] at hev
  have hgt : a.tmps[t]? = some (.bool b) := by
   cases hq : a.tmps[t]? with
   | none => rw [Array.getD_eq_getD_getElem?, hq] at hev; simp [undef] at hev
   | some v => rw [Array.getD_eq_getD_getElem?, hq] at hev; simpa using hev
  unfold guardSlot at hgs
  rw [hg] at hgs
  simp only at hgs
  split at hgs
  ·rename_i p hp
   have hp' : ops[j]? = some p := by simpa using hp
   unfold yielded
   simp [hp', hgs, hgt]
  ·cases hgs
 have guardTup : ∀ j want t l, o.guard = some (j, want) → guardSlot ops.toList o = some t → rhoD ops.toList (masks ops.toList []) s0.σ (outs.take i) dec' i (.tmp t) = .tup l → yielded ops a.tmps j = none := by
  intro j want t l hg hgs hl
  have hr := hρ (.tmp t)
  rw [hl] at hr
  obtain ⟨vs, hv, _⟩ := hr.tup_inv
  simp only [Act.eval] at hv
  unfold guardSlot at hgs
  rw [hg] at hgs
  simp only at hgs
  split at hgs
  ·rename_i p hp
   have hp' : ops[j]? = some p := by simpa using hp
   unfold yielded
   simp only [hp', hgs, Option.bind_some]
   cases hq : a.tmps[t]? with
   | none => rfl
   | some v =>
    rw [Array.getD_eq_getD_getElem?, hq] at hv
    simp only [Option.getD_some] at hv
    subst hv
    rfl
  ·cases hgs
 unfold wpOpIn
 simp only [ho]
 rcases hrec with ⟨hrun, hg⟩ | ⟨hno, j, want, t, hg, hgs, hl⟩
 ·have hw : Region.wanted o (yielded ops a.tmps) = true := by
   rcases hg with hg | ⟨j, want, t, hg, hgs, hl⟩
   ·simp [Region.wanted, hg]
   ·simp [Region.wanted, hg, guardRun j want t want hg hgs hl]
  rw [if_pos hw]
  rcases hrun with ⟨ns, haop, hupd, _, hns⟩ | ⟨ns, j, r, hst, hout, hns⟩ | ⟨ns, val, r, eat, hap, hout, hns⟩ | ⟨tC, valC, hcd, houtC, hsatC⟩ | ⟨ns, val, eat, hapz, hout, hns⟩ | ⟨ns, val, r, hape, hout, hns⟩
  rotate_left 3
  ·have hu : (outs.getD i noOut).upd = none := by rw [houtC]
   have hv : (outs.getD i noOut).val = valC.1 := by rw [houtC]
   have hd : (outs.getD i noOut).add = valC.2 := by rw [houtC]
   have fin' := fin hu
   rw [hv, hd] at fin'
   exact callW_came hXc hcd hsatC hE hB.size hmi hnew hρ fin'
  ·-- an append whose result nobody writes
   obtain ⟨v0, T0, sz0, n0, f0, hap, hval0⟩ := appZ_spec hapz
   subst hval0
   obtain ⟨cc, s, x, t, tl, hop, hcal, hca, hta, hops, heats⟩ := appD_spec hap
   obtain ⟨callee, cargs, cats⟩ := cc
   simp only at hcal hca hta
   have hca' : cargs = #[s, x] := Array.ext' (by simpa using hca)
   have hta' : cats = #[t, t] := Array.ext' (by simpa using hta)
   subst hca'; subst hta'; subst hcal
   obtain ⟨u, w', hrun, ⟨e1, hbel, st1, hE1, hrep1, hF, hlv1, hro1⟩, _⟩ := opAppend_frame (P := P) (ty := o.type) hops hns hE hB.size hmi hnew (hρ s) (hρ x)
   obtain rfl := opAppend_val hops
   have hnewr : Holds e1 w' (s0.nx + i) (.row T0 sz0 n0 f0) := hF _ _ (.inl ⟨⟨_, rfl⟩, rfl⟩)
   have hrep : Rep (e1.sol (s0.nx + i)) w' (.lst sz0 n0 f0) u := by
    cases hrep1 with
    | row _ a n c hl hv =>
     rw [← hv]
     exact row_view hE1 hnewr (fun _ h => .inl h) (fun _ h => .inr h)
   obtain ⟨e', he'⟩ : ∃ e', e' = e1.sol (s0.nx + i) := ⟨_, rfl⟩
   have st : Step e e' w w' := by rw [he']; exact st1.trans (Step.sol e1 _ w')
   have hE' : EnvOk e' w0.heap.size w' := by rw [he']; exact hE1.sol _
   rw [← he'] at hrep
   have hlv : ∀ k, e'.live k → e.live k ∨ k = s0.nx + i := by rw [he']; exact hlv1
   have hro : ∀ b, e'.ro b → e.ro b ∨ w0.heap.size ≤ b := by
    intro b hb
    rw [he'] at hb
    rcases hb with hb | hb
    ·exact .inl (hro1 b hb)
    ·exact .inr (hE1.owned b _ hb).1
   have hkeep : ∀ (k : Nat) (res : Res), (k ≠ s0.nx + i ∧ akaOf (s0.nx + i) res = false) → (∀ j, eat = some j → k ≠ s0.nx + j ∧ akaOf (s0.nx + j) res = false) → Holds e w k res → Holds e' w' k res := by
    intro k res hki hk hh
    rw [he']
    refine Holds.sol hki ?_
    refine hF k res (.inr ⟨hh, fun q hq => ?_⟩)
    rcases heats with ⟨j, h1, h2, _⟩ | ⟨_, v, h2⟩
    ·rw [h2] at hq; cases hq; exact hk j h1
    ·rw [h2] at hq; cases hq
   have hout' : outs[i]? = some ⟨.lst sz0 n0 f0, none, none, eat⟩ := by rw [hoi, hout]
   have hnew' : Inv1 ops c w0 T s0 outs mm (L.setIfInBounds i true) (a.put o.dst u) w' := by
    refine ⟨by simp [hI.size], ?_, ?_, e', hE', hB.trans hbel, ?_, ?_, ?_, ⟨fun b hT => ⟨(hdef.1 b hT).1, fun h => ?_⟩, by rw [put_defers]; exact hdef.2.step st⟩, ?_, ?_⟩
    ·intro k o' ho' hk q hq
     rw [inS_set hiL] at hk ⊢
     rcases hk with rfl | hk
     ·rw [hoL] at ho'; cases ho'; exact .inr (hpre q hq)
     ·exact .inr (hI.dc k o' ho' hk q hq)
    ·intro k hk
     rw [inS_set hiL] at hk
     rcases hk with rfl | hk
     ·exact him
     ·exact hI.lt k hk
    ·intro p hp
     exact hkeep p.1 p.2 ⟨by have := hm0lt p hp; omega, akaOf_no (hAk.m0 p hp) _⟩ (fun j _ => ⟨by have := hm0lt p hp; omega, akaOf_no (hAk.m0 p hp) _⟩) (hm0 p hp)
    ·intro q c hq hc res hres hne
     rw [inS_set hiL] at hq
     rcases hq with rfl | hq
     ·rw [hout'] at hc; cases hc
      cases hres
     ·obtain ⟨r'', hh, hk1, hk2⟩ := hadds q c hq hc res hres (fun i' ci hi' => hne i' ci ((inS_set hiL).2 (.inr hi')))
      have hqi : q ≠ i := fun h => hni (h ▸ hq)
      have hna := (hnak q c res r'' hc hres hk1 hk2).1
      refine ⟨r'', hkeep _ _ ⟨by omega, hna _ (by omega)⟩ (fun j hj => ⟨fun he => ?_, hna _ (by omega)⟩) hh, ?_, fun hno => hk2 (fun i' ci r' hi' hci => hno i' ci r' ((inS_set hiL).2 (.inr hi')) hci)⟩
      ·have hqj : q = j := by omega
       exact hne i _ ((inS_set hiL).2 (.inl rfl)) hout' (by rw [hqj]; exact hj)
      ·intro i' ci r' hi' hci hu
       rw [inS_set hiL] at hi'
       rcases hi' with rfl | hi'
       ·rw [hout'] at hci; cases hci; cases hu
       ·exact hk1 i' ci r' hi' hci hu
    ·intro k hk
     rcases hlv k hk with hk | rfl
     ·rcases hlive k hk with h | ⟨i', h1, h2⟩
      ·exact .inl h
      ·exact .inr ⟨i', (inS_set hiL).2 (.inr h1), h2⟩
     ·exact .inr ⟨i, (inS_set hiL).2 (.inl rfl), rfl⟩
    ·rcases hro b h with h | h
     ·exact (hdef.1 b hT).2 h
     ·have := (hdef.1 b hT).1; omega
    ·cases hd : o.dst with
     | none => exact htsz
     | some d => simp [Act.put, htsz]
    ·intro q v hu
     have other : o.dst ≠ some q → a.tmps[q]? = some v → Rep e' w' (slotAV ops.toList s0.σ outs (L.setIfInBounds i true) q) v := by
      intro hne hu'
      have := (hslots q v hu').step st
      unfold slotAV at this ⊢
      cases hwt : writer q ops.toList 0 with
      | none => rw [hwt] at this; exact this
      | some k =>
       rw [hwt] at this
       simp only at this ⊢
       have hki : k ≠ i := by
        rintro rfl
        obtain ⟨_, o', ho', hd'⟩ := writer_some hwt
        simp only [Nat.sub_zero] at ho'
        rw [hoL] at ho'; cases ho'
        exact hne hd'
       have e1 : (L.setIfInBounds i true).getD k false = L.getD k false := by
        simp [Array.getD_eq_getD_getElem?, Ne.symm hki]
       rw [e1]; exact this
     cases hd : o.dst with
     | none => rw [hd] at hu; exact other (by rw [hd]; simp) hu
     | some d =>
      rw [hd] at hu
      simp only [Act.put, Array.getElem?_setIfInBounds] at hu
      by_cases hdt : d = q
      ·subst hdt
       obtain ⟨hw1, hw2⟩ := (wellB_at hwell i o hoL).1 d hd
       rw [if_pos rfl, if_pos (by rw [htsz]; exact hw2)] at hu
       cases hu
       unfold slotAV
       rw [hw1]
       simp only [Nat.zero_add]
       rw [if_pos (show (L.setIfInBounds i true).getD i false = true from (inS_set hiL).2 (.inl rfl)), hout]
       exact hrep
      ·rw [if_neg hdt] at hu
       exact other (by rw [hd]; simpa using hdt) hu
   refine wpIn_of_wp (fun c h => by rw [hop] at h; cases h) ?_
   refine wp_value (v := u) (w' := w') ?_ hnew'
   obtain ⟨dst, op, type, pos, after, guard⟩ := o
   simp only at hop
   subst hop
   simp [execOp, resolve, invoke, builtin, hrun]
  ·-- an append to a row that stays
   obtain ⟨cc, s, x, t, q0, hop, hcal, hca, hta, hsq, hq0, rfl, hops⟩ := appE_spec hape
   obtain ⟨callee, cargs, cats⟩ := cc
   simp only at hcal hca hta
   have hca' : cargs = #[s, x] := Array.ext' (by simpa using hca)
   have hta' : cats = #[t, t] := Array.ext' (by simpa using hta)
   subst hca'; subst hta'; subst hcal
   have rs := hρ s
   rw [hsq] at rs
   obtain ⟨T0, sz0, n0, f0, hr0, hmq, u, w', hrun, ⟨e', hbel, st, hE', hrep, hF, hlv, hro⟩⟩ := opAppendA_frame (P := P) (ty := o.type) hops hns hE hB.size hmi hnew rs (hρ x)
   subst hr0
   have hkeep : ∀ (k : Nat) (res : Res), (k = q0 → rowAt T0 sz0 res = true) → akaOf q0 res = false → Holds e w k res → Holds e' w' k res := by
    intro k res hk1 hk2 hh
    exact hF k res (.inr ⟨hh, hk1, hk2⟩)
   have hnewr : Holds e' w' (s0.nx + i) (.aka q0 T0 sz0 n0 f0) := hF _ _ (.inl ⟨rfl, rfl⟩)
   have hout' : outs[i]? = some ⟨.row (s0.nx + i), some (.aka q0 T0 sz0 n0 f0), none, none⟩ := by rw [hoi, hout]
   have hnew' : Inv1 ops c w0 T s0 outs mm (L.setIfInBounds i true) (a.put o.dst u) w' := by
    refine ⟨by simp [hI.size], ?_, ?_, e', hE', hB.trans hbel, ?_, ?_, ?_, ⟨fun b hT => ⟨(hdef.1 b hT).1, fun h => (hdef.1 b hT).2 (hro b h)⟩, by rw [put_defers]; exact hdef.2.step st⟩, ?_, ?_⟩
    ·intro k o' ho' hk q hq
     rw [inS_set hiL] at hk ⊢
     rcases hk with rfl | hk
     ·rw [hoL] at ho'; cases ho'; exact .inr (hpre q hq)
     ·exact .inr (hI.dc k o' ho' hk q hq)
    ·intro k hk
     rw [inS_set hiL] at hk
     rcases hk with rfl | hk
     ·exact him
     ·exact hI.lt k hk
    ·intro p hp
     have hq := hmq p (List.mem_append_right _ hp)
     exact hkeep p.1 p.2 hq.1 hq.2 (hm0 p hp)
    ·intro q c hq hc res hres hne
     rw [inS_set hiL] at hq
     rcases hq with rfl | hq
     ·rw [hout'] at hc; cases hc
      cases hres
      refine ⟨_, hnewr, ?_, fun _ => rfl⟩
      intro i' ci r' hi' hci hu
      exfalso
      rw [inS_set hiL] at hi'
      rcases hi' with rfl | hi'
      ·rw [hout'] at hci; cases hci; cases hu
      ·exact hsucc i' (loneB_spec (hlone i' ci q r' hci hu)).1 hi'
     ·obtain ⟨r'', hh, hk1, hk2⟩ := hadds q c hq hc res hres (fun i' ci hi' => hne i' ci ((inS_set hiL).2 (.inr hi')))
      have hna := (hnak q c res r'' hc hres hk1 hk2).2
      have hqi : q ≠ i := fun h => hni (h ▸ hq)
      have hqa : akaOf q0 r'' = false := by
       cases h5 : akaOf q0 r'' with
       | false => rfl
       | true => exact absurd (hAk.one q i c _ res _ hc hout' hres rfl (hna (akaOf_is h5)) rfl) hqi
      refine ⟨r'', hkeep _ _ (fun h => by omega) hqa hh, ?_, fun hno => hk2 (fun i' ci r' hi' hci => hno i' ci r' ((inS_set hiL).2 (.inr hi')) hci)⟩
      ·intro i' ci r' hi' hci hu
       rw [inS_set hiL] at hi'
       rcases hi' with rfl | hi'
       ·rw [hout'] at hci; cases hci; cases hu
       ·exact hk1 i' ci r' hi' hci hu
    ·intro k hk
     rcases hlv k hk with hk | rfl
     ·rcases hlive k hk with h | ⟨i', h1, h2⟩
      ·exact .inl h
      ·exact .inr ⟨i', (inS_set hiL).2 (.inr h1), h2⟩
     ·exact .inr ⟨i, (inS_set hiL).2 (.inl rfl), rfl⟩
    ·cases hd : o.dst with
     | none => exact htsz
     | some d => simp [Act.put, htsz]
    ·intro q v hu
     have other : o.dst ≠ some q → a.tmps[q]? = some v → Rep e' w' (slotAV ops.toList s0.σ outs (L.setIfInBounds i true) q) v := by
      intro hne hu'
      have := (hslots q v hu').step st
      unfold slotAV at this ⊢
      cases hwt : writer q ops.toList 0 with
      | none => rw [hwt] at this; exact this
      | some k =>
       rw [hwt] at this
       simp only at this ⊢
       have hki : k ≠ i := by
        rintro rfl
        obtain ⟨_, o', ho', hd'⟩ := writer_some hwt
        simp only [Nat.sub_zero] at ho'
        rw [hoL] at ho'; cases ho'
        exact hne hd'
       have e1 : (L.setIfInBounds i true).getD k false = L.getD k false := by
        simp [Array.getD_eq_getD_getElem?, Ne.symm hki]
       rw [e1]; exact this
     cases hd : o.dst with
     | none => rw [hd] at hu; exact other (by rw [hd]; simp) hu
     | some d =>
      rw [hd] at hu
      simp only [Act.put, Array.getElem?_setIfInBounds] at hu
      by_cases hdt : d = q
      ·subst hdt
       obtain ⟨hw1, hw2⟩ := (wellB_at hwell i o hoL).1 d hd
       rw [if_pos rfl, if_pos (by rw [htsz]; exact hw2)] at hu
       cases hu
       unfold slotAV
       rw [hw1]
       simp only [Nat.zero_add]
       rw [if_pos (show (L.setIfInBounds i true).getD i false = true from (inS_set hiL).2 (.inl rfl)), hout]
       exact hrep
      ·rw [if_neg hdt] at hu
       exact other (by rw [hd]; simpa using hdt) hu
   refine wpIn_of_wp (fun c h => by rw [hop] at h; cases h) ?_
   refine wp_value (v := u) (w' := w') ?_ hnew'
   obtain ⟨dst, op, type, pos, after, guard⟩ := o
   simp only at hop
   subst hop
   simp [execOp, resolve, invoke, builtin, hrun]
  ·exact wpIn_of_wp (notDefer_aop haop) (aop_sound hG haop hns hE hB.size hmi hnew hρ (fin hupd))
  ·-- a store into a block that the region has laid
   obtain ⟨t, x, y, off, m', hop, hx, hln, hops, hgm⟩ := storeD_spec hst
   obtain ⟨hl1, hl2, hl3⟩ := loneB_spec hln
   have rx := hρ x
   rw [hx] at rx
   obtain ⟨w', hrun, hown, hsz, hoth, hbel, hm'⟩ := opStore_ptr (P := P) hops hns hE hmi rx (hρ y)
   have st := step_write hE hown hsz hoth
   have hE' := envOk_write hE hsz
   have hkeep : ∀ (k : Nat) (res : Res), (k ≠ s0.nx + j ∧ akaOf (s0.nx + j) res = false) → Holds e w k res → Holds e w' k res := fun k res hne hh => holds_write hE hown hsz hoth hne hh
   have hjS := hpreds j hl1
   have hnew' : Inv1 ops c w0 T s0 outs mm (L.setIfInBounds i true) (a.put o.dst undef) w' := by
    refine ⟨by simp [hI.size], ?_, ?_, e, hE', hB.trans hbel, ?_, ?_, ?_, ⟨hdef.1, by rw [put_defers]; exact hdef.2.step st⟩, ?_, ?_⟩
    ·intro k o' ho' hk q hq
     rw [inS_set hiL] at hk ⊢
     rcases hk with rfl | hk
     ·rw [hoL] at ho'; cases ho'; exact .inr (hpre q hq)
     ·exact .inr (hI.dc k o' ho' hk q hq)
    ·intro k hk
     rw [inS_set hiL] at hk
     rcases hk with rfl | hk
     ·exact him
     ·exact hI.lt k hk
    ·intro p hp
     exact hkeep p.1 p.2 ⟨by have := hm0lt p hp; omega, akaOf_no (hAk.m0 p hp) _⟩ (hm0 p hp)
    ·intro q c hq hc res hres hne
     rw [inS_set hiL] at hq
     have hqS : inS L q := by
      rcases hq with rfl | hq
      ·rw [hoi, hout] at hc; cases hc; cases hres
      ·exact hq
     obtain ⟨r'', hh, hk1, hk2⟩ := hadds q c hqS hc res hres (fun i' ci hi' => hne i' ci ((inS_set hiL).2 (.inr hi')))
     by_cases hqj : q = j
     ·subst hqj
      refine ⟨r, hm' (s0.nx + q, r) (getM_mem hgm), ?_, ?_⟩
      ·intro i' ci r' hi' hci hu
       by_cases hii : i' = i
       ·subst hii
        rw [hoi, hout] at hci; cases hci
        simp only [Option.some.injEq, Prod.mk.injEq] at hu
        exact hu.2
       ·exfalso
        have := (loneB_spec (hlone i' ci q r' hci hu)).2.2 i him (fun he => hii he.symm)
        rw [this] at hl1; cases hl1
      ·intro hno
       exact absurd (show (outs.getD i noOut).upd = some (q, r) by rw [hout]) (hno i _ r ((inS_set hiL).2 (.inl rfl)) hoi)
     ·refine ⟨r'', hkeep _ _ ⟨by omega, (hnak q c res r'' hc hres hk1 hk2).1 _ (by omega)⟩ hh, ?_, fun hno => hk2 (fun i' ci r' hi' hci => hno i' ci r' ((inS_set hiL).2 (.inr hi')) hci)⟩
      intro i' ci r' hi' hci hu
      rw [inS_set hiL] at hi'
      rcases hi' with rfl | hi'
      ·rw [hoi, hout] at hci; cases hci
       simp only [Option.some.injEq, Prod.mk.injEq] at hu
       exact absurd hu.1.symm hqj
      ·exact hk1 i' ci r' hi' hci hu
    ·intro k hk
     rcases hlive k hk with h | ⟨i', h1, h2⟩
     ·exact .inl h
     ·exact .inr ⟨i', (inS_set hiL).2 (.inr h1), h2⟩
    ·cases hd : o.dst with
     | none => exact htsz
     | some d => simp [Act.put, htsz]
    ·intro q u hu
     have other : o.dst ≠ some q → a.tmps[q]? = some u → Rep e w' (slotAV ops.toList s0.σ outs (L.setIfInBounds i true) q) u := by
      intro hne hu'
      have := (hslots q u hu').step st
      unfold slotAV at this ⊢
      cases hwt : writer q ops.toList 0 with
      | none => rw [hwt] at this; exact this
      | some k =>
       rw [hwt] at this
       simp only at this ⊢
       have hki : k ≠ i := by
        rintro rfl
        obtain ⟨_, o', ho', hd'⟩ := writer_some hwt
        simp only [Nat.sub_zero] at ho'
        rw [hoL] at ho'; cases ho'
        exact hne hd'
       have e1 : (L.setIfInBounds i true).getD k false = L.getD k false := by
        simp [Array.getD_eq_getD_getElem?, Ne.symm hki]
       rw [e1]; exact this
     cases hd : o.dst with
     | none => rw [hd] at hu; exact other (by rw [hd]; simp) hu
     | some d =>
      rw [hd] at hu
      simp only [Act.put, Array.getElem?_setIfInBounds] at hu
      by_cases hdt : d = q
      ·subst hdt
       obtain ⟨hw1, hw2⟩ := (wellB_at hwell i o hoL).1 d hd
       unfold slotAV
       rw [hw1]
       simp only [Nat.zero_add]
       rw [if_pos (show (L.setIfInBounds i true).getD i false = true from (inS_set hiL).2 (.inl rfl)), hout]
       exact .top _
      ·rw [if_neg hdt] at hu
       exact other (by rw [hd]; simpa using hdt) hu
   refine wpIn_of_wp (fun c h => by rw [hop] at h; cases h) ?_
   unfold Oper.wp
   have hex : (execOp a.eval o).run P w = .ok .skip w' := by
    obtain ⟨dst, op, type, pos, after, guard⟩ := o
    simp only at hop
    subst hop
    simp [execOp, hrun]
   rw [hex]
   exact hnew'
  ·-- an append
   obtain ⟨cc, s, x, t, tl, hop, hcal, hca, hta, hops, heats⟩ := appD_spec hap
   obtain ⟨callee, cargs, cats⟩ := cc
   simp only at hcal hca hta
   have hca' : cargs = #[s, x] := Array.ext' (by simpa using hca)
   have hta' : cats = #[t, t] := Array.ext' (by simpa using hta)
   subst hca'; subst hta'; subst hcal
   obtain ⟨u, w', hrun, ⟨e', hbel, st, hE', hrep, hF, hlv, hro⟩, _⟩ := opAppend_frame (P := P) (ty := o.type) hops hns hE hB.size hmi hnew (hρ s) (hρ x)
   have hkeep : ∀ (k : Nat) (res : Res), (∀ j, eat = some j → k ≠ s0.nx + j ∧ akaOf (s0.nx + j) res = false) → Holds e w k res → Holds e' w' k res := by
    intro k res hk hh
    refine hF k res (.inr ⟨hh, fun q hq => ?_⟩)
    rcases heats with ⟨j, h1, h2, _⟩ | ⟨_, v, h2⟩
    ·rw [h2] at hq; cases hq; exact hk j h1
    ·rw [h2] at hq; cases hq
   have hnewr : Holds e' w' (s0.nx + i) r := hF _ _ (.inl ⟨⟨_, rfl⟩, rfl⟩)
   have hout' : outs[i]? = some ⟨val, some r, none, eat⟩ := by rw [hoi, hout]
   have hnew' : Inv1 ops c w0 T s0 outs mm (L.setIfInBounds i true) (a.put o.dst u) w' := by
    refine ⟨by simp [hI.size], ?_, ?_, e', hE', hB.trans hbel, ?_, ?_, ?_, ⟨fun b hT => ⟨(hdef.1 b hT).1, fun h => (hdef.1 b hT).2 (hro b h)⟩, by rw [put_defers]; exact hdef.2.step st⟩, ?_, ?_⟩
    ·intro k o' ho' hk q hq
     rw [inS_set hiL] at hk ⊢
     rcases hk with rfl | hk
     ·rw [hoL] at ho'; cases ho'; exact .inr (hpre q hq)
     ·exact .inr (hI.dc k o' ho' hk q hq)
    ·intro k hk
     rw [inS_set hiL] at hk
     rcases hk with rfl | hk
     ·exact him
     ·exact hI.lt k hk
    ·intro p hp
     exact hkeep p.1 p.2 (fun j _ => ⟨by have := hm0lt p hp; omega, akaOf_no (hAk.m0 p hp) _⟩) (hm0 p hp)
    ·intro q c hq hc res hres hne
     rw [inS_set hiL] at hq
     rcases hq with rfl | hq
     ·rw [hout'] at hc; cases hc
      cases hres
      refine ⟨r, hnewr, ?_, fun _ => rfl⟩
      intro i' ci r' hi' hci hu
      exfalso
      rw [inS_set hiL] at hi'
      rcases hi' with rfl | hi'
      ·rw [hout'] at hci; cases hci; cases hu
      ·exact hsucc i' (loneB_spec (hlone i' ci q r' hci hu)).1 hi'
     ·obtain ⟨r'', hh, hk1, hk2⟩ := hadds q c hq hc res hres (fun i' ci hi' => hne i' ci ((inS_set hiL).2 (.inr hi')))
      have hna := (hnak q c res r'' hc hres hk1 hk2).1
      refine ⟨r'', hkeep _ _ (fun j hj => ⟨fun he => ?_, hna _ (by omega)⟩) hh, ?_, fun hno => hk2 (fun i' ci r' hi' hci => hno i' ci r' ((inS_set hiL).2 (.inr hi')) hci)⟩
      ·have hqj : q = j := by omega
       exact hne i _ ((inS_set hiL).2 (.inl rfl)) hout' (by rw [hqj]; exact hj)
      ·intro i' ci r' hi' hci hu
       rw [inS_set hiL] at hi'
       rcases hi' with rfl | hi'
       ·rw [hout'] at hci; cases hci; cases hu
       ·exact hk1 i' ci r' hi' hci hu
    ·intro k hk
     rcases hlv k hk with hk | rfl
     ·rcases hlive k hk with h | ⟨i', h1, h2⟩
      ·exact .inl h
      ·exact .inr ⟨i', (inS_set hiL).2 (.inr h1), h2⟩
     ·exact .inr ⟨i, (inS_set hiL).2 (.inl rfl), rfl⟩
    ·cases hd : o.dst with
     | none => exact htsz
     | some d => simp [Act.put, htsz]
    ·intro q v hu
     have other : o.dst ≠ some q → a.tmps[q]? = some v → Rep e' w' (slotAV ops.toList s0.σ outs (L.setIfInBounds i true) q) v := by
      intro hne hu'
      have := (hslots q v hu').step st
      unfold slotAV at this ⊢
      cases hwt : writer q ops.toList 0 with
      | none => rw [hwt] at this; exact this
      | some k =>
       rw [hwt] at this
       simp only at this ⊢
       have hki : k ≠ i := by
        rintro rfl
        obtain ⟨_, o', ho', hd'⟩ := writer_some hwt
        simp only [Nat.sub_zero] at ho'
        rw [hoL] at ho'; cases ho'
        exact hne hd'
       have e1 : (L.setIfInBounds i true).getD k false = L.getD k false := by
        simp [Array.getD_eq_getD_getElem?, Ne.symm hki]
       rw [e1]; exact this
     cases hd : o.dst with
     | none => rw [hd] at hu; exact other (by rw [hd]; simp) hu
     | some d =>
      rw [hd] at hu
      simp only [Act.put, Array.getElem?_setIfInBounds] at hu
      by_cases hdt : d = q
      ·subst hdt
       obtain ⟨hw1, hw2⟩ := (wellB_at hwell i o hoL).1 d hd
       rw [if_pos rfl, if_pos (by rw [htsz]; exact hw2)] at hu
       cases hu
       unfold slotAV
       rw [hw1]
       simp only [Nat.zero_add]
       rw [if_pos (show (L.setIfInBounds i true).getD i false = true from (inS_set hiL).2 (.inl rfl)), hout]
       exact hrep
      ·rw [if_neg hdt] at hu
       exact other (by rw [hd]; simpa using hdt) hu
   refine wpIn_of_wp (fun c h => by rw [hop] at h; cases h) ?_
   refine wp_value (v := u) (w' := w') ?_ hnew'
   obtain ⟨dst, op, type, pos, after, guard⟩ := o
   simp only at hop
   subst hop
   simp [execOp, resolve, invoke, builtin, hrun]
 ·have hw : ¬ Region.wanted o (yielded ops a.tmps) = true := by
   cases hv : rhoD ops.toList (masks ops.toList []) s0.σ (outs.take i) dec' i (.tmp t) with
   | lit b =>
    rw [hv] at hl
    simp [skipB] at hl
    simp [Region.wanted, hg, guardRun j want t b hg hgs hv, hl]
   | tup l => simp [Region.wanted, hg, guardTup j want t l hg hgs hv]
   | _ => rw [hv] at hl; simp [skipB] at hl
  rw [if_neg hw]
  refine ⟨fun _ _ => trivial, fin (by rw [hno]; rfl) undef w ?_⟩
  rw [hno]
  exact came_same hE hmi (undef_rep _ _)
end
end Go.Sx
namespace Go.Sx
open Go Go.RowKit
theorem RelE.drew {c : Cx} {w0 : World} {T : Nat → Prop} {e : Env} {s : St} {a : Act} {w : World} (r : RelE c w0 T e s a w) : RelE c w0 T e s a { w with drawn := w.drawn + 1 } := by
 have st : Step e e w { w with drawn := w.drawn + 1 } := ⟨fun _ _ h => ⟨h, rfl⟩, fun _ h => ⟨h, rfl, rfl⟩, Nat.le_refl _⟩
 have hb : Below w.heap.size w { w with drawn := w.drawn + 1 } := ⟨rfl, rfl, rfl, Nat.le_refl _, fun _ _ => rfl⟩
 exact ⟨⟨r.env.apart, r.env.owned⟩, r.below.trans (hb.mono r.hB), r.mem.ext hb st (fun _ _ h => h), r.live, r.foe, r.xt.step st, r.slots.step st⟩
section
variable {P : Program} {G : List (Nat × Spec)} {X : Ext} {ops : Array Oper} {c : Cx} {w0 : World} {T : Nat → Prop} {s0 : St} {outs : List Outc} {dec : List (Nat × Bool)}
theorem slot_getD {σ : List AV} {t : Nat} {v : AV} (h : σ[t]? = some v) : σ.getD t .top = v := by simp [List.getD, h]
theorem inv1_end {mm : Nat} (hall : AllOk P G X ops.toList (masks ops.toList []) s0.σ s0.m s0.nx mm outs dec) (hlen : outs.length = mm) {L : Array Bool} {a : Act} {w : World}
  (hΦ : c.Φ s0.gh T w0) (hI : Inv1 ops c w0 T s0 outs mm L a w) (hfull : ∀ k, k < mm → inS L k) :
  Rel c { s0 with σ := finS ops.toList mm outs dec s0.σ 0, m := addsFin s0.nx outs outs 0 ++ s0.m, nx := s0.nx + mm } a w := by
 obtain ⟨e, hE, hB, hm0, hadds, hlive, hdef, htsz, hslots⟩ := hI.rel
 refine ⟨w0, T, e, hΦ, hE, hB, ?_, ?_, hdef.1, hdef.2, ?_, ?_⟩
 ·intro p hp
  rcases List.mem_append.1 hp with hp | hp
  ·obtain ⟨j, c, r, h1, h3, h4, h5, h6⟩ := addsFin_mem hp
   simp only [Nat.zero_add] at h3 h5 h6
   have hj : j < mm := by rw [← hlen]; exact (List.getElem?_eq_some_iff.1 h1).1
   rw [h3, h5]
   obtain ⟨r'', hh, hk1, hk2⟩ := hadds j c (hfull j hj) h1 _ h4 (fun i' ci _ hci he => by rw [ateB_true hci he] at h6; cases h6)
   cases hu : updOf outs j with
   | some r' =>
    obtain ⟨i', ci, hi', hui⟩ := updOf_some hu
    have hi'm : i' < mm := by rw [← hlen]; exact (List.getElem?_eq_some_iff.1 hi').1
    rw [← hk1 i' ci r' (hfull i' hi'm) hi' hui]; exact hh
   | none =>
    rw [← hk2 (fun i' ci r' _ hci => updOf_none hu i' ci r' hci)]; exact hh
  ·exact hm0 p hp
 ·intro k hk
  show k < s0.nx + mm
  rcases hlive k hk with h | ⟨i, h1, h2⟩
  ·omega
  ·have := hI.lt i h1; omega
 ·rw [finS_length]; simpa using htsz.symm
 ·intro t av v hav hv
  rw [finS_get] at hav
  have hv' : a.tmps[t]? = some v := by simpa using hv
  rw [Option.map_eq_some_iff] at hav
  obtain ⟨a0, ha0, rfl⟩ := hav
  have hs := hslots t v hv'
  unfold slotAV at hs
  unfold finV
  simp only [Nat.zero_add]
  cases hwt : writer t ops.toList 0 with
  | none => rw [hwt] at hs; simp only at hs ⊢; rw [slot_getD ha0] at hs; exact hs
  | some k =>
   rw [hwt] at hs
   simp only at hs ⊢
   split
   ·rename_i hb
    have hk : k < mm := by simpa [Nat.blt_eq] using hb
    rw [if_pos (show L.getD k false = true from hfull k hk)] at hs
    simp only [decV]
    cases hld : lookD dec k with
    | some d =>
     have := (hall.1 k d hld).2
     rw [this] at hs
     exact hs.litOf
    | none => exact hs
   ·rename_i hb
    have hk : ¬ k < mm := fun h => by
     have h' : Nat.blt k mm = true := by rw [Nat.blt_eq]; exact h
     rw [h'] at hb; cases hb
    rw [if_neg (show ¬ L.getD k false = true from fun h => hk (hI.lt k h)), slot_getD ha0] at hs
    exact hs
def firstL (n k : Nat) (L : Array Bool) : Prop := L.size = n ∧ ∀ j, inS L j ↔ j < k
theorem wpOps_op {ro : Option Nat} {n : Nat} {Q : Exit → Act → World → Prop} {i : Nat} {rest : List Nat} {a : Act} {w : World} (h : wpOpsIn (fr ro) n P ops Q (i :: rest) a w) : wpOpIn (fr ro) n P ops Q i (wpOpsIn (fr ro) n P ops Q rest) a w := by
 rwa [wpOpsIn_cons] at h
theorem regD_any (hG : SoundG P G) (hX : SoundX P X c) (hmix : P.follows .mixedOrders = true) {s : St} {R : St → Prop} {Q : Exit → Act → World → Prop} (h : (regD P G X ops.toList s).sat R) {a : Act} {w : World} (r : Rel c s a w) {ro : Option Nat} {n : Nat}
  (hQ : ∀ s a w, R s → Rel c s a w → Q .normal a w) : wpAnyIn (fr ro) n P .any ops Q ops.size (Array.replicate ops.size false) a { w with drawn := w.drawn + 1 } := by
 obtain ⟨w0, T, e, hΦ, r⟩ := r
 unfold regD at h
 split at h
 ·exact h.elim
 rename_i hwell
 have h2 := Tree.sat_bind h
 generalize hM : masks ops.toList [] = M at h2
 generalize hmm : mmOf M ops.toList.length = mm at h2
 have hmmle : mm ≤ ops.size := by rw [← hmm]; have := mmOf_le M ops.toList.length; simpa using this
 obtain ⟨outs, dec, hsat, hall, hlen⟩ := drawT_sound (P := P) (G := G) (X := X) (ops := ops.toList) (M := M) (σ0 := s.σ) (m0 := s.m) (nx0 := s.nx) (mm := mm) (ops.toList.take mm) [] [] [] (by simp [Nat.min_eq_left hmmle]) rfl h2 ⟨fun k d hk => by simp [lookD] at hk, fun i o hi => by simp at hi⟩
 have hlen' : outs.length = mm := by rw [hlen]; simp; omega
 subst hM
 have hforced : ∀ k j, mm ≤ k → k < ops.size → j < k → ((masks ops.toList []).getD k 0).testBit j = true := by
  intro k j h1 h2 h3
  exact forced_bit (mmOf_forced _ _ k (by rw [hmm]; exact h1) (by simpa using h2)) h3
 have hdir : ∀ k o, ops[k]? = some o → ∀ j ∈ directP o, j < k := by
  intro k o ho j hj
  have := (wellB_at hwell k o (by simpa using ho)).2 j hj
  simpa using this
 have hm0lt : ∀ p ∈ s.m, p.1 < s.nx := by
  intro p hp
  refine r.live p.1 ?_
  have := r.mem p hp
  exact this.live
 obtain ⟨hakB, hsat⟩ : akaOkB s.nx s.m outs = true ∧ _ := by
  dsimp only at hsat
  split at hsat
  ·exact hsat.elim
  ·rename_i hb
   exact ⟨hb, hsat⟩
 -- the two phases
 let s1 : St := { s with σ := finS ops.toList mm outs dec s.σ 0, m := addsFin s.nx outs outs 0 ++ s.m, nx := s.nx + mm }
 let Inv : Array Bool → Act → World → Prop := fun L a w => (Inv1 ops c w0 T s outs mm L a w ∧ ∃ k, k < mm ∧ ¬ inS L k) ∨ (∃ k, mm ≤ k ∧ k ≤ ops.size ∧ firstL ops.size k L ∧ wpOpsIn (fr ro) n P ops Q (List.range' k (ops.size - k)) a w)
 have hsecond : ∀ L a w, Inv1 ops c w0 T s outs mm L a w → (∀ k, k < mm → inS L k) → Inv L a w := by
  intro L a w hI hfull
  refine .inr ⟨mm, Nat.le_refl _, hmmle, ⟨hI.size, fun j => ⟨hI.lt j, hfull j⟩⟩, ?_⟩
  exact regT_sound hG hX hQ (ops.toList.drop mm) mm rfl s1 a w hsat (inv1_end hall hlen' hΦ hI hfull)
 have hreadyNil : ∀ (L : Array Bool), L.size = ops.size → Region.ready .any ops L = [] → ∀ k, k < ops.size → inS L k := by
  intro L hsz hr k
  induction k using Nat.strongRecOn with
  | _ k ih =>
   intro hk
   rcases Classical.em (inS L k) with h' | h'
   ·exact h'
   ·exfalso
    have hmem : k ∈ Region.ready .any ops L := by
     unfold Region.ready
     rw [List.mem_filter]
     refine ⟨List.mem_range.2 hk, ?_⟩
     have hok : ops[k]? = some ops[k] := by simp [hk]
     rw [hok]
     simp only [Option.map_some, Option.getD_some, Bool.and_eq_true, Bool.not_eq_true']
     refine ⟨?_, ?_⟩
     ·unfold inS at h'
      simp [Array.getD_eq_getD_getElem?, hsz, hk] at h' ⊢
      exact h'
     ·rw [Array.all_eq_true_iff_forall_mem]
      intro ed hed
      cases hb : Region.binds .any ed with
      | false => simp
      | true =>
       have hj : ed.on ∈ directP ops[k] := by
        simp only [directP, List.mem_map, List.mem_filter]
        exact ⟨ed, ⟨by simpa using hed, hb⟩, rfl⟩
       have hlt := hdir k _ hok _ hj
       have := ih ed.on hlt (by omega)
       simpa [inS] using this
    rw [hr] at hmem; cases hmem
 refine wpAny_of Inv ?_ ?_ ?_ ops.size _ a _ ?_ ?_
 ·-- a step
  rintro L a w i (⟨hI, k0, hk0, hk0'⟩ | ⟨k, hk1, hk2, ⟨hsz, hfl⟩, hwp⟩) hi
  ·obtain ⟨hin, hun, o, ho, hpre⟩ := mem_ready hi
   have him : i < mm := by
    rcases Nat.lt_or_ge i mm with h' | h'
    ·exact h'
    ·exfalso
     exact hk0' (mask_in hI.dc i o (by simpa using ho) hpre k0 (hforced i k0 h' hin (by omega)))
   refine wpOpIn_mono (fun a' w' hI' => ?_) (step1 hG ⟨hX.c, hX.f, hX.d⟩ hwell hall hlen' hmmle hm0lt (akaOk_of hakB) hI hi him)
   rcases Classical.em (∀ k, k < mm → inS (L.setIfInBounds i true) k) with hf | hf
   ·exact hsecond _ _ _ hI' hf
   ·refine .inl ⟨hI', ?_⟩
    rcases Classical.not_forall.1 hf with ⟨k, hk⟩
    exact ⟨k, (Classical.not_imp.1 hk).1, (Classical.not_imp.1 hk).2⟩
  ·obtain ⟨hin, hun, o, ho, hpre⟩ := mem_ready hi
   have hni : ¬ inS L i := not_inS (by rw [hsz]; exact hin) hun
   have hki : k ≤ i := by
               rcases Nat.lt_or_ge i k with h' | h'
               ·exact absurd ((hfl i).2 h') hni
               ·exact h'
   have hdc : DC ops.toList L := by
    intro k' o' ho' hk' j hj
    have := hdir k' o' (by simpa using ho') j hj
    have := (hfl k').1 hk'
    exact (hfl j).2 (by omega)
   have hik : i = k := by
    rcases Nat.lt_or_ge k i with h' | h'
    ·exfalso
     have := mask_in hdc i o (by simpa using ho) hpre k (hforced i k (by omega) hin h')
     have := (hfl k).1 this
     omega
    ·omega
   subst hik
   have e1 : ops.size - i = (ops.size - (i + 1)) + 1 := by omega
   rw [e1, List.range'_succ] at hwp
   refine wpOpIn_mono (fun a' w' hwp' => ?_) (wpOps_op hwp)
   refine .inr ⟨i + 1, by omega, hin, ⟨by simp [hsz], fun j => ?_⟩, hwp'⟩
   rw [inS_set (by rw [hsz]; exact hin), hfl]
   omega
 ·rintro L a w (⟨hI, k0, hk0, hk0'⟩ | ⟨k, hk1, hk2, ⟨hsz, hfl⟩, hwp⟩) hr
  ·exact absurd (hreadyNil L hI.size hr k0 (by omega)) hk0'
  ·have hkn : k = ops.size := by
    rcases Nat.lt_or_ge k ops.size with h' | h'
    ·have := (hfl k).1 (hreadyNil L hsz hr k h'); omega
    ·omega
   subst hkn
   simpa [wpOpsIn] using hwp
 ·rintro L a w (⟨hI, _⟩ | ⟨k, _, _, ⟨hsz, _⟩, _⟩)
  ·exact hI.size
  ·exact hsz
 ·-- the start
  have hno : ∀ k, ¬ inS (Array.replicate ops.size false) k := by
   intro k hk
   unfold inS at hk
   rw [Array.getD_eq_getD_getElem?, Array.getElem?_replicate] at hk
   split at hk <;> cases hk
  have hI : Inv1 ops c w0 T s outs mm (Array.replicate ops.size false) a { w with drawn := w.drawn + 1 } := by
   have r := r.drew
   refine ⟨by simp, fun k o _ hk => absurd hk (hno k), fun k hk => absurd hk (hno k), e, r.env, r.below, r.mem, fun i c hi => absurd hi (hno i), fun k hk => .inl (r.live k hk), ⟨r.foe, r.xt⟩, by simpa using r.slots.1.symm, ?_⟩
   intro t v hv
   have hlt : t < s.σ.length := by
    have h1 := r.slots.1
    have h2 := (Array.getElem?_eq_some_iff.1 hv).1
    simp at h1
    omega
   have hr := r.slots.2 t s.σ[t] v (List.getElem?_eq_getElem hlt) (by simpa using hv)
   unfold slotAV
   have hg : s.σ.getD t .top = s.σ[t] := by simp [List.getD, List.getElem?_eq_getElem hlt]
   split
   ·rename_i k hk
    rw [if_neg (show ¬ (Array.replicate ops.size false).getD k false = true from hno k), hg]; exact hr
   ·rw [hg]; exact hr
  rcases Nat.eq_zero_or_pos mm with h0 | h0
  ·exact hsecond _ _ _ hI (fun k hk => by omega)
  ·exact .inl ⟨hI, 0, h0, hno 0⟩
 ·unfold unl
  exact Nat.le_trans List.countP_le_length (by simp)
theorem regD_sound (hG : SoundG P G) (hX : SoundX P X c) (hmix : P.follows .mixedOrders = true) {id : Nat} {s : St} {R : St → Prop} {Q : Exit → Act → World → Prop} (h : (regD P G X ops.toList s).sat R) {a : Act} {w : World} (r : Rel c s a w) {ro : Option Nat} {n : Nat}
  (hQ : ∀ s a w, R s → Rel c s a w → Q .normal a w) : (Code.region id ops true).wpIn (fr ro) n P Q a w :=
 wpIn_region_any hmix (regD_any hG hX hmix h r hQ)
end
end Go.Sx
namespace Go.Sx
open Go Go.RowKit
def edgeO (p : Nat) (o : Oper) : Oper := { o with after := o.after.push { on := p, ground := .data } }
def edgeL (p : Nat) : Nat → List Oper → List Oper
 | _, [] => []
 | 0, o :: l => edgeO p o :: l
 | s + 1, o :: l => o :: edgeL p s l
theorem edgeL_get (p : Nat) : ∀ (s : Nat) (l : List Oper) (i : Nat), (edgeL p s l)[i]? = if i = s then (l[i]?).map (edgeO p) else l[i]?
 | s, [], i => by cases s <;> simp [edgeL]
 | 0, o :: l, i => by cases i <;> simp [edgeL]
 | s + 1, o :: l, i => by
  cases i with
  | zero => simp [edgeL]
  | succ i => simp [edgeL, edgeL_get p s l i]
theorem edgeL_length (p : Nat) : ∀ (s : Nat) (l : List Oper), (edgeL p s l).length = l.length
 | s, [] => by cases s <;> rfl
 | 0, o :: l => rfl
 | s + 1, o :: l => by simp [edgeL, edgeL_length p s l]
def slotOp : Op → Bool
 | .pick _ _ _ => true
 | .move _ => true
 | .assign _ => true
 | _ => false
def notTmp (d : Nat) : Operand → Bool
 | .tmp t => !Nat.beq t d
 | _ => true
def exB (ops : List Oper) (p s : Nat) : Bool := match ops[p]?, ops[s]? with
 | some op, some os => match op.dst, os.op with
  | some d, .store _ x y => !Nat.beq p s && slotOp op.op && op.guard.isNone && os.guard.isNone && os.dst.isNone && notTmp d x && notTmp d y
    && (directP op).all (fun j => Nat.testBit ((masks ops []).getD s 0) j) && (List.range ops.length).all (fun k => Nat.beq k p || Nat.beq k s || Nat.testBit ((masks ops []).getD k 0) p || Nat.testBit ((masks ops []).getD s 0) k)
  | _, _ => false
 | _, _ => false
section
variable {P : Program} {F : Fence} {n : Nat} {Q : Exit → Act → World → Prop}
theorem uponIn_Q {Q' : Exit → Act → World → Prop} (hq : ∀ e a w, Q e a w → Q' e a w) {o : Oper} {a : Act} {K : Act → World → Prop} {r : Result Next} (h : o.uponIn F n P a K Q r) : o.uponIn F n P a K Q' r := by
 have hl : LetsOut Q → LetsOut Q' := fun ⟨a, w, h⟩ => ⟨a, w, hq _ _ _ h⟩
 cases r with
 | ok x w =>
  cases x <;> simp only [Oper.uponIn] at h ⊢ <;> first | exact h | skip
  ·refine ⟨h.1, CallsIn.mono h.2 fun e w'' he => ?_⟩
   cases e with
   | returned u => exact he
   | panicked c => exact hq _ _ _ he
   | outgrown => exact hl he
  ·refine ⟨h.1, RoundIn.mono h.2 fun e w'' he => ?_⟩
   cases e with
   | returned u => exact he
   | panicked c => exact hq _ _ _ he
   | outgrown => exact hl he
 | halt x w => cases x <;> simp only [Oper.uponIn] at h ⊢ <;> first | exact h | exact hq _ _ _ h
theorem wpOpIn_Q {Q' : Exit → Act → World → Prop} (hq : ∀ e a w, Q e a w → Q' e a w) {ops : Array Oper} {i : Nat} {K : Act → World → Prop} {a : Act} {w : World} (h : wpOpIn F n P ops Q i K a w) : wpOpIn F n P ops Q' i K a w := by
 unfold wpOpIn at h ⊢
 split
 ·rename_i ho
  rw [ho] at h
  exact h
 ·rename_i o ho
  rw [ho] at h
  simp only at h
  split
  ·rename_i hw
   rw [if_pos hw] at h
   exact ⟨h.1, uponIn_Q hq h.2⟩
  ·rename_i hw
   rw [if_neg hw] at h
   exact h
theorem wpAnyIn_Q {Q' : Exit → Act → World → Prop} (hq : ∀ e a w, Q e a w → Q' e a w) {ops : Array Oper} {md : Region.Mode} : ∀ {fuel : Nat} {L : Array Bool} {a : Act} {w : World}, wpAnyIn F n P md ops Q fuel L a w → wpAnyIn F n P md ops Q' fuel L a w
 | 0, _, _, _, h => ⟨h.1, hq _ _ _ h.2⟩
 | fuel + 1, _, _, _, h => ⟨fun hr => hq _ _ _ (h.1 hr), fun i hi => wpOpIn_Q hq (wpOpIn_mono (fun _ _ => wpAnyIn_Q hq) (h.2 i hi))⟩
theorem edge_yielded {p s : Nat} {ops ops2 : Array Oper} (h2 : ops2.toList = edgeL p s ops.toList) (tmps : Array Value) : yielded ops2 tmps = yielded ops tmps := by
 have hg : ∀ j, ops2[j]? = if j = s then (ops[j]?).map (edgeO p) else ops[j]? := fun j => by
  have := edgeL_get p s ops.toList j
  rw [← h2] at this
  simpa using this
 funext j
 unfold yielded
 rw [hg]
 by_cases hj : j = s
 ·rw [if_pos hj]
  cases ops[j]? <;> rfl
 ·rw [if_neg hj]
theorem edge_wpOp {p s : Nat} {ops ops2 : Array Oper} (h2 : ops2.toList = edgeL p s ops.toList) {i : Nat} {K : Act → World → Prop} {a : Act} {w : World} : wpOpIn F n P ops2 Q i K a w ↔ wpOpIn F n P ops Q i K a w := by
 have hg : ∀ j, ops2[j]? = if j = s then (ops[j]?).map (edgeO p) else ops[j]? := fun j => by
  have := edgeL_get p s ops.toList j
  rw [← h2] at this
  simpa using this
 unfold wpOpIn
 rw [hg, edge_yielded h2]
 by_cases hj : i = s
 ·rw [if_pos hj]
  cases ops[i]? <;> exact Iff.rfl
 ·rw [if_neg hj]
theorem slot_yields {ops : Array Oper} {i : Nat} {o : Oper} (hq : ∀ c a w, ¬ Q (.panic c) a w) (ho : ops[i]? = some o) (hs : slotOp o.op = true) (hg : o.guard = none) {K : Act → World → Prop} {a : Act} {w : World} (h : wpOpIn F n P ops Q i K a w) :
  ∃ v, K (a.put o.dst v) w ∧ ∀ (K' : Act → World → Prop) w', K' (a.put o.dst v) w' → wpOpIn F n P ops Q i K' a w' := by
 have hw : ∀ t, Region.wanted o (yielded ops t) = true := fun t => by simp [Region.wanted, hg]
 have key : ∀ v, (∀ w, (o.semAt F.round a.eval).run P w = .ok (.value v) w) → (∀ w, o.about P w a.eval = none) → ∃ v, K (a.put o.dst v) w ∧ ∀ (K' : Act → World → Prop) w', K' (a.put o.dst v) w' → wpOpIn F n P ops Q i K' a w' := by
  intro v hv hab
  refine ⟨v, ?_, fun K' w' hk => ?_⟩
  ·unfold wpOpIn at h
   rw [ho] at h
   simp only [hw, if_true, Oper.wpIn, hv, Oper.uponIn] at h
   exact h.2
  ·unfold wpOpIn
   rw [ho]
   simp only [hw, if_true, Oper.wpIn, hv, Oper.uponIn]
   exact ⟨fun f hf => (by rw [hab w'] at hf; cases hf), hk⟩
 obtain ⟨dst, op, type, pos, after, guard⟩ := o
 simp only at hs hg
 subst hg
 cases op with
 | move x =>
  refine key (a.eval x) (fun w => ?_) (fun w => rfl)
  rw [Oper.semAt_eq _ _ _ (fun c h => by cases h)]
  rfl
 | assign x =>
  refine key (a.eval x) (fun w => ?_) (fun w => rfl)
  rw [Oper.semAt_eq _ _ _ (fun c h => by cases h)]
  rfl
 | pick c x y =>
  have he : ∀ w, (Oper.semAt F.round a.eval ⟨dst, .pick c x y, type, pos, after, none⟩).run P w = (execOp a.eval ⟨dst, .pick c x y, type, pos, after, none⟩).run P w := fun w => by
   rw [Oper.semAt_eq _ _ _ (fun c h => by cases h)]
  rcases Classical.em (∃ b, a.eval c = .bool b) with ⟨b, hb⟩ | hb
  ·refine key (if b then a.eval x else a.eval y) (fun w => ?_) (fun w => rfl)
   rw [he]
   simp [execOp, hb, asBool]
  ·exfalso
   unfold wpOpIn at h
   rw [ho] at h
   simp only [hw, if_true, Oper.wpIn, he] at h
   have h := h.2
   cases hc : a.eval c with
   | bool b => exact hb ⟨b, hc⟩
   | _ => simp [execOp, hc, asBool, stuck, Oper.uponIn] at h
 | _ => simp [slotOp] at hs
theorem store_put {ops : Array Oper} {i : Nat} {o : Oper} {t : TypeId} {x y : Operand} {d : Nat} {v : Value} (hq : ∀ c a w, ¬ Q (.panic c) a w) (ho : ops[i]? = some o) (hop : o.op = .store t x y) (hg : o.guard = none) (hd : o.dst = none) (hx : notTmp d x = true) (hy : notTmp d y = true)
  {K : Act → World → Prop} {a : Act} {w : World} (h : wpOpIn F n P ops Q i K (a.put (some d) v) w) : wpOpIn F n P ops Q i (fun a' w' => a' = a ∧ K (a.put (some d) v) w') a w := by
 have hw : ∀ t, Region.wanted o (yielded ops t) = true := fun t => by simp [Region.wanted, hg]
 have ev : ∀ z, notTmp d z = true → (a.put (some d) v).eval z = a.eval z := fun z hz => Act.eval_put fun d' hd' => by
  cases hd'
  rintro rfl
  simp [notTmp] at hz
 obtain ⟨dst, op, type, pos, after, guard⟩ := o
 simp only at hop hg hd
 subst hop hg hd
 have he : ∀ (b : Act), Oper.semAt F.round b.eval ⟨none, .store t x y, type, pos, after, none⟩ = execOp b.eval ⟨none, .store t x y, type, pos, after, none⟩ := fun b => Oper.semAt_eq _ _ _ (fun c h => by cases h)
 have ex : execOp (a.put (some d) v).eval ⟨none, .store t x y, type, pos, after, none⟩ = execOp a.eval ⟨none, .store t x y, type, pos, after, none⟩ := by
  simp only [execOp, ev x hx, ev y hy]
 unfold wpOpIn at h ⊢
 rw [ho] at h ⊢
 simp only [hw, if_true, Oper.wpIn, he, ex] at h ⊢
 refine ⟨fun f hf => (by cases hf), ?_⟩
 have h := h.2
 generalize hr : (execOp a.eval ⟨none, .store t x y, type, pos, after, none⟩).run P w = r at h
 have hsk : (∃ w', r = .ok .skip w') ∨ ∃ u w', r = .halt u w' := by
  rw [← hr]
  simp only [execOp, Sem.run_bind]
  cases (Instr.storeAt t (a.eval x) (a.eval y)).run P w with
  | ok u w' => exact .inl ⟨w', rfl⟩
  | halt u w' => exact .inr ⟨u, w', rfl⟩
 rcases hsk with ⟨w', rfl⟩ | ⟨u, w', rfl⟩
 ·simp only [Oper.uponIn] at h ⊢
  exact ⟨rfl, h⟩
 ·cases u <;> simp only [Oper.uponIn] at h ⊢
  exact (hq _ _ _ h).elim
theorem inS_getD {L : Array Bool} {i : Nat} (hi : i < L.size) (h : ¬ inS L i) : L.getD i true = false := by
 unfold inS at h
 simp [Array.getD_eq_getD_getElem?, hi] at h ⊢
 exact h
theorem ready_mk {ops : Array Oper} {L : Array Bool} {i : Nat} {o : Oper} (hsz : L.size = ops.size) (ho : ops[i]? = some o) (hn : ¬ inS L i) (hd : ∀ j ∈ directP o, inS L j) : i ∈ Region.ready .any ops L := by
 have hi : i < ops.size := (Array.getElem?_eq_some_iff.1 ho).1
 unfold Region.ready
 rw [List.mem_filter]
 refine ⟨List.mem_range.2 hi, ?_⟩
 rw [ho]
 simp only [Option.map_some, Option.getD_some, Bool.and_eq_true, Bool.not_eq_true']
 refine ⟨inS_getD (by rw [hsz]; exact hi) hn, ?_⟩
 rw [Array.all_eq_true_iff_forall_mem]
 intro ed hed
 cases hb : Region.binds .any ed with
 | false => simp
 | true =>
  have hj : ed.on ∈ directP o := by
   simp only [directP, List.mem_map, List.mem_filter]
   exact ⟨ed, ⟨by simpa using hed, hb⟩, rfl⟩
  have := hd ed.on hj
  simpa [inS] using this
theorem directP_edge {p : Nat} {o : Oper} {j : Nat} : j ∈ directP (edgeO p o) ↔ j ∈ directP o ∨ j = p := by
 have : directP (edgeO p o) = directP o ++ [p] := by
  have h1 : List.filter (Region.binds .any) [({ on := p, ground := .data } : Edge)] = [{ on := p, ground := .data }] := rfl
  simp [directP, edgeO, List.filter_append, h1]
 rw [this]
 simp
theorem edge_any {ops ops2 : Array Oper} {p s : Nat} (h2 : ops2.toList = edgeL p s ops.toList) (hex : exB ops.toList p s = true) (hq : ∀ c a w, ¬ Q (.panic c) a w) :
  ∀ (fuel : Nat) (L : Array Bool) (a : Act) (w : World), L.size = ops.size → DC ops.toList L → (inS L p ∨ ¬ inS L s) → wpAnyIn F n P .any ops2 Q fuel L a w → wpAnyIn F n P .any ops Q fuel L a w := by
 have hg : ∀ j, ops2[j]? = if j = s then (ops[j]?).map (edgeO p) else ops[j]? := fun j => by
  have := edgeL_get p s ops.toList j
  rw [← h2] at this
  simpa using this
 have hsz2 : ops2.size = ops.size := by
  have := edgeL_length p s ops.toList
  rw [← h2] at this
  simpa using this
 unfold exB at hex
 split at hex
 rotate_left
 ·cases hex
 rename_i op os hop hos
 have hop : ops[p]? = some op := by simpa using hop
 have hos : ops[s]? = some os := by simpa using hos
 split at hex
 rotate_left
 ·cases hex
 rename_i d t x y hd hst
 simp only [Bool.and_eq_true, Option.isNone_iff_eq_none, Bool.not_eq_true', List.all_eq_true, Bool.or_eq_true, List.mem_range] at hex
 obtain ⟨⟨⟨⟨⟨⟨⟨⟨hps, hslot⟩, hgp⟩, hgs⟩, hds⟩, hx⟩, hy⟩, hdep⟩, hall⟩ := hex
 have hps : p ≠ s := fun h => by rw [h] at hps; simp at hps
 have hpl : p < ops.size := (Array.getElem?_eq_some_iff.1 hop).1
 have hsl : s < ops.size := (Array.getElem?_eq_some_iff.1 hos).1
 -- what is ready
 have sub : ∀ L i, L.size = ops.size → i ∈ Region.ready .any ops2 L → i ∈ Region.ready .any ops L := by
  intro L i hL hi
  obtain ⟨g1, g2, o, g3, g4⟩ := mem_ready hi
  have hn : ¬ inS L i := not_inS (by rw [hL, ← hsz2]; exact g1) g2
  rw [hg] at g3
  by_cases his : i = s
  ·rw [if_pos his, his, hos] at g3
   cases g3
   rw [his] at hn ⊢
   exact ready_mk hL hos hn fun j hj => g4 j (directP_edge.2 (.inl hj))
  ·rw [if_neg his] at g3
   exact ready_mk hL g3 hn g4
 have sup : ∀ L i, L.size = ops.size → i ∈ Region.ready .any ops L → (i ≠ s ∨ inS L p) → i ∈ Region.ready .any ops2 L := by
  intro L i hL hi hor
  obtain ⟨g1, g2, o, g3, g4⟩ := mem_ready hi
  have hn : ¬ inS L i := not_inS (by rw [hL]; exact g1) g2
  by_cases his : i = s
  ·subst his
   rw [hos] at g3
   cases g3
   refine ready_mk (by rw [hL, hsz2]) (o := edgeO p os) (by rw [hg, if_pos rfl, hos]; rfl) hn fun j hj => ?_
   rcases directP_edge.1 hj with hj | rfl
   ·exact g4 j hj
   ·exact hor.resolve_left (fun h => h rfl)
  ·exact ready_mk (by rw [hL, hsz2]) (by rw [hg, if_neg his]; exact g3) hn g4
 have rdp : ∀ L, L.size = ops.size → DC ops.toList L → s ∈ Region.ready .any ops L → ¬ inS L p → p ∈ Region.ready .any ops L := by
  intro L hL hdc hs hn
  obtain ⟨g1, g2, o, g3, g4⟩ := mem_ready hs
  rw [hos] at g3
  cases g3
  exact ready_mk hL hop hn fun j hj => mask_in hdc s os (by simpa using hos) g4 j (hdep j hj)
 have dcs : ∀ L i, L.size = ops.size → DC ops.toList L → i ∈ Region.ready .any ops L → DC ops.toList (L.setIfInBounds i true) := by
  intro L i hL hdc hi k o ho hk j hj
  obtain ⟨g1, g2, o', g3, g4⟩ := mem_ready hi
  have hiL : i < L.size := by rw [hL]; exact g1
  rw [inS_set hiL] at hk ⊢
  right
  rcases hk with rfl | hk
  ·have ho : ops[k]? = some o := by simpa using ho
   rw [g3] at ho
   cases ho
   exact g4 j hj
  ·exact hdc k o ho hk j hj
 intro fuel
 induction fuel using Nat.strongRecOn with
 | _ fuel ih =>
 intro L a w hL hdc hor h
 have hnil : Region.ready .any ops2 L = [] → Region.ready .any ops L = [] := by
  intro hr
  rw [List.eq_nil_iff_forall_not_mem]
  intro i hi
  have : ∃ k, k ∈ Region.ready .any ops2 L := by
   by_cases hc : i ≠ s ∨ inS L p
   ·exact ⟨i, sup L i hL hi hc⟩
   ·have his : i = s := Classical.not_not.1 fun h => hc (.inl h)
    have hnp : ¬ inS L p := fun h => hc (.inr h)
    subst his
    exact ⟨p, sup L p hL (rdp L hL hdc hi hnp) (.inl hps)⟩
  obtain ⟨k, hk⟩ := this
  rw [hr] at hk
  cases hk
 have hnil' : Region.ready .any ops L = [] → Region.ready .any ops2 L = [] := by
  intro hr
  rw [List.eq_nil_iff_forall_not_mem]
  intro i hi
  have := sub L i hL hi
  rw [hr] at this
  cases this
 cases fuel with
 | zero => exact ⟨hnil h.1, h.2⟩
 | succ fuel =>
  refine ⟨fun hr => h.1 (hnil' hr), fun i hi => ?_⟩
  obtain ⟨g1, g2, o, g3, g4⟩ := mem_ready hi
  have hiL : i < L.size := by rw [hL]; exact g1
  by_cases hc : i ≠ s ∨ inS L p
  ·have h1 := (edge_wpOp h2).1 (h.2 i (sup L i hL hi hc))
   refine wpOpIn_mono (fun a' w' h' => ih fuel (Nat.lt_succ_self _) (L.setIfInBounds i true) a' w' (by simp [hL]) (dcs L i hL hdc hi) ?_ h') h1
   rw [inS_set hiL, inS_set hiL]
   rcases hc with hc | hc
   ·rcases hor with hor | hor
    ·exact .inl (.inr hor)
    ·exact .inr (fun h => h.elim (fun h => hc h.symm) hor)
   ·exact .inl (.inr hc)
  ·have his : i = s := Classical.not_not.1 fun h => hc (.inl h)
   have hnp : ¬ inS L p := fun h => hc (.inr h)
   subst his
   have hpr := rdp L hL hdc hi hnp
   have hpL : p < L.size := by rw [hL]; exact hpl
   have h1 := (edge_wpOp h2).1 (h.2 p (sup L p hL hpr (.inl hps)))
   obtain ⟨v, h3, h4⟩ := slot_yields hq hop hslot hgp h1
   rw [hd] at h3 h4
   have hsr : i ∈ Region.ready .any ops2 (L.setIfInBounds p true) := by
    have hn : ¬ inS L i := not_inS hiL g2
    refine sup _ i (by simp [hL]) (ready_mk (by simp [hL]) g3 (fun hh => ?_) (fun j hj => (inS_set hpL).2 (.inr (g4 j hj)))) (.inr ((inS_set hpL).2 (.inl rfl)))
    rcases (inS_set hpL).1 hh with hh | hh
    ·exact hps hh.symm
    ·exact hn hh
   cases fuel with
   | zero =>
    have := h3.1
    rw [this] at hsr
    cases hsr
   | succ f =>
    have h5 := (edge_wpOp h2).1 (h3.2 i hsr)
    have h6 := store_put hq hos hst hgs hds hx hy h5
    refine wpOpIn_mono ?_ h6
    rintro a' w' ⟨rfl, h7⟩
    have hnps : ¬ inS (L.setIfInBounds i true) p := fun hh => by
     rcases (inS_set hiL).1 hh with hh | hh
     ·exact hps hh
     ·exact hnp hh
    have hdc1 := dcs L i hL hdc hi
    have hprd : p ∈ Region.ready .any ops (L.setIfInBounds i true) := by
     obtain ⟨q1, q2, o', q3, q4⟩ := mem_ready hpr
     exact ready_mk (by simp [hL]) q3 hnps fun j hj => (inS_set hiL).2 (.inr (q4 j hj))
    refine ⟨fun hr => (by rw [hr] at hprd; cases hprd), fun k hk => ?_⟩
    have hkp : k = p := by
     obtain ⟨k1, k2, ok, k3, k4⟩ := mem_ready hk
     have hnk : ¬ inS (L.setIfInBounds i true) k := not_inS (by simp [hL]; exact k1) k2
     have hks : k ≠ i := fun hh => hnk ((inS_set hiL).2 (.inl hh))
     rcases hall k (by simpa using k1) with ((hh | hh) | hh) | hh
     ·exact Nat.eq_of_beq_eq_true hh
     ·exact absurd (Nat.eq_of_beq_eq_true hh) hks
     ·exact absurd (mask_in hdc1 k ok (by simpa using k3) k4 p hh) hnps
     ·exfalso
      rw [hos] at g3
      cases g3
      exact hnk ((inS_set hiL).2 (.inr (mask_in hdc i os (by simpa using hos) g4 k hh)))
    subst hkp
    refine h4 _ _ ?_
    rw [Array.setIfInBounds_comm _ _ (Ne.symm hps)]
    refine ih f (by omega) _ _ _ (by simp [hL]) ?_ (.inl ?_) h7
    ·have := dcs _ k (by simp [hL]) hdc1 hprd
     rwa [Array.setIfInBounds_comm _ _ (Ne.symm hps)] at this
    ·rw [inS_set (by simp [hL]; exact g1), inS_set hpL]
     exact .inr (.inl rfl)
end
def exGo (ops : List Oper) (M : List Nat) : List Nat → Option (Nat × Nat)
 | [] => none
 | k :: l => match ops[k]? with
  | some o => match o.op with
   | .store _ (.tmp t) _ => match writer t ops 0 with
    | none => match (List.range k).find? (fun p => !Nat.testBit (M.getD k 0) p) with
     | some p => some (p, k)
     | none => exGo ops M l
    | some _ => exGo ops M l
   | _ => exGo ops M l
  | none => none
def regE (P : Program) (G : List (Nat × Spec)) (X : Ext) (ops : List Oper) (s : St) : Tree St := match exGo ops (masks ops []) (List.range ops.length) with
 | some (p, k) => match exB ops p k with
  | true => regD P G X (edgeL p k ops) s
  | false => regD P G X ops s
 | none => regD P G X ops s
theorem regE_sound {P : Program} {G : List (Nat × Spec)} {X : Ext} {ops : Array Oper} {c : Cx} (hG : SoundG P G) (hX : SoundX P X c) (hmix : P.follows .mixedOrders = true) {id : Nat} {s : St} {R : St → Prop} {Q : Exit → Act → World → Prop} (h : (regE P G X ops.toList s).sat R) {a : Act} {w : World} (r : Rel c s a w) {ro : Option Nat} {n : Nat}
  (hQ : ∀ s a w, R s → Rel c s a w → Q .normal a w) : (Code.region id ops true).wpIn (fr ro) n P Q a w := by
 unfold regE at h
 split at h
 ·rename_i p k _
  split at h
  ·rename_i hex
   refine wpIn_region_any hmix ?_
   let Q' : Exit → Act → World → Prop := fun e a w => match e with
    | .normal => Q .normal a w
    | _ => False
   have h1 := regD_any (ops := (edgeL p k ops.toList).toArray) (Q := Q') hG hX hmix (ro := ro) (n := n) (R := R) (by simpa using h) r hQ
   have hs : (edgeL p k ops.toList).toArray.size = ops.size := by simp [edgeL_length]
   rw [hs] at h1
   have hno : ∀ j, ¬ inS (Array.replicate ops.size false) j := by
    intro j hj
    unfold inS at hj
    rw [Array.getD_eq_getD_getElem?, Array.getElem?_replicate] at hj
    split at hj <;> cases hj
   refine wpAnyIn_Q (Q := Q') (fun e a w hq => ?_) (edge_any rfl hex (fun c a w hq => hq) ops.size _ a _ (by simp) (fun j o _ hj => absurd hj (hno j)) (.inr (hno k)) h1)
   cases e <;> first | exact hq | exact hq.elim
  ·exact regD_sound hG hX hmix h r hQ
 ·exact regD_sound hG hX hmix h r hQ
end Go.Sx
