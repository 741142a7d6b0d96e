/- Texts of this claim, put together: SxW, SxY, SxZ, SxZb, SxNc, SxX, SxZc, SxZd, SxZe -/
import Derived.Test.YtlinbkmpkcmniaaMi
import Derived.ProofKit
import Derived.SizedLaws
import Derived.Deep.Slices
set_option linter.unusedSimpArgs false
set_option linter.unusedVariables false
namespace Go.Sx
open Go Go.RowKit Go.ChangeShapes Go.WideShapes
inductive SK where
 | int (k : IntKind)
 | bool
 | str
def isSc : SK → Value → Prop
 | .int k, v => ∃ n, v = .int k n ∧ (Lit.int k n).wf = true
 | .bool, v => ∃ b, v = .bool b
 | .str, v => ∃ s, v = .string s
def AllSc (ks : List SK) (vs : List Value) : Prop := ks.length = vs.length ∧ ∀ (j : Nat) (k : SK) (v : Value), ks[j]? = some k → vs[j]? = some v → isSc k v
def flatFs (P : Program) (g : TypeId → Option (List SK)) : List Field → Nat → Option (List SK)
 | [], _ => some []
 | f :: fs, off => match g f.type with
  | some ks => match Nat.beq f.offset off && Nat.beq ks.length (P.cellsOf f.type) with
   | true => match flatFs P g fs (off + ks.length) with
    | some r => some (ks ++ r)
    | none => none
   | false => none
  | none => none
def flatK (P : Program) : Nat → TypeId → Option (List SK)
 | 0, _ => none
 | d + 1, t => match P.underlying t with
  | some (.int k) => some [.int k]
  | some .bool => some [.bool]
  | some .string => some [.str]
  | some (.struct fs) => match flatFs P (flatK P d) fs.toList 0 with
   | some ks => match Nat.beq ks.length (P.cellsOf t) with
    | true => some ks
    | false => none
   | none => none
  | _ => none
inductive MK where
 | sc (k : SK)
 | sl (t e : TypeId) (ks : List SK)
def flatMs (P : Program) (g : TypeId → Option (List MK)) : List Field → Nat → Option (List MK)
 | [], _ => some []
 | f :: fs, off => match g f.type with
  | some ks => match Nat.beq f.offset off && Nat.beq ks.length (P.cellsOf f.type) with
   | true => match flatMs P g fs (off + ks.length) with
    | some r => some (ks ++ r)
    | none => none
   | false => none
  | none => none
def flatM (P : Program) : Nat → TypeId → Option (List MK)
 | 0, _ => none
 | d + 1, t => match P.underlying t with
  | some (.int k) => some [.sc (.int k)]
  | some .bool => some [.sc .bool]
  | some .string => some [.sc .str]
  | some (.slice e) => match flatK P 9 e with
   | some ks => match Nat.beq ks.length (P.cellsOf e) with
    | true => some [.sl t e ks]
    | false => none
   | none => none
  | some (.struct fs) => match flatMs P (flatM P d) fs.toList 0 with
   | some ks => match Nat.beq ks.length (P.cellsOf t) with
    | true => some ks
    | false => none
   | none => none
  | _ => none
def tysL : List TypeId → List MK → Bool
 | [], [] => true
 | u :: ts, .sl t _ _ :: ms => Nat.beq u t && tysL ts ms
 | _ :: ts, .sc _ :: ms => tysL ts ms
 | _, _ => false
def tysB (P : Program) (t : TypeId) (ms : List MK) : Bool := match P.cellTypes P.depth t with
 | some ts => tysL ts ms && Nat.beq ms.length (P.cellsOf t)
 | none => false
theorem tysL_len : ∀ {ts : List TypeId} {ms : List MK}, tysL ts ms = true → ts.length = ms.length
 | [], [], _ => rfl
 | [], _ :: _, h => by simp [tysL] at h
 | u :: ts, [], h => by simp [tysL] at h
 | u :: ts, .sl t _ _ :: ms, h => by
  simp only [tysL, Bool.and_eq_true] at h
  rw [List.length_cons, List.length_cons, tysL_len h.2]
 | u :: ts, .sc _ :: ms, h => by
  simp only [tysL] at h
  rw [List.length_cons, List.length_cons, tysL_len h]
theorem tysL_get : ∀ {ts : List TypeId} {ms : List MK} {j : Nat} {t e : TypeId} {ks : List SK}, tysL ts ms = true → ms[j]? = some (.sl t e ks) → ts[j]? = some t
 | [], [], j, t, e, ks, _, hj => by simp at hj
 | [], _ :: _, _, _, _, _, h, _ => by simp [tysL] at h
 | u :: ts, [], _, _, _, _, h, _ => by simp [tysL] at h
 | u :: ts, .sl t' _ _ :: ms, j, t, e, ks, h, hj => by
  simp only [tysL, Bool.and_eq_true] at h
  cases j with
  | zero =>
   simp at hj
   obtain ⟨rfl, _, _⟩ := hj
   have := Nat.eq_of_beq_eq_true h.1
   simp [this]
  | succ j => simpa using tysL_get h.2 (by simpa using hj)
 | u :: ts, .sc _ :: ms, j, t, e, ks, h, hj => by
  simp only [tysL] at h
  cases j with
  | zero => simp at hj
  | succ j => simpa using tysL_get h (by simpa using hj)
def AllP (r : MK → Value → Prop) (ks : List MK) (vs : List Value) : Prop := ks.length = vs.length ∧ ∀ (j : Nat) (k : MK) (v : Value), ks[j]? = some k → vs[j]? = some v → r k v
theorem AllP.append {r : MK → Value → Prop} {ks ks' : List MK} {vs vs' : List Value} (h : AllP r ks vs) (h' : AllP r ks' vs') : AllP r (ks ++ ks') (vs ++ vs') := by
 refine ⟨by simp [h.1, h'.1], fun j k v hk hv => ?_⟩
 rw [List.getElem?_append] at hk hv
 rw [← h.1] at hv
 split at hk
 ·rename_i hi; rw [if_pos hi] at hv; exact h.2 _ _ _ hk hv
 ·rename_i hi; rw [if_neg hi] at hv; exact h'.2 _ _ _ hk hv
theorem AllP.one {r : MK → Value → Prop} {k : MK} {v : Value} (h : r k v) : AllP r [k] [v] := by
 refine ⟨rfl, fun j k' v' hk hv => ?_⟩
 cases j with
 | zero => simp at hk hv; subst hk; subst hv; exact h
 | succ j => simp at hk
section
variable {H : Type} {enc : TypeId × Value → H} {P : Program} {w : World} {base : Nat} {spare : Nat → Bool} {held : Bool}
theorem AllSc.append {ks ks' : List SK} {vs vs' : List Value} (h : AllSc ks vs) (h' : AllSc ks' vs') : AllSc (ks ++ ks') (vs ++ vs') := by
 refine ⟨by simp [h.1, h'.1], fun j k v hk hv => ?_⟩
 rw [List.getElem?_append] at hk hv
 rw [← h.1] at hv
 split at hk
 ·rename_i hi; rw [if_pos hi] at hv; exact h.2 _ _ _ hk hv
 ·rename_i hi; rw [if_neg hi] at hv; exact h'.2 _ _ _ hk hv
theorem flatFs_sc {g : TypeId → Option (List SK)} {cs : List Value} (hg : ∀ t ks (off : Nat), g t = some ks → (∃ n x, DataW.trod enc P w base spare held n t ((cs.drop off).take (P.cellsOf t)) = some x) → AllSc ks ((cs.drop off).take (P.cellsOf t))) :
  ∀ (fs : List Field) (off : Nat) (ks : List SK), flatFs P g fs off = some ks → off ≤ cs.length → (∀ f ∈ fs, ∃ n x, DataW.trod enc P w base spare held n f.type ((cs.drop f.offset).take (P.cellsOf f.type)) = some x) → AllSc ks ((cs.drop off).take ks.length)
 | [], _, ks, h, _, _ => by
  simp only [flatFs, Option.some.injEq] at h
  subst h
  exact ⟨by simp, fun j k v h => by simp at h⟩
 | f :: fs, off, ks, h, ho, hf => by
  unfold flatFs at h
  split at h
  ·rename_i ks1 h1
   split at h
   ·rename_i hb
    simp only [Bool.and_eq_true] at hb
    have e1 : f.offset = off := Nat.eq_of_beq_eq_true hb.1
    have e2 : ks1.length = P.cellsOf f.type := Nat.eq_of_beq_eq_true hb.2
    split at h
    ·rename_i r hr
     cases h
     have h2 := hf f List.mem_cons_self
     rw [e1] at h2
     have a1 := hg f.type ks1 off h1 h2
     have hl : off + ks1.length ≤ cs.length := by
      have := a1.1
      rw [List.length_take, List.length_drop, ← e2] at this
      omega
     have a2 := flatFs_sc hg fs (off + ks1.length) r hr hl (fun f' hf' => hf f' (List.mem_cons_of_mem _ hf'))
     have := a1.append a2
     rw [← e2] at this
     rw [List.length_append, List.take_add, List.drop_drop]
     exact this
    ·cases h
   ·cases h
  ·cases h
theorem one_sc {k : SK} {v : Value} (h : isSc k v) : AllSc [k] [v] := by
 refine ⟨rfl, fun j k' v' hk hv => ?_⟩
 cases j with
 | zero => simp at hk hv; subst hk; subst hv; exact h
 | succ j => simp at hk
theorem trod_flat : ∀ (d : Nat) (t : TypeId) (ks : List SK) (fuel : Nat) (cs : List Value) (x : DataW H × List MemPlace), flatK P d t = some ks → DataW.trod enc P w base spare held fuel t cs = some x → AllSc ks cs
 | 0, _, _, _, _, _, h, _ => by simp [flatK] at h
 | d + 1, t, ks, fuel, cs, x, h, hx => by
  unfold flatK at h
  split at h
  ·rename_i k hu
   cases h
   obtain ⟨n, rfl, _, hw⟩ := DataW.trod_int hu hx
   exact one_sc ⟨n, rfl, hw⟩
  ·rename_i hu
   cases h
   obtain ⟨b, rfl, _⟩ := DataW.trod_bool hu hx
   exact one_sc ⟨b, rfl⟩
  ·rename_i hu
   cases h
   obtain ⟨s, rfl, _⟩ := DataW.trod_string hu hx
   exact one_sc ⟨s, rfl⟩
  ·rename_i fs hu
   split at h
   ·rename_i ks' hks
    split at h
    ·rename_i hb
     cases h
     have hl : ks.length = P.cellsOf t := Nat.eq_of_beq_eq_true hb
     obtain ⟨xs, n, _, _, hlen, hxl, hf⟩ := DataW.trod_struct hu hx
     have := flatFs_sc (enc := enc) (w := w) (base := base) (spare := spare) (held := held) (cs := cs) (g := flatK P d) (fun t' ks' off hk ⟨n', x', hx'⟩ => trod_flat d t' ks' n' _ x' hk hx') fs.toList 0 ks hks (Nat.zero_le _) (fun f hf' => by
      obtain ⟨i, hi⟩ := List.mem_iff_getElem?.1 hf'
      have hi' : fs[i]? = some f := by simpa using hi
      have hlt : i < xs.length := by rw [hxl]; exact (Array.getElem?_eq_some_iff.1 hi').1
      exact ⟨n, xs[i], (hf i f hi').trans (List.getElem?_eq_getElem hlt)⟩)
     rw [hl, ← hlen] at this
     simpa using this
    ·cases h
   ·cases h
  ·cases h
def MOk (enc : TypeId × Value → H) (P : Program) (w : World) (base : Nat) (spare : Nat → Bool) (held : Bool) : MK → Value → Prop
 | .sc k, v => isSc k v
 | .sl t e ks, v => P.underlying t = some (.slice e) ∧ flatK P 9 e = some ks ∧ ks.length = P.cellsOf e ∧ ∃ n x, DataW.trod enc P w base spare held n t [v] = some x ∧ ∀ q ∈ x.1.weights P t, q ≤ reachBytes
theorem weights_each : ∀ {ts : List TypeId} {ds : List (DataW H)} {i : Nat} {t : TypeId} {d : DataW H} {q : Nat}, ts[i]? = some t → ds[i]? = some d → q ∈ d.weights P t → q ∈ DataW.weightsEach P ts ds
 | [], _, i, _, _, _, h, _, _ => by simp at h
 | _ :: _, [], i, _, _, _, _, h, _ => by simp at h
 | t :: ts, d :: ds, i, t', d', q, h, h', hq => by
  simp only [DataW.weightsEach, List.mem_append]
  cases i with
  | zero => simp at h h'; subst h; subst h'; exact .inl hq
  | succ i => exact .inr (weights_each (by simpa using h) (by simpa using h') hq)
theorem flatMs_ok {g : TypeId → Option (List MK)} {r : MK → Value → Prop} {cs : List Value} (hg : ∀ t ks (off : Nat), g t = some ks → (∃ n x, DataW.trod enc P w base spare held n t ((cs.drop off).take (P.cellsOf t)) = some x ∧ ∀ q ∈ x.1.weights P t, q ≤ reachBytes) → AllP r ks ((cs.drop off).take (P.cellsOf t))) :
  ∀ (fs : List Field) (off : Nat) (ks : List MK), flatMs P g fs off = some ks → off ≤ cs.length → (∀ f ∈ fs, ∃ n x, DataW.trod enc P w base spare held n f.type ((cs.drop f.offset).take (P.cellsOf f.type)) = some x ∧ ∀ q ∈ x.1.weights P f.type, q ≤ reachBytes) → AllP r ks ((cs.drop off).take ks.length)
 | [], _, ks, h, _, _ => by
  simp only [flatMs, Option.some.injEq] at h
  subst h
  exact ⟨by simp, fun j k v h => by simp at h⟩
 | f :: fs, off, ks, h, ho, hf => by
  unfold flatMs at h
  split at h
  ·rename_i ks1 h1
   split at h
   ·rename_i hb
    simp only [Bool.and_eq_true] at hb
    have e1 : f.offset = off := Nat.eq_of_beq_eq_true hb.1
    have e2 : ks1.length = P.cellsOf f.type := Nat.eq_of_beq_eq_true hb.2
    split at h
    ·rename_i r' hr
     cases h
     have h2 := hf f List.mem_cons_self
     rw [e1] at h2
     have a1 := hg f.type ks1 off h1 h2
     have hl : off + ks1.length ≤ cs.length := by
      have := a1.1
      rw [List.length_take, List.length_drop, ← e2] at this
      omega
     have a2 := flatMs_ok hg fs (off + ks1.length) r' hr hl (fun f' hf' => hf f' (List.mem_cons_of_mem _ hf'))
     have := a1.append a2
     rw [← e2] at this
     rw [List.length_append, List.take_add, List.drop_drop]
     exact this
    ·cases h
   ·cases h
  ·cases h
theorem trod_flatM : ∀ (d : Nat) (t : TypeId) (ks : List MK) (fuel : Nat) (cs : List Value) (x : DataW H × List MemPlace), flatM P d t = some ks → DataW.trod enc P w base spare held fuel t cs = some x → (∀ q ∈ x.1.weights P t, q ≤ reachBytes) → AllP (MOk enc P w base spare held) ks cs
 | 0, _, _, _, _, _, h, _, _ => by simp [flatM] at h
 | d + 1, t, ks, fuel, cs, x, h, hx, hz => by
  unfold flatM at h
  split at h
  ·rename_i k hu
   cases h
   obtain ⟨n, rfl, _, hw⟩ := DataW.trod_int hu hx
   exact .one ⟨n, rfl, hw⟩
  ·rename_i hu
   cases h
   obtain ⟨b, rfl, _⟩ := DataW.trod_bool hu hx
   exact .one ⟨b, rfl⟩
  ·rename_i hu
   cases h
   obtain ⟨s, rfl, _⟩ := DataW.trod_string hu hx
   exact .one ⟨s, rfl⟩
  ·rename_i e hu
   split at h
   ·rename_i ks' hk
    split at h
    ·rename_i hb
     cases h
     have h1 : ∃ v, cs = [v] := by
      rcases Go.Deep.open_slice hu hx with ⟨h0, _⟩ | ⟨a, len, cap, m, n, D, Pl, h0, _⟩ <;> exact ⟨_, h0⟩
     obtain ⟨v, rfl⟩ := h1
     exact .one ⟨hu, hk, Nat.eq_of_beq_eq_true hb, fuel, x, hx, hz⟩
    ·cases h
   ·cases h
  ·rename_i fs hu
   split at h
   ·rename_i ks' hks
    split at h
    ·rename_i hb
     cases h
     have hl : ks.length = P.cellsOf t := Nat.eq_of_beq_eq_true hb
     obtain ⟨xs, n, _, hxe, hlen, hxl, hf⟩ := DataW.trod_struct hu hx
     have hzz : ∀ q ∈ DataW.weightsEach P (fs.toList.map (·.type)) (xs.map (·.1)), q ≤ reachBytes := by
      intro q hq
      refine hz q ?_
      rw [hxe]
      simpa [DataW.weights, hu] using hq
     have := flatMs_ok (enc := enc) (w := w) (base := base) (spare := spare) (held := held) (cs := cs) (g := flatM P d) (r := MOk enc P w base spare held) (fun t' ks' off hk ⟨n', x', hx', hz'⟩ => trod_flatM d t' ks' n' _ x' hk hx' hz') fs.toList 0 ks hks (Nat.zero_le _) (fun f hf' => by
      obtain ⟨i, hi⟩ := List.mem_iff_getElem?.1 hf'
      have hi' : fs[i]? = some f := by simpa using hi
      have hlt : i < xs.length := by rw [hxl]; exact (Array.getElem?_eq_some_iff.1 hi').1
      exact ⟨n, xs[i], (hf i f hi').trans (List.getElem?_eq_getElem hlt), fun q hq => hzz q (weights_each (i := i) (by simp [hi']) (by simp [List.getElem?_eq_getElem hlt]) hq)⟩)
     rw [hl, ← hlen] at this
     simpa using this
    ·cases h
   ·cases h
  ·cases h
inductive CellA (P : Program) : MK → AV → Prop
 | sc (k : SK) (v : Value) : isSc k v → CellA P (.sc k) (.x v)
 | sl (t e : TypeId) (ks : List SK) (n : Nat) (f : Nat → List Value) : n ≤ maxLen → n * P.bytesOf e ≤ reachBytes → (∀ i, i < n → AllSc ks (f i)) → CellA P (.sl t e ks) (.lst ks.length n (fun i => (f i).map .x))
def CellsA (P : Program) (ms : List MK) (l : List AV) : Prop := ms.length = l.length ∧ ∀ (j : Nat) (k : MK) (a : AV), ms[j]? = some k → l[j]? = some a → CellA P k a
inductive ArgOk (P : Program) : TypeId → AV → Prop
 | sc (t : TypeId) (k : SK) (v : Value) : (∀ fs, P.underlying t ≠ some (.struct fs)) → flatK P 9 t = some [k] → isSc k v → ArgOk P t (.x v)
 | st (t : TypeId) (fs : Array Field) (ks : List SK) (vs : List Value) : P.underlying t = some (.struct fs) → flatK P 9 t = some ks → AllSc ks vs → ArgOk P t (.agg (vs.map .x))
 | sl (t e : TypeId) (ks : List SK) (n : Nat) (f : Nat → List Value) : P.underlying t = some (.slice e) → flatK P 9 e = some ks → n ≤ maxLen → n * P.bytesOf e ≤ reachBytes → (∀ i, i < n → AllSc ks (f i)) → ArgOk P t (.lst ks.length n (fun i => (f i).map .x))
 | mx (t : TypeId) (fs : Array Field) (ms : List MK) (l : List AV) : P.underlying t = some (.struct fs) → flatK P 9 t = none → flatM P 9 t = some ms → CellsA P ms l → ArgOk P t (.agg l)
 | sm (t e : TypeId) (fs : Array Field) (ms : List MK) (n : Nat) (f : Nat → List AV) : P.underlying t = some (.slice e) → P.underlying e = some (.struct fs) → flatK P 9 e = none → flatM P 9 e = some ms → n ≤ maxLen → n * P.bytesOf e ≤ reachBytes → (∀ i, i < n → CellsA P ms (f i)) → ArgOk P t (.lst ms.length n f)
def fullK : List MK → Bool
 | [] => true
 | .sc _ :: ms => fullK ms
 | .sl _ _ ks :: ms => !ks.isEmpty && fullK ms
def plainT (P : Program) (t : TypeId) : Bool := match P.underlying t with
 | some (.int _) | some .bool | some .string => (flatK P 9 t).isSome
 | some (.struct _) => match flatK P 9 t with
  | some _ => true
  | none => match flatM P 9 t with
   | some ms => tysB P t ms
   | none => false
 | some (.slice e) => match flatK P 9 e with
  | some ks => Nat.beq ks.length (P.cellsOf e)
  | none => match P.underlying e, flatM P 9 e with
   | some (.struct _), some ms => Nat.beq ms.length (P.cellsOf e) && (fullK ms && !ms.isEmpty)
   | _, _ => false
 | _ => false
def allE (w : World) : Env := { ro := fun b => b < w.heap.size, own := fun _ => none, live := fun _ => False, blk := fun _ => 0, val := fun _ => .nilIface }
theorem slice_ok {r : Reach} {b0 : Nat} {t e : TypeId} {v : Value} {fuel : Nat} {x : DataW H × List MemPlace} {ks : List SK} (hu : P.underlying t = some (.slice e)) (hk : flatK P 9 e = some ks) (hl : ks.length = P.cellsOf e) (hv : Cell.okWide P w r b0 t v) (hf : DataW.trod enc P w 0 (fun _ => true) held fuel t v.cells.toList = some x) (hz : ∀ q ∈ x.1.weights P t, q ≤ reachBytes) :
  ∃ (n : Nat) (f : Nat → List Value), n ≤ maxLen ∧ n * P.bytesOf e ≤ reachBytes ∧ (∀ i, i < n → AllSc ks (f i)) ∧ Rep (allE w) w (.lst ks.length n (fun i => (f i).map .x)) v ∧ Idf (.lst ks.length n (fun i => (f i).map .x)) := by
 obtain ⟨a0, n0, c0, rfl⟩ : ∃ a0 n0 c0, v = .slice a0 n0 c0 := by
  have hx := hv
  simp only [Cell.okWide, Cell.ok, hu] at hx
  split at hx <;> simp_all
 rcases Go.Deep.open_slice hu hf with ⟨h0, _⟩ | ⟨a, len, cap, m, n, D, Pl, h0, hb, hlc, hm, hmm, hdat, hi⟩
 ·simp [Value.cells] at h0
  obtain ⟨rfl, rfl, rfl⟩ := h0
  exact ⟨0, fun _ => [], Nat.zero_le _, by simp, (fun i hi => by omega), .lstNil _ _, .lst _ _ _ (fun i hi => by omega)⟩
 ·simp [Value.cells] at h0
  obtain ⟨rfl, rfl, rfl⟩ := h0
  simp only [if_true] at hmm
  subst hmm
  have hok : w.has P r b0 a e m := by
   simp only [Value.okWide, hu, Cell.okWide, Cell.ok] at hv
   exact hv.2.2
  obtain ⟨_, hsp, row, cells, hsh, _⟩ := hok
  obtain ⟨ab, ao, as⟩ := a
  simp only at hsp
  subst hsp
  have hblt : ab < w.heap.size := by
   unfold World.shape? at hsh
   cases hh : w.heap[ab]? with
   | none => simp only [hh] at hsh; cases hsh
   | some o => exact (Array.getElem?_eq_some_iff.1 hh).1
  let F : Nat → List Value := fun i => (w.cells? 0 ((⟨ab, ao, none⟩ : Addr).add (i * P.cellsOf e)) (P.cellsOf e)).getD []
  have hF : ∀ i, i < m → AllSc ks (F i) ∧ ∀ j, j < ks.length → w.cell? ⟨ab, ao + (i * ks.length + j), none⟩ = (F i)[j]? := by
   intro i hi'
   obtain ⟨cs', hcs, htr⟩ := hi i hi'
   have e1 : F i = cs' := by simp only [F, hcs, Option.getD_some]
   rw [e1]
   refine ⟨trod_flat 9 e ks n cs' _ hk htr, fun j hj => ?_⟩
   obtain ⟨_, _, h3⟩ := World.cells?_some hcs
   have := h3 j (by omega)
   rw [addrAdd, addrAdd] at this
   rw [hl, ← this, Nat.add_assoc]
  have hsize : n0 * P.bytesOf e ≤ reachBytes := by
   have hd : x.1 = .slice ((List.range n0).map D) ((List.range (m - n0)).map fun j => D (n0 + j)) := by
    have := congrArg Prod.fst hdat
    exact this
   have h1 := hz ((((List.range n0).map D).length + ((List.range (m - n0)).map fun j => D (n0 + j)).length) * P.bytesOf e) (by rw [hd]; simp [DataW.weights, hu])
   rw [List.length_map, List.length_range] at h1
   exact Nat.le_trans (Nat.mul_le_mul_right _ (Nat.le_add_right _ _)) h1
  refine ⟨n0, F, by omega, hsize, (fun i hi' => (hF i (by omega)).1), ?_, .lst _ _ _ (fun i hi' a ha => ?_)⟩
  ·refine .lst _ _ _ ab ao m (fun i j => (F i).getD j .nilIface) (fun _ => hblt) (fun _ => hblt) (fun i hi' a ha => ?_) hlc hm (fun i j hi' hj => ?_) (fun i hi' => ?_) (fun i j a hi' ha => ?_) _ (fun _ => rfl)
   ·obtain ⟨b, _, rfl⟩ := List.mem_map.1 ha
    exact .x b
   ·rw [(hF i (by omega)).2 j hj]
    have hjl : j < (F i).length := by rw [← (hF i (by omega)).1.1]; exact hj
    simp [List.getD, List.getElem?_eq_getElem hjl]
   ·simp [(hF i (by omega)).1.1]
   ·rw [List.getElem?_map, Option.map_eq_some_iff] at ha
    obtain ⟨b, hb', rfl⟩ := ha
    simp only [List.getD, hb', Option.getD_some]
    exact .x b
  ·obtain ⟨b, _, rfl⟩ := List.mem_map.1 ha
   exact .x b
theorem fullK_get : ∀ {ms : List MK} {j : Nat} {t e : TypeId} {ks : List SK}, fullK ms = true → ms[j]? = some (.sl t e ks) → 0 < ks.length
 | [], j, t, e, ks, _, hj => by simp at hj
 | .sc _ :: ms, j, t, e, ks, h, hj => by
  cases j with
  | zero => simp at hj
  | succ j => exact fullK_get (ms := ms) h (by simpa using hj)
 | .sl _ _ ks' :: ms, j, t, e, ks, h, hj => by
  simp only [fullK, Bool.and_eq_true] at h
  cases j with
  | zero =>
   simp at hj
   obtain ⟨_, _, rfl⟩ := hj
   cases ks' with
   | nil => simp at h
   | cons a b => simp
  | succ j => exact fullK_get (ms := ms) h.2 (by simpa using hj)
theorem slice_at {e : TypeId} {a : Addr} {cap : Nat} {D : Nat → DataW H} {Pl : Nat → List MemPlace} {n : Nat} (hc : 0 < P.cellsOf e) (hi : ∀ i, i < cap → ∃ cs', w.cells? 0 (a.add (i * P.cellsOf e)) (P.cellsOf e) = some cs' ∧ DataW.trod enc P w 0 (fun _ => true) held n e cs' = some (D i, Pl i)) (h : 0 < cap) : a = ⟨a.block, a.off, none⟩ ∧ a.block < w.heap.size := by
 obtain ⟨cs', h1, _⟩ := hi 0 h
 obtain ⟨_, h2, h3⟩ := World.cells?_some h1
 have h4 := h3 0 hc
 rw [Nat.zero_mul] at h4
 have e0 : (a.add 0).add 0 = a := by simp [Addr.add]
 rw [e0, List.getElem?_eq_getElem (by omega)] at h4
 obtain ⟨ab, ao, as⟩ := a
 unfold World.cell? at h4
 split at h4
 ·rename_i c x y hb
  have hlt := (Array.getElem?_eq_some_iff.1 hb).1
  cases as with
  | none => exact ⟨rfl, hlt⟩
  | some s => simp at h4
 ·cases h4
theorem slice_in {t e : TypeId} {v : Value} {fuel : Nat} {x : DataW H × List MemPlace} {ks : List SK} (hu : P.underlying t = some (.slice e)) (hk : flatK P 9 e = some ks) (hl : ks.length = P.cellsOf e) (hpos : 0 < ks.length) (hf : DataW.trod enc P w 0 (fun _ => true) held fuel t [v] = some x) (hz : ∀ q ∈ x.1.weights P t, q ≤ reachBytes) :
  ∃ (n : Nat) (f : Nat → List Value), n ≤ maxLen ∧ n * P.bytesOf e ≤ reachBytes ∧ (∀ i, i < n → AllSc ks (f i)) ∧ Rep (allE w) w (.lst ks.length n (fun i => (f i).map .x)) v ∧ Idf (.lst ks.length n (fun i => (f i).map .x)) := by
 rcases Go.Deep.open_slice hu hf with ⟨h0, _⟩ | ⟨a, n0, cap, m, n, D, Pl, h0, hb, hlc, hm, hmm, hdat, hi⟩
 ·simp at h0
  subst h0
  exact ⟨0, fun _ => [], Nat.zero_le _, by simp, (fun i hi => by omega), .lstNil _ _, .lst _ _ _ (fun i hi => by omega)⟩
 ·simp at h0
  subst h0
  simp only [if_true] at hmm
  subst hmm
  have hat : 0 < m → a = ⟨a.block, a.off, none⟩ ∧ a.block < w.heap.size := slice_at (by omega) hi
  let F : Nat → List Value := fun i => (w.cells? 0 (a.add (i * P.cellsOf e)) (P.cellsOf e)).getD []
  have hF : ∀ i, i < m → AllSc ks (F i) ∧ ∀ j, j < ks.length → w.cell? ⟨a.block, a.off + (i * ks.length + j), none⟩ = (F i)[j]? := by
   intro i hi'
   obtain ⟨cs', hcs, htr⟩ := hi i hi'
   have e1 : F i = cs' := by simp only [F, hcs, Option.getD_some]
   rw [e1]
   refine ⟨trod_flat 9 e ks n cs' _ hk htr, fun j hj => ?_⟩
   obtain ⟨_, _, h3⟩ := World.cells?_some hcs
   have := h3 j (by omega)
   rw [(hat (by omega)).1, addrAdd, addrAdd] at this
   rw [hl, ← this, Nat.add_assoc]
  have hsize : n0 * P.bytesOf e ≤ reachBytes := by
   have hd : x.1 = .slice ((List.range n0).map D) ((List.range (m - n0)).map fun j => D (n0 + j)) := by
    have := congrArg Prod.fst hdat
    exact this
   have h1 := hz ((((List.range n0).map D).length + ((List.range (m - n0)).map fun j => D (n0 + j)).length) * P.bytesOf e) (by rw [hd]; simp [DataW.weights, hu])
   rw [List.length_map, List.length_range] at h1
   exact Nat.le_trans (Nat.mul_le_mul_right _ (Nat.le_add_right _ _)) h1
  refine ⟨n0, F, by omega, hsize, (fun i hi' => (hF i (by omega)).1), ?_, .lst _ _ _ (fun i hi' a ha => ?_)⟩
  ·refine .lst _ _ _ a.block a.off m (fun i j => (F i).getD j .nilIface) (fun h => (hat (by omega)).2) (fun h => (hat (by omega)).2) (fun i hi' a ha => ?_) hlc hm (fun i j hi' hj => ?_) (fun i hi' => ?_) (fun i j a hi' ha => ?_) a (fun h => (hat (by omega)).1)
   ·obtain ⟨b, _, rfl⟩ := List.mem_map.1 ha
    exact .x b
   ·rw [(hF i (by omega)).2 j hj]
    have hjl : j < (F i).length := by rw [← (hF i (by omega)).1.1]; exact hj
    simp [List.getD, List.getElem?_eq_getElem hjl]
   ·simp [(hF i (by omega)).1.1]
   ·rw [List.getElem?_map, Option.map_eq_some_iff] at ha
    obtain ⟨b, hb', rfl⟩ := ha
    simp only [List.getD, hb', Option.getD_some]
    exact .x b
  ·obtain ⟨b, _, rfl⟩ := List.mem_map.1 ha
   exact .x b
theorem cells_in {ms : List MK} {vs : List Value} (hfull : fullK ms = true) (h : AllP (MOk enc P w 0 (fun _ => true) held) ms vs) : ∃ l, CellsA P ms l ∧ RepL (allE w) w l vs ∧ ∀ a ∈ l, Idf a := by
 have key : ∀ (j : Nat) (k : MK) (v : Value), ms[j]? = some k → vs[j]? = some v → ∃ a, CellA P k a ∧ Rep (allE w) w a v ∧ Idf a := by
  intro j k v hj hvj
  have h2 := h.2 j k v hj hvj
  cases k with
  | sc k => exact ⟨.x v, .sc k v h2, .x v, .x v⟩
  | sl t' e ks =>
   obtain ⟨hu', hk', hl', n', x', hx', hz'⟩ := h2
   obtain ⟨n, f, g1, g2, g3, g4, g5⟩ := slice_in hu' hk' hl' (fullK_get hfull hj) hx' hz'
   exact ⟨_, .sl t' e ks n f g1 g2 g3, g4, g5⟩
 have all : ∀ (ms : List MK) (vs : List Value), ms.length = vs.length → (∀ (j : Nat) (k : MK) (v : Value), ms[j]? = some k → vs[j]? = some v → ∃ a, CellA P k a ∧ Rep (allE w) w a v ∧ Idf a) → ∃ l, CellsA P ms l ∧ RepL (allE w) w l vs ∧ ∀ a ∈ l, Idf a := by
  intro ms
  induction ms with
  | nil =>
   intro vs hl _
   cases vs with
   | nil => exact ⟨[], ⟨rfl, fun j k a h => by simp at h⟩, RepL.nil _ _, fun a ha => by cases ha⟩
   | cons v vs => simp at hl
  | cons k ms ih =>
   intro vs hl h
   cases vs with
   | nil => simp at hl
   | cons v vs =>
    obtain ⟨a, a1, a2, a3⟩ := h 0 k v rfl rfl
    obtain ⟨l, l1, l2, l3⟩ := ih vs (by simpa using hl) (fun j k v hk hv => h (j + 1) k v (by simpa using hk) (by simpa using hv))
    refine ⟨a :: l, ⟨by simp [l1.1], fun j k' a' hk ha => ?_⟩, RepL.cons a2 l2, fun b hb => ?_⟩
    ·cases j with
     | zero => simp at hk ha; subst hk; subst ha; exact a1
     | succ j => exact l1.2 j k' a' (by simpa using hk) (by simpa using ha)
    ·rcases List.mem_cons.1 hb with rfl | hb
     ·exact a3
     ·exact l3 b hb
 exact all ms vs h.1 key
theorem weights_all {e : TypeId} {d : DataW H} {q : Nat} : ∀ {ds : List (DataW H)}, d ∈ ds → q ∈ d.weights P e → q ∈ DataW.weightsAll P e ds
 | [], h, _ => by cases h
 | d' :: ds, h, hq => by
  simp only [DataW.weightsAll, List.mem_append]
  rcases List.mem_cons.1 h with rfl | h
  ·exact .inl hq
  ·exact .inr (weights_all h hq)
theorem slice_mx {t e : TypeId} {v : Value} {fuel : Nat} {x : DataW H × List MemPlace} {ms : List MK} (hu : P.underlying t = some (.slice e)) (hk : flatM P 9 e = some ms) (hl : ms.length = P.cellsOf e) (hpos : 0 < ms.length) (hfull : fullK ms = true) (hf : DataW.trod enc P w 0 (fun _ => true) held fuel t [v] = some x) (hz : ∀ q ∈ x.1.weights P t, q ≤ reachBytes) :
  ∃ (n : Nat) (f : Nat → List AV), n ≤ maxLen ∧ n * P.bytesOf e ≤ reachBytes ∧ (∀ i, i < n → CellsA P ms (f i)) ∧ Rep (allE w) w (.lst ms.length n f) v ∧ Idf (.lst ms.length n f) := by
 rcases Go.Deep.open_slice hu hf with ⟨h0, _⟩ | ⟨a, n0, cap, m, n, D, Pl, h0, hb, hlc, hm, hmm, hdat, hi⟩
 ·simp at h0
  subst h0
  exact ⟨0, fun _ => [], Nat.zero_le _, by simp, (fun i hi => by omega), .lstNil _ _, .lst _ _ _ (fun i hi => by omega)⟩
 ·simp at h0
  subst h0
  simp only [if_true] at hmm
  subst hmm
  have hat : 0 < m → a = ⟨a.block, a.off, none⟩ ∧ a.block < w.heap.size := slice_at (by omega) hi
  have hd : x.1 = .slice ((List.range n0).map D) ((List.range (m - n0)).map fun j => D (n0 + j)) := by
   have := congrArg Prod.fst hdat
   exact this
  have hsize : n0 * P.bytesOf e ≤ reachBytes := by
   have h1 := hz ((((List.range n0).map D).length + ((List.range (m - n0)).map fun j => D (n0 + j)).length) * P.bytesOf e) (by rw [hd]; simp [DataW.weights, hu])
   rw [List.length_map, List.length_range] at h1
   exact Nat.le_trans (Nat.mul_le_mul_right _ (Nat.le_add_right _ _)) h1
  let F : Nat → List Value := fun i => (w.cells? 0 (a.add (i * P.cellsOf e)) (P.cellsOf e)).getD []
  have hF : ∀ i, i < n0 → ∃ l, (CellsA P ms l ∧ RepL (allE w) w l (F i) ∧ ∀ a ∈ l, Idf a) ∧ (F i).length = ms.length ∧ ∀ j, j < ms.length → w.cell? ⟨a.block, a.off + (i * ms.length + j), none⟩ = (F i)[j]? := by
   intro i hi'
   obtain ⟨cs', hcs, htr⟩ := hi i (by omega)
   have e1 : F i = cs' := by simp only [F, hcs, Option.getD_some]
   rw [e1]
   have hzi : ∀ q ∈ (D i).weights P e, q ≤ reachBytes := fun q hq => hz q (by
    rw [hd]
    simp only [DataW.weights, hu, List.mem_cons, List.mem_append]
    exact .inr (.inl (weights_all (List.mem_map.2 ⟨i, List.mem_range.2 hi', rfl⟩) hq)))
   have h1 := trod_flatM 9 e ms n cs' _ hk htr hzi
   obtain ⟨l, h2⟩ := cells_in hfull h1
   refine ⟨l, h2, h1.1.symm, fun j hj => ?_⟩
   obtain ⟨_, _, h3⟩ := World.cells?_some hcs
   have := h3 j (by omega)
   rw [(hat (by omega)).1, addrAdd, addrAdd] at this
   rw [hl, ← this, Nat.add_assoc]
  obtain ⟨f, hf'⟩ := Go.Deep.choose_lt hF
  refine ⟨n0, f, by omega, hsize, (fun i hi' => (hf' i hi').1.1), ?_, .lst _ _ _ (fun i hi' => (hf' i hi').1.2.2)⟩
  refine .lst _ _ _ a.block a.off m (fun i j => (F i).getD j .nilIface) (fun h => (hat (by omega)).2) (fun h => (hat (by omega)).2) (fun i hi' => (hf' i hi').1.2.2) hlc hm (fun i j hi' hj => ?_) (fun i hi' => ?_) (fun i j b hi' ha => ?_) a (fun h => (hat (by omega)).1)
  ·have h1 := hf' i hi'
   rw [h1.2.2 j hj]
   have hjl : j < (F i).length := by rw [h1.2.1]; exact hj
   simp [List.getD, List.getElem?_eq_getElem hjl]
  ·exact (hf' i hi').1.1.1.symm
  ·have h1 := (hf' i hi').1.2.1
   have hj : j < (F i).length := by rw [← h1.1]; exact (List.getElem?_eq_some_iff.1 ha).1
   have h2 := h1.2 j b (F i)[j] ha (List.getElem?_eq_getElem hj)
   simpa only [List.getD, List.getElem?_eq_getElem hj, Option.getD_some] using h2
theorem arg_ok {r : Reach} {b0 : Nat} {t : TypeId} {v : Value} {d : DataW H} {p : List MemPlace} (hp : plainT P t = true) (hv : Value.okWide P w r b0 t v) (h : DataW.Trod enc P w 0 (fun _ => true) held t v d p) (hz : ∀ q ∈ d.weights P t, q ≤ reachBytes) :
  ∃ av, ArgOk P t av ∧ Rep (allE w) w av v ∧ Idf av := by
 unfold plainT at hp
 obtain ⟨fuel, hf⟩ := h
 have scal : ∀ k, (∀ fs, P.underlying t ≠ some (.struct fs)) → flatK P 9 t = some [k] → (∀ cs, v ≠ .agg cs) → ∃ av, ArgOk P t av ∧ Rep (allE w) w av v ∧ Idf av := by
  intro k hns hk hna
  have h1 := trod_flat 9 t [k] fuel _ _ hk hf
  have hc : v.cells.toList = [v] := by cases v <;> first | rfl | exact absurd rfl (hna _)
  rw [hc] at h1
  exact ⟨.x v, .sc t k v hns hk (h1.2 0 k v rfl rfl), .x v, .x v⟩
 split at hp
 ·rename_i k hu
  obtain ⟨n, rfl⟩ := okWide_int hu hv
  exact scal (.int k) (fun fs h => by rw [hu] at h; cases h) (by simp [flatK, hu]) (fun cs h => by cases h)
 ·rename_i hu
  obtain ⟨b, rfl⟩ := okWide_bool hu hv
  exact scal .bool (fun fs h => by rw [hu] at h; cases h) (by simp [flatK, hu]) (fun cs h => by cases h)
 ·rename_i hu
  obtain ⟨s, rfl⟩ := okWide_string hu hv
  exact scal .str (fun fs h => by rw [hu] at h; cases h) (by simp [flatK, hu]) (fun cs h => by cases h)
 ·rename_i fs hu
  cases hk : flatK P 9 t with
  | none =>
   rw [hk] at hp
   simp only at hp
   cases hm : flatM P 9 t with
   | none => rw [hm] at hp; cases hp
   | some ms =>
    rw [hm] at hp
    simp only [tysB] at hp
    split at hp
    ·rename_i ts hts
     simp only [Bool.and_eq_true] at hp
     have hml : ms.length = P.cellsOf t := Nat.eq_of_beq_eq_true hp.2
     have htl := tysL_len hp.1
     simp only [Value.okWide, hu] at hv
     obtain ⟨cs, rfl, hcs, ts', hts', _, hrow⟩ := hv
     rw [hts] at hts'
     cases hts'
     have h1 := trod_flatM 9 t ms fuel _ _ hm hf hz
     simp only [Value.cells] at h1
     have key : ∀ (j : Nat) (k : MK) (v : Value), ms[j]? = some k → cs.toList[j]? = some v → ∃ a, CellA P k a ∧ Rep (allE w) w a v ∧ Idf a := by
      intro j k v hj hvj
      have h2 := h1.2 j k v hj hvj
      cases k with
      | sc k => exact ⟨.x v, .sc k v h2, .x v, .x v⟩
      | sl t' e ks =>
       obtain ⟨hu', hk', hl', n', x', hx', hz'⟩ := h2
       obtain ⟨u, hu2, hc⟩ := hrow j v (by simpa using hvj)
       have hjl : j < ts.length := by rw [htl]; exact (List.getElem?_eq_some_iff.1 hj).1
       rw [Nat.mod_eq_of_lt hjl, tysL_get hp.1 hj] at hu2
       cases hu2
       have hvc : v.cells.toList = [v] := by
        obtain ⟨a0, n0, c0, rfl⟩ : ∃ a0 n0 c0, v = .slice a0 n0 c0 := by
         have hx := hc
         simp only [Cell.okWide, Cell.ok, hu'] at hx
         split at hx <;> simp_all
        rfl
       obtain ⟨n, f, g1, g2, g3, g4, g5⟩ := slice_ok hu' hk' hl' hc (by rw [hvc]; exact hx') hz'
       exact ⟨_, .sl t' e ks n f g1 g2 g3, g4, g5⟩
     have all : ∀ (ms : List MK) (vs : List Value), ms.length = vs.length → (∀ (j : Nat) (k : MK) (v : Value), ms[j]? = some k → vs[j]? = some v → ∃ a, CellA P k a ∧ Rep (allE w) w a v ∧ Idf a) → ∃ l, CellsA P ms l ∧ RepL (allE w) w l vs ∧ ∀ a ∈ l, Idf a := by
      intro ms
      induction ms with
      | nil =>
       intro vs hl _
       cases vs with
       | nil => exact ⟨[], ⟨rfl, fun j k a h => by simp at h⟩, RepL.nil _ _, fun a ha => by cases ha⟩
       | cons v vs => simp at hl
      | cons k ms ih =>
       intro vs hl h
       cases vs with
       | nil => simp at hl
       | cons v vs =>
        obtain ⟨a, a1, a2, a3⟩ := h 0 k v rfl rfl
        obtain ⟨l, l1, l2, l3⟩ := ih vs (by simpa using hl) (fun j k v hk hv => h (j + 1) k v (by simpa using hk) (by simpa using hv))
        refine ⟨a :: l, ⟨by simp [l1.1], fun j k' a' hk ha => ?_⟩, RepL.cons a2 l2, fun b hb => ?_⟩
        ·cases j with
         | zero => simp at hk ha; subst hk; subst ha; exact a1
         | succ j => exact l1.2 j k' a' (by simpa using hk) (by simpa using ha)
        ·rcases List.mem_cons.1 hb with rfl | hb
         ·exact a3
         ·exact l3 b hb
     obtain ⟨l, l1, l2, l3⟩ := all ms cs.toList h1.1 key
     refine ⟨.agg l, .mx t fs ms l hu hk hm l1, ?_, .agg _ l3⟩
     have := Rep.aggL l2
     simpa using this
    ·cases hp
  | some ks =>
   obtain ⟨cs, rfl, _⟩ := okWide_struct hu hv
   have h1 := trod_flat 9 t ks fuel _ _ hk hf
   refine ⟨.agg (cs.toList.map .x), .st t fs ks cs.toList hu hk h1, ?_, .agg _ (fun a ha => ?_)⟩
   ·have := Rep.aggL (RepL.xs (allE w) w cs.toList)
    simpa using this
   ·obtain ⟨b, _, rfl⟩ := List.mem_map.1 ha
    exact .x b
 ·rename_i e hu
  cases hk : flatK P 9 e with
  | none =>
   rw [hk] at hp
   simp only at hp
   split at hp
   ·rename_i fs ms hue hms
    simp only [Bool.and_eq_true] at hp
    have hv' : Cell.okWide P w r b0 t v := by
     simpa only [Value.okWide, hu] using hv
    have hvc : v.cells.toList = [v] := by
     obtain ⟨a0, n0, c0, rfl⟩ : ∃ a0 n0 c0, v = .slice a0 n0 c0 := by
      have hx := hv'
      simp only [Cell.okWide, Cell.ok, hu] at hx
      split at hx <;> simp_all
     rfl
    rw [hvc] at hf
    have hpos : 0 < ms.length := by
     cases ms with
     | nil => simp at hp
     | cons a b => simp
    obtain ⟨n, f, h1, h2, h3, h4, h5⟩ := slice_mx hu hms (Nat.eq_of_beq_eq_true hp.1) hpos hp.2.1 hf hz
    exact ⟨_, .sm t e fs ms n f hu hue hk hms h1 h2 h3, h4, h5⟩
   ·cases hp
  | some ks =>
   rw [hk] at hp
   have hl : ks.length = P.cellsOf e := Nat.eq_of_beq_eq_true hp
   have hv' : Cell.okWide P w r b0 t v := by
    simpa only [Value.okWide, hu] using hv
   obtain ⟨n, f, h1, h2, h3, h4, h5⟩ := slice_ok hu hk hl hv' hf hz
   exact ⟨_, .sl t e ks n f hu hk h1 h2 h3, h4, h5⟩
 ·cases hp
inductive ArgsOk (P : Program) : List TypeId → List AV → Prop
 | nil : ArgsOk P [] []
 | cons {t : TypeId} {a : AV} {ts : List TypeId} {l : List AV} : ArgOk P t a → ArgsOk P ts l → ArgsOk P (t :: ts) (a :: l)
theorem args_ok {b0 : Nat} {r : Reach} : ∀ (ts : List TypeId) (vs : List Value) (ds : List (DataW H)) (p : List MemPlace), ts.all (plainT P) = true → (∀ (j : Nat) t v, ts[j]? = some t → vs[j]? = some v → Value.okWide P w r b0 t v) →
  DataW.TrodAll enc P w 0 (fun _ => true) held ts vs ds p → (∀ q ∈ DataW.weightsEach P ts ds, q ≤ reachBytes) → ∃ avs, ArgsOk P ts avs ∧ RepL (allE w) w avs vs ∧ ∀ a ∈ avs, Idf a
 | [], vs, ds, p, _, _, h, _ => by
  cases vs with
  | nil => exact ⟨[], .nil, RepL.nil _ _, fun a ha => by cases ha⟩
  | cons v vs => cases ds <;> simp [DataW.TrodAll] at h
 | t :: ts, vs, ds, p, hp, hv, h, hz => by
  obtain ⟨v, vs', d, ds', p1, q1, rfl, rfl, rfl, h1, h2⟩ := trodAll_cons h
  simp only [List.all_cons, Bool.and_eq_true] at hp
  obtain ⟨a, ha, hr, hi⟩ := arg_ok hp.1 (hv 0 t v rfl rfl) h1 (fun q hq => hz q (by simp only [DataW.weightsEach, List.mem_append]; exact .inl hq))
  obtain ⟨l, hl, hrl, hil⟩ := args_ok ts vs' ds' q1 hp.2 (fun j t' v' ht hv' => hv (j + 1) t' v' (by simpa using ht) (by simpa using hv')) h2 (fun q hq => hz q (by simp only [DataW.weightsEach, List.mem_append]; exact .inr hq))
  refine ⟨a :: l, .cons ha hl, RepL.cons hr hrl, fun x hx => ?_⟩
  rcases List.mem_cons.1 hx with rfl | hx
  ·exact hi
  ·exact hil x hx
theorem law_calls {f : FuncId} {b0 : Nat} {r : Reach} {ts : List TypeId} {vs : Array Value} {ds : List (DataW H)} {p : List MemPlace} (hp : ts.all (plainT P) = true) (hv : ∀ (j : Nat) t v, ts[j]? = some t → vs.toList[j]? = some v → Value.okWide P w r b0 t v)
  (h : DataW.TrodAll enc P w 0 (fun _ => true) held ts vs.toList ds p) (hz : ∀ q ∈ DataW.weightsEach P ts ds, q ≤ reachBytes) (hs : ∀ avs, ArgsOk P ts avs → SoundAt P f avs (.x (.bool true))) : Calls P f vs w fun e w' => e = .returned (.bool true) ∧ Below w.heap.size w w' := by
 obtain ⟨avs, h1, h2, h3⟩ := args_ok ts vs.toList ds p hp hv h hz
 refine (hs avs h1 (allE w) w vs.toList (fun b hb => hb) h3 h2).mono fun e w' hq => ?_
 obtain ⟨v, rfl, hb, hr⟩ := hq
 rw [hr.x_inv]
 exact ⟨rfl, hb⟩
theorem args_stay {W W' : World} {sp : Nat → Bool} (hl : laidOutB P = true) (hb : Below W.heap.size W W') : ∀ (ts : List TypeId) (vs : List Value) (ds : List (DataW H)) (p : List MemPlace), ts.all (fun t => P.readableRec t && decide (t < P.types.size)) = true →
  DataW.TrodAll enc P W 0 (fun _ => true) true ts vs ds p → (∀ x ∈ p, x.block < W.heap.size) → (∀ x ∈ p, sp x.block = true) → DataW.TrodAll enc P W' 0 sp true ts vs ds p
 | [], vs, ds, p, _, h, _, _ => by
  cases vs <;> cases ds <;> simp [DataW.TrodAll] at h ⊢
  exact h
 | t :: ts, vs, ds, p, hr, h, hlt, hsp => by
  obtain ⟨v, vs', d, ds', p1, q1, rfl, rfl, rfl, h1, h2⟩ := trodAll_cons h
  simp only [List.all_cons, Bool.and_eq_true, decide_eq_true_eq] at hr
  refine ⟨p1, q1, WideElems.Trod_stays hl hr.1.1 hr.1.2 h1 (fun x hx => hb.same (hlt x (List.mem_append_left _ hx))) (fun x hx => hsp x (List.mem_append_left _ hx)), args_stay hl hb ts vs' ds' q1 ?_ h2 (fun x hx => hlt x (List.mem_append_right _ hx)) (fun x hx => hsp x (List.mem_append_right _ hx)), rfl⟩
  simpa using hr.2
theorem law_post {f : Func} {s : ChangeSpec} {apart fresh handsOn again : Bool} {W W' : World} {args : Array Value} {ds : List (DataW H)} {before : List MemPlace} {tb : TypeId} (hl : laidOutB P = true) (hr : f.params.toList.all (fun t => P.readableRec t && decide (t < P.types.size)) = true) (hres : f.resultTypes = #[tb]) (hub : P.underlying tb = some .bool)
  (hvars : s.vars = []) (hfr : (s.fn H ds).results = [.lit (.bool true)]) (hfa : (s.fn H ds).args = ds) (hfv : (s.fn H ds).vars = [])
  (hW : DataW.Whole enc P f.params.toList s.vars apart W args.toList ds [] before) (hA : DataW.TrodAll enc P W 0 (fun _ => true) true f.params.toList args.toList ds before) (hb : Below W.heap.size W W') :
  s.post enc P f apart fresh handsOn again W args (.bool true) W' := by
 have hlt : ∀ p ∈ before, p.block < W.heap.size := fun p hp => hW.lt p hp
 have hold : ∀ p ∈ before, (fun b => decide (b < W.heap.size)) p.block = true := fun p hp => by simpa using hlt p hp
 have hres' : ∀ (b : Nat) (sp : Nat → Bool) (hd : Bool), DataW.TrodAll enc P W' b sp hd f.resultTypes.toList ((Value.bool true).resultList f.resultTypes.size) (s.fn H (ds ++ [])).results [] := by
  intro b sp hd
  rw [List.append_nil, hfr, hres]
  exact trodAll_mk1 (shut_bool hub true)
 have hargs : ∀ sp : Nat → Bool, (∀ p ∈ before, sp p.block = true) → DataW.TrodAll enc P W' 0 sp true f.params.toList args.toList (s.fn H (ds ++ [])).args before := by
  intro sp hsp
  rw [List.append_nil, hfa]
  exact args_stay hl hb _ _ _ _ hr hA hlt hsp
 have hvars' : ∀ sp : Nat → Bool, (∀ p ∈ before, sp p.block = true) → DataW.TrodVars enc P W' sp s.vars (s.fn H (ds ++ [])).vars [] := by
  intro sp _
  rw [List.append_nil, hfv, hvars]
  rfl
 refine ⟨ds, [], before, [], before, [], hW, hres' _ _ _, hargs _ hold, hvars' _ hold, World.keptBut_mono (fun p hp => ⟨hp, Or.inr (by simpa using hp)⟩) (hb.frame (· ∈ before)), fun _ => ?_⟩
 obtain ⟨_, _, _, _, _, hz, hn⟩ := hW
 refine ⟨ok_one hres rfl (okWide_bool_mk hub true), _, _, ([] ++ before) ++ [], ⟨[] ++ before, [], trodAll_append (hargs _ (fun _ _ => rfl)) (hres' _ _ _), hvars' _ (fun _ _ => rfl), rfl, ?_, ?_⟩, ?_⟩
 ·intro b off hp
  have hin : MemPlace.cell b off ∈ before := by simpa using hp
  rw [hb.frozen (hlt _ hin)]
  exact hz b off hin
 ·intro ha
  have := hn ha
  simpa using this
 ·intro p hp _
  simpa using hp
end
end Go.Sx
namespace Go.Sx
open Go Go.RowKit
section
variable {P : Program}
def structB (P : Program) (t : TypeId) : Bool := match P.underlying t with
 | some (.struct _) => true
 | _ => false
def scalB (P : Program) (t : TypeId) : Bool := match P.underlying t with
 | some (.int _) | some .bool | some .string => true
 | _ => false
def sliceOf (P : Program) (t : TypeId) : Option TypeId := match P.underlying t with
 | some (.slice e) => some e
 | _ => none
theorem ArgOk.agg {t : TypeId} {av : AV} {ks : List SK} (h : ArgOk P t av) (hs : structB P t = true) (hk : flatK P 9 t = some ks) : ∃ vs, av = .agg (vs.map .x) ∧ AllSc ks vs := by
 unfold structB at hs
 split at hs
 ·rename_i fs hu
  cases h with
  | sc k v h0 h1 h2 => exact absurd hu (h0 fs)
  | st fs' ks' vs h1 h2 h3 => rw [hk] at h2; cases h2; exact ⟨vs, rfl, h3⟩
  | sl e ks' n f h1 h2 h3 h5 h4 => rw [hu] at h1; cases h1
  | mx fs' ms l h1 h2 h3 h4 => rw [hk] at h2; cases h2
  | sm e fs' ms n f h1 => rw [hu] at h1; cases h1
 ·cases hs
theorem ArgOk.one {t : TypeId} {av : AV} {k : SK} (h : ArgOk P t av) (hs : scalB P t = true) (hk : flatK P 9 t = some [k]) : ∃ v, av = .x v ∧ isSc k v := by
 cases h with
 | sc k' v h0 h1 h2 => rw [hk] at h1; cases h1; exact ⟨v, rfl, h2⟩
 | st fs' ks' vs h1 h2 h3 => unfold scalB at hs; rw [h1] at hs; cases hs
 | sl e ks' n f h1 h2 h3 h5 h4 => unfold scalB at hs; rw [h1] at hs; cases hs
 | mx fs' ms l h1 h2 h3 h4 => unfold scalB at hs; rw [h1] at hs; cases hs
 | sm e fs' ms n f h1 => unfold scalB at hs; rw [h1] at hs; cases hs
theorem ArgOk.list {t e : TypeId} {av : AV} {ks : List SK} (h : ArgOk P t av) (hs : sliceOf P t = some e) (hk : flatK P 9 e = some ks) : ∃ (n : Nat) (f : Nat → List Value), av = .lst ks.length n (fun i => (f i).map .x) ∧ (n ≤ maxLen ∧ n * P.bytesOf e ≤ reachBytes) ∧ ∀ i, i < n → AllSc ks (f i) := by
 unfold sliceOf at hs
 split at hs
 ·rename_i e' hu
  cases hs
  cases h with
  | sc k v h0 h1 h2 => simp [flatK, hu] at h1
  | st fs' ks' vs h1 h2 h3 => rw [hu] at h1; cases h1
  | mx fs' ms l h1 h2 h3 h4 => rw [hu] at h1; cases h1
  | sm e' fs' ms n f h1 h2 h3 => rw [hu] at h1; cases h1; rw [hk] at h3; cases h3
  | sl e' ks' n f h1 h2 h3 h5 h4 =>
   rw [hu] at h1
   cases h1
   rw [hk] at h2
   cases h2
   exact ⟨n, f, rfl, ⟨h3, h5⟩, h4⟩
 ·cases hs
theorem CellsA.nil {l : List AV} (h : CellsA P [] l) : l = [] := List.eq_nil_of_length_eq_zero h.1.symm
theorem CellsA.cons {k : MK} {ms : List MK} {l : List AV} (h : CellsA P (k :: ms) l) : ∃ a l', l = a :: l' ∧ CellA P k a ∧ CellsA P ms l' := by
 cases l with
 | nil => have := h.1; simp at this
 | cons a l => exact ⟨a, l, rfl, h.2 0 k a rfl rfl, ⟨by have := h.1; simpa using this, fun j k' a' hk ha => h.2 (j + 1) k' a' (by simpa using hk) (by simpa using ha)⟩⟩
theorem AllSc.nil {vs : List Value} (h : AllSc [] vs) : vs = [] := List.eq_nil_of_length_eq_zero h.1.symm
theorem AllSc.cons {k : SK} {ks : List SK} {vs : List Value} (h : AllSc (k :: ks) vs) : ∃ v vs', vs = v :: vs' ∧ isSc k v ∧ AllSc ks vs' := by
 cases vs with
 | nil => have := h.1; simp at this
 | cons v vs => exact ⟨v, vs, rfl, h.2 0 k v rfl rfl, ⟨by have := h.1; simpa using this, fun j k' v' hk hv => h.2 (j + 1) k' v' (by simpa using hk) (by simpa using hv)⟩⟩
end
end Go.Sx
namespace Go.Sx
open Go Go.RowKit
inductive Gd where
 | rest
 | go (b : Bool) (g : Gd)
 | both (g g' : Gd)
def guide {α : Type} : Tree α → Gd → Tree α
 | .fail, _ => .fail
 | .leaf a, _ => .leaf a
 | .need ps t, g => .need ps (guide t g)
 | .branch b t f, g => match g with
  | .rest => .branch b t f
  | .go true g => .need [b = true] (guide t g)
  | .go false g => .need [b = false] (guide f g)
  | .both g g' => .branch b (guide t g) (guide f g')
 | .may p t f, g => match g with
  | .rest => .may p t f
  | .go true g => .may p (guide t g) (guide f g)
  | .go false g => .need [¬ p] (guide f g)
  | .both g g' => .may p (guide t g) (guide f g')
theorem guide_sat {α : Type} {Q : α → Prop} {t : Tree α} : ∀ {g : Gd}, (guide t g).sat Q → t.sat Q := by
 induction t with
 | fail => intro g h; exact h
 | leaf a => intro g h; exact h
 | need ps t ih => intro g h; exact ⟨h.1, ih h.2⟩
 | branch b t f iht ihf =>
  intro g h
  cases g with
  | rest => exact h
  | go d g =>
   cases d
   ·obtain ⟨h1, h2⟩ := h
    exact ⟨fun hb => absurd ((show b = false from h1).symm.trans hb) (by decide), fun _ => ihf h2⟩
   ·obtain ⟨h1, h2⟩ := h
    exact ⟨fun _ => iht h2, fun hb => absurd ((show b = true from h1).symm.trans hb) (by decide)⟩
  | both g g' => exact ⟨fun hb => iht (h.1 hb), fun hb => ihf (h.2 hb)⟩
 | may p t f iht ihf =>
  intro g h
  cases g with
  | rest => exact h
  | go d g =>
   cases d
   ·exact ⟨fun hp => absurd hp h.1, ihf h.2⟩
   ·exact ⟨fun hp => iht (h.1 hp), ihf h.2⟩
  | both g g' => exact ⟨fun hp => iht (h.1 hp), ihf h.2⟩
theorem soundAt_finG {P : Program} {G : List (Nat × Spec)} {X : Ext} {L : List LSpec} {f : FuncId} {fn : Func} {c : Code} {avs : List AV} {res : AV} {t : Tree RV} (g : Gd) (hG : SoundG P G) (hX : ∀ cx, SoundX P X cx) (hmix : P.follows .mixedOrders = true) (hf : P.funcs[f]? = some fn) (hb : fn.body = some c)
  (hL : ∀ j cj, loopAt c j = some cj → ∀ sp, L[j]? = some sp → LSoundN P cj sp) (ht : guide (finT P fn.results.toList (codeX P G X L c 0 (startS fn avs))) g = t) (h : t.sat (fun r => fitP r res)) : SoundAt P f avs res := by
 subst ht
 exact soundAt_ofX hG hX hmix hf hb hL (endOk_fin (guide_sat h))
end Go.Sx
namespace Go.Sx
open Go Go.RowKit
def EvOk (P : Program) (cx : Cx) (L : List LSpec) (ev : Code → Nat → St → CT) : Prop :=
 ∀ (ro : Option Nat) (n : Nat) (c : Code) (off : Nat) (s : St) (Q : AEx × St → Prop) (a : Act) (w : World), (∀ j cj, loopAt c j = some cj → ∀ sp, L[off + j]? = some sp → LSoundC P ro cx cj sp) → (ev c off s).sat Q → Rel cx s a w → c.wpIn (fr ro) n P (postOf cx Q) a w
theorem calls_ofE {P : Program} {L : List LSpec} {f : FuncId} {fn : Func} {c : Code} {avs : List AV} {ev : Code → Nat → St → CT} (hf : P.funcs[f]? = some fn) (hb : fn.body = some c)
  {cx : Cx} {gh : Option Nat} {w : World} {T : Nat → Prop} {e : Env} {args : List Value} (hev : EvOk P cx L ev) (hK : ∀ b o, ¬ cx.K b o) (hsv : cx.saved = []) (hsz0 : cx.sz = 0) (hM : ∀ g T w0 D, cx.Φ g T w0 → cx.M D → w0.heap.size ≤ D) (hΦ : cx.Φ gh T w)
  (hT : ∀ b, T b → b < w.heap.size ∧ ¬ e.ro b) (hro : ∀ b, e.ro b → b < w.heap.size) (hidf : ∀ a ∈ avs, Idf a) (hr : RepL e w avs args)
  (hL : ∀ j cj, loopAt c j = some cj → ∀ sp, L[j]? = some sp → LSoundC P none cx cj sp) {E : AEx × St → Prop} (h : (ev c 0 { startS fn avs with gh := gh }).sat E) {R : Ending → World → Prop}
  (fin : ∀ x s w0 T' e' tmps w', E (x, s) → cx.Φ s.gh T' w0 → EnvOk e' w0.heap.size w' → Below w0.heap.size w0 w' → MemOk e' s.m w' → (∀ b, T' b → ¬ e'.ro b) → RepL e' w' s.σ tmps.toList → ∃ v, (results fn tmps).run P w' = .ok v w' ∧ R (.returned v) w')
  (hex : ∀ x s, E (x, s) → ∀ i, x ≠ .exit i) : Calls P f args.toArray w R := by
 let e0 : Env := { ro := e.ro, own := fun _ => none, live := fun _ => False, blk := fun _ => 0, val := fun _ => .nilIface }
 have hr0 : RepL e0 w avs args := ⟨hr.1, fun i a v ha hv => Rep.idf (e := e) (e' := e0) (fun _ h => h) (hr.2 i a v ha hv) (hidf a (List.mem_of_getElem? ha))⟩
 have hrel : Rel cx { startS fn avs with gh := gh } { tmps := args.toArray ++ Array.replicate (fn.ntmps - args.toArray.size) undef, defers := [] } w := by
  refine ⟨w, T, e0, hΦ, ⟨fun b hb => ⟨rfl, hro b hb⟩, (fun b k hk => by cases hk)⟩, Below.refl _ _, (fun p hp => by cases hp), (fun k hk => False.elim hk), hT, ⟨⟨(fun d hd => by cases hd), List.nodup_nil⟩, (fun b o h => (hK b o h).elim), ⟨by rw [hsv]; rfl, (fun i a v h => by cases h)⟩, by rw [hsz0]; exact Nat.zero_le _⟩, ?_⟩
  have htop : RepL e0 w (List.replicate (fn.ntmps - avs.length) .top) (List.replicate (fn.ntmps - avs.length) undef) := by
   refine ⟨by simp, fun i a v ha _ => ?_⟩
   have := List.mem_of_getElem? ha
   rw [List.mem_replicate] at this
   rw [this.2]; exact .top v
  have := hr0.append htop
  simpa [startS, hr.1] using this
 refine callsIn_wide (n := 0).1 (callsIn_of_wp_marks (F := fr none) hf hb trivial (wpIn_mono (hev none 0 c 0 _ _ _ w (fun j cj hj sp hsp => hL j cj hj sp (by simpa using hsp)) h hrel) ?_) rfl)
 rintro ex a' w' ⟨x, s', rfl, hE, w0, T', e', hΦ', re⟩
 have hx := hex x s' hE
 have hfin : LeavesInM (fr none) 0 P fn a'.tmps R a'.defers .returning w' :=
  leaves_marks (M := cx.M) (s := s') (fun D hD => hM _ _ _ D hΦ' hD) (fun w2 q1 q2 q3 q4 => fin x s' w0 T' e' a'.tmps w2 hE hΦ' q1 q2 q3 (fun b hb => (re.foe b hb).2) q4) a'.defers w' re.xt.defers re.env re.below re.mem re.slots
 cases x with
 | normal => exact hfin
 | ret => exact hfin
 | exit i => exact (hx i rfl).elim
theorem soundAt_cutE {P : Program} {L : List LSpec} {f : FuncId} {fn : Func} {c : Code} {avs : List AV} {res : AV} {t : Tree RV} {ev : Code → Nat → St → CT} (hf : P.funcs[f]? = some fn) (hb : fn.body = some c) (hev : ∀ cx, EvOk P cx L ev)
  (hL : ∀ j cj, loopAt c j = some cj → ∀ sp, L[j]? = some sp → LSoundN P cj sp) (ht : finT P fn.results.toList (ev c 0 (startS fn avs)) = t) (h : t.sat (fun r => fitP r res)) : SoundAt P f avs res := by
 subst ht
 intro e w args hro hidf hr
 refine calls_ofE hf hb (cx := cxOf w (fun _ => False)) (gh := none) (T := fun _ => False) (e := e) (hev _) (fun _ _ h => h) rfl rfl (by rintro g T w0 D ⟨rfl, _⟩ h; exact h) ⟨rfl, rfl⟩ (fun b h => h.elim) hro hidf hr (fun j cj hj sp hsp => hL j cj hj sp hsp _ (cxOf_fun _ _)) (endOk_fin h) ?_ ?_
 ·rintro x s w0 T' e' tmps w' ⟨hx, r, hres, hfit⟩ ⟨rfl, _⟩ q1 q2 q3 _ q4
  obtain ⟨u, hu, hrep⟩ := resA_soundM (P := P) q3 q4 hres
  exact ⟨u, hu, u, rfl, q2, hfit.rep q1 rfl q3 hrep⟩
 ·rintro x s ⟨hx, _⟩ i rfl
  exact hx
end Go.Sx
namespace Go.Sx
open Go Go.RowKit
end Go.Sx
namespace Go.Sx
open Go Go.RowKit
def inlH (P : Program) (G : List (Nat × Spec)) (X : Ext) (L : List LSpec) (fn : Func) (c : Code) : HSpec := fun avs m nx sv =>
 some ((codeX P G X L c 0 { startS fn avs with m := m, nx := nx, sv := sv }).bind fun p => match p.1 with
  | .exit _ => .fail
  | _ => match resA P p.2 fn.results.toList with
   | some r => .leaf (r, p.2.m, p.2.nx, p.2.sv)
   | none => .fail)
theorem inl_sound {P : Program} {G : List (Nat × Spec)} {X : Ext} {L : List LSpec} {f : FuncId} {fn : Func} {c : Code} (hG : SoundG P G) (hX : ∀ cx, SoundX P X cx) (hmix : P.follows .mixedOrders = true) (hent : Enters P f) (hf : P.funcs[f]? = some fn) (hb : fn.body = some c)
  (hL : ∀ j cj, loopAt c j = some cj → ∀ sp, L[j]? = some sp → LSound P cj sp) : SoundHSpec P f (inlH P G X L fn c) := by
 refine ⟨hent, ?_⟩
 intro avs m nx sv t ht Q hQ cx w0 T e ds args w hE hB hm hl hfoe hxt hr
 unfold inlH at ht
 cases ht
 let K' : Nat → Obj → Prop := fun b o => cx.K b o ∨ (∃ d ∈ ds, d = { target := .collected b, args := #[] } ∧ o = .deferred (some []))
 let cx' : Cx := { M := fun _ => False, Φ := fun g T' w' => g = none ∧ T' = T ∧ w' = w0, K := K', saved := cx.saved, sz := cx.sz }
 have hsat : (codeX P G X L c 0 { startS fn avs with m := m, nx := nx, sv := sv }).sat (fun p => (∀ i, p.1 ≠ .exit i) ∧ p.2.gh = p.2.gh ∧ ∃ r, resA P p.2 fn.results.toList = some r ∧ Q (r, p.2.m, p.2.nx, p.2.sv)) := by
  refine Tree.sat_mono ?_ (Tree.sat_bind hQ)
  rintro ⟨x, s⟩ hs
  cases x with
  | exit i => exact hs.elim
  | normal =>
   simp only at hs
   split at hs
   ·rename_i r hr; exact ⟨fun i h => (by cases h), rfl, r, hr, hs⟩
   ·exact hs.elim
  | ret =>
   simp only at hs
   split at hs
   ·rename_i r hr; exact ⟨fun i h => (by cases h), rfl, r, hr, hs⟩
   ·exact hs.elim
 have hrel : Rel cx' { startS fn avs with m := m, nx := nx, sv := sv } { tmps := args.toArray ++ Array.replicate (fn.ntmps - args.toArray.size) undef, defers := [] } w := by
  refine ⟨w0, T, e, ⟨rfl, rfl, rfl⟩, hE, hB, hm, hl, hfoe, ⟨⟨(fun d hd => by cases hd), List.nodup_nil⟩, ?_, hxt.saved, hxt.size⟩, ?_⟩
  ·rintro b o (hk | ⟨d, hd, h1, rfl⟩)
   ·exact hxt.kept b o hk
   ·obtain ⟨D, g1, g2, g3, g4, g5⟩ := hxt.defers.1 d hd
    rw [h1] at g1
    injection g1 with g1 _
    injection g1 with g1
    subst g1
    exact ⟨g2, g3, g4⟩
  ·have htop : RepL e w (List.replicate (fn.ntmps - avs.length) .top) (List.replicate (fn.ntmps - avs.length) undef) := by
    refine ⟨by simp, fun i a v ha _ => ?_⟩
    have := List.mem_of_getElem? ha
    rw [List.mem_replicate] at this
    rw [this.2]; exact .top v
   have := hr.append htop
   simpa [startS, hr.1] using this
 refine callsIn_wide (n := 0).1 (callsIn_of_wp_marks (F := fr none) hf hb trivial (wpIn_mono (codeX_sound hG (hX cx') hmix c 0 _ _ _ w (fun j cj hj sp hsp => hL j cj hj sp (by simpa using hsp) none cx') hsat hrel) ?_) rfl)
 rintro ex a' w' ⟨x, s', rfl, ⟨hx, _, r, hres, hq⟩, w0', T', e', ⟨_, rfl, rfl⟩, re⟩
 have hnod : a'.defers = [] := by
  cases hd : a'.defers with
  | nil => rfl
  | cons d l =>
   obtain ⟨D, _, _, _, _, g5⟩ := re.xt.defers.1 d (by rw [hd]; exact List.mem_cons_self)
   exact g5.elim
 obtain ⟨u, hu, hrep⟩ := resA_soundM (P := P) re.mem re.slots hres
 have hfin : LeavesInM (fr none) 0 P fn a'.tmps (fun en w' => ∃ v r m' nx' sv' e', en = .returned v ∧ Q (r, m', nx', sv') ∧ EnvOk e' w0'.heap.size w' ∧ Below w0'.heap.size w0' w' ∧ MemOk e' m' w' ∧ (∀ k, e'.live k → k < nx') ∧
   (∀ b, T' b → b < w0'.heap.size ∧ ¬ e'.ro b) ∧ Xt cx e' sv' ds w' ∧ Rep e' w' r v) a'.defers .returning w' := by
  rw [hnod]
  refine ⟨u, hu, u, r, s'.m, s'.nx, s'.sv, e', rfl, hq, re.env, re.below, re.mem, re.live, re.foe, ⟨⟨fun d hd => ?_, hxt.defers.2⟩, fun b o hk => re.xt.kept b o (.inl hk), re.xt.saved, re.xt.size⟩, hrep⟩
  obtain ⟨D, g1, g2, g3, g4, g5⟩ := hxt.defers.1 d hd
  obtain ⟨k1, k2, k3⟩ := re.xt.kept D (.deferred (some [])) (.inr ⟨d, hd, g1, rfl⟩)
  exact ⟨D, g1, k1, k2, k3, g5⟩
 cases x with
 | normal => exact hfin
 | ret => exact hfin
 | exit i => exact (hx i rfl).elim
def depSp (t : Nat) (F : Nat → LSpec) : LSpec := fun s => match s.σ.getD t .top with
 | .x (.int _ n) => F n.toNat s
 | _ => none
theorem depSp_sound {P : Program} {c : Code} {t : Nat} {F : Nat → LSpec} (h : ∀ k, LSound P c (F k)) : LSound P c (depSp t F) := by
 intro ro cx n s tr ht Q hQ a w r
 unfold depSp at ht
 split at ht
 ·exact h _ ro cx n s tr ht Q hQ a w r
 ·cases ht
def stSp (F : St → Option LSpec) : LSpec := fun s => match F s with
 | some l => l s
 | none => none
theorem stSp_sound {P : Program} {c : Code} {F : St → Option LSpec} (h : ∀ s l, F s = some l → LSound P c l) : LSound P c (stSp F) := by
 intro ro cx n s tr ht Q hQ a w r
 unfold stSp at ht
 split at ht
 ·rename_i l hl
  exact h _ _ hl ro cx n s tr ht Q hQ a w r
 ·cases ht
theorem loop_roundsX {P : Program} {G : List (Nat × Spec)} {E : Ext} {L : List LSpec} (N : List (Pl × Nat × TypeId × Nat)) (hG : SoundG P G) (hX : ∀ cx, SoundX P E cx) (hmix : P.follows .mixedOrders = true) {body : Code} (hL : ∀ j cj, loopAt body j = some cj → ∀ sp, L[j]? = some sp → LSound P cj sp)
  {X : Type} (inv : X → St) (I : X → Prop) (μ : X → Nat) (out : X → AEx → Option St) {t : CT} {x0 : X} (h0 : I x0)
  (hok : ∀ x, okB (inv x) = true) (hokO : ∀ x y E, out x y = some E → okB E = true)
  (round : ∀ (Q : AEx × St → Prop), t.sat Q → ∀ x, I x → ∃ x', (roundX P G E L N body (inv x) (inv x') (out x)).sat (fun y => match y with
   | .normal => I x' ∧ μ x' < μ x
   | y => ∀ E, out x y = some E → Q (y, E))) : LSound P (.loop body) (normSp N (sumL (inv x0) t)) :=
 fun ro cx => loop_roundsC N hG (hX cx) hmix (fun j cj hj sp hsp => hL j cj hj sp hsp ro cx) inv I μ out h0 hok hokO round
theorem SoundHL.inl {P : Program} {f : Nat} {h : HSpec} {H : List (Nat × HSpec)} (h1 : SoundHSpec P f h) (k : SoundHL P H) : SoundHL P ((f, h) :: H) := SoundHL.cons h1 k
end Go.Sx
namespace Go.Sx
open Go Go.RowKit
theorem Step.app {e : Env} {id : Nat} (u : Value) (w : World) (hid : ¬ e.live id) : Step e (e.app id u) w w :=
 ⟨fun b _ h => ⟨h, rfl⟩, fun k hk => ⟨.inr hk, rfl, by
  have : k ≠ id := fun h => hid (h ▸ hk)
  simp [Env.app, this]⟩, Nat.le_refl _⟩
def hOfF (sp : FSpec) : HSpec := fun avs m nx sv => match sp (avs.map (viewA m 40)) with
 | some (ns, T, sz, n, g) => some (.needT ns (.leaf (.row nx, (nx, .row T sz n g) :: m, nx + 1, sv)))
 | none => none
theorem soundH_ofF {P : Program} {f : FuncId} {sp : FSpec} (h : Enters P f ∧ ∀ avs ns T sz n g, sp avs = some (ns, T, sz, n, g) → (∀ q ∈ ns, q) → SoundFAt P f avs T sz n g) : SoundHSpec P f (hOfF sp) := by
 refine ⟨h.1, ?_⟩
 intro avs m nx sv t ht Q hQ c w0 T e ds args w hE hB hm hl hfoe hxt hr
 unfold hOfF at ht
 split at ht
 ·rename_i ns T' sz n g hsp
  cases ht
  obtain ⟨hns, hq⟩ := Tree.sat_needT hQ
  have hview := RepL.map (viewA m 40) (viewA_rep hE hm 40) hr
  have hcall := h.2 _ _ _ _ _ _ hsp (allP_mem hns) e.view w _ (by
   rintro b (hb | ⟨k, hb⟩)
   ·exact (hE.apart b hb).2
   ·exact (hE.owned b k hb).2) (idf_map (viewA_idf hm 40) hr) hview
  refine hcall.mono ?_
  rintro en w' ⟨v, xs, rfl, hb, k1, k2, k3, k4⟩
  obtain ⟨e', q1, q2, q3, q4, q5, q6, q7, q8⟩ := came_fresh hE hB.size hm (fun hlv => Nat.lt_irrefl _ (hl _ hlv)) hb k1 k2 k3 k4
  refine ⟨v, _, _, _, _, e', rfl, hq, q3, hB.trans (hb.mono hB.size), q6, fun k hk => ?_, fun b hT => ⟨(hfoe b hT).1, fun hro => ?_⟩, hxt.step q2, q5⟩
  ·rcases q7 k hk with hk | rfl
   ·exact Nat.lt_succ_of_lt (hl k hk)
   ·exact Nat.lt_succ_self _
  ·rcases q8 b hro with hro | hro
   ·exact (hfoe b hT).2 hro
   ·have := (hfoe b hT).1; have := hB.size; omega
 ·cases ht
end Go.Sx
namespace Go.Sx
open Go Go.RowKit
theorem Tree.bind_sat {α β : Type} {f : α → Tree β} {Q : β → Prop} : ∀ {t : Tree α}, t.sat (fun a => (f a).sat Q) → (t.bind f).sat Q
 | .fail, h => h.elim
 | .leaf a, h => h
 | .need ps t, h => ⟨h.1, Tree.bind_sat h.2⟩
 | .branch b t t', h => ⟨fun hb => Tree.bind_sat (h.1 hb), fun hb => Tree.bind_sat (h.2 hb)⟩
 | .may p t t', h => ⟨fun hb => Tree.bind_sat (h.1 hb), Tree.bind_sat h.2⟩
def endTF (N : List (Pl × Nat × TypeId × Nat)) (ET EF : St) (x : AV × Mem × Nat × List (List AV)) : Tree Bool := match x.1 with
 | .lit true => .needT (subP (normL N { σ := [], m := x.2.1, nx := x.2.2.1, sv := x.2.2.2 }) ET) (.leaf true)
 | .lit false => .needT (subP (normL N { σ := [], m := x.2.1, nx := x.2.2.1, sv := x.2.2.2 }) EF) (.leaf false)
 | _ => .fail
def inlT (P : Program) (G : List (Nat × Spec)) (X : Ext) (L : List LSpec) (fn : Func) (c : Code) (avs : List AV) (m : Mem) (nx : Nat) (sv : List (List AV)) (N : List (Pl × Nat × TypeId × Nat)) (ET EF : St) : Tree Bool :=
 (codeX P G X L c 0 { startS fn avs with m := m, nx := nx, sv := sv }).bind fun p => match p.1 with
  | .exit _ => .fail
  | _ => match resA P p.2 fn.results.toList with
   | some r => endTF N ET EF (r, p.2.m, p.2.nx, p.2.sv)
   | none => .fail
def EndsTF (P : Program) (f : FuncId) (avs : List AV) (m : Mem) (nx : Nat) (sv : List (List AV)) (ET EF : St) (b : Bool) : Prop :=
 ∀ (c : Cx) (w0 : World) (T : Nat → Prop) (e : Env) (ds : List Deferred) (args : List Value) (w : World),
 EnvOk e w0.heap.size w → Below w0.heap.size w0 w → MemOk e m w → (∀ k, e.live k → k < nx) → (∀ b, T b → b < w0.heap.size ∧ ¬ e.ro b) → Xt c e sv ds w → RepL e w avs args →
  Calls P f args.toArray w fun en w' => en = .returned (.bool b) ∧ ∃ e', EnvOk e' w0.heap.size w' ∧ Below w0.heap.size w0 w' ∧ MemOk e' (cond b ET EF).m w' ∧ (∀ k, e'.live k → k < (cond b ET EF).nx) ∧
   (∀ b, T b → b < w0.heap.size ∧ ¬ e'.ro b) ∧ Xt c e' (cond b ET EF).sv ds w'
theorem h_ends {P : Program} {f : FuncId} {h : HSpec} (hs : SoundHSpec P f h) {avs : List AV} {m : Mem} {nx : Nat} {sv : List (List AV)} {t : Tree (AV × Mem × Nat × List (List AV))} {N : List (Pl × Nat × TypeId × Nat)} {ET EF : St} {b : Bool} (ht : h avs m nx sv = some t)
  (hsat : t.sat fun x => (endTF N ET EF x).sat fun r => r = b) (hT : okB ET = true) (hF : okB EF = true) (gT : ET.gh = none) (gF : EF.gh = none) : EndsTF P f avs m nx sv ET EF b := by
 intro c w0 T e ds args w hE hB hm hl hfoe hxt hr
 refine (hs.2 _ _ _ _ _ ht _ hsat c w0 T e ds args w hE hB hm hl hfoe hxt hr).mono ?_
 rintro en w' ⟨v, r, m', nx', sv', e', rfl, hq, g1, g2, g3, g4, g5, g6, g7⟩
 let c' : Cx := { M := c.M, Φ := fun g T' w' => g = none ∧ T' = T ∧ w' = w0, K := c.K, saved := c.saved, sz := c.sz }
 have hrel : Rel c' { σ := [], m := m', nx := nx', sv := sv' } { tmps := #[], defers := ds } w' :=
  ⟨w0, T, e', ⟨rfl, rfl, rfl⟩, g1, g2, g3, g4, g5, ⟨g6.defers, g6.kept, g6.saved, g6.size⟩, RepL.nil _ _⟩
 have hn := normL_rel (l := N) hrel
 have fin : ∀ E : St, Rel c' E { tmps := #[], defers := ds } w' → ∃ e', EnvOk e' w0.heap.size w' ∧ Below w0.heap.size w0 w' ∧ MemOk e' E.m w' ∧ (∀ k, e'.live k → k < E.nx) ∧ (∀ b, T b → b < w0.heap.size ∧ ¬ e'.ro b) ∧ Xt c e' E.sv ds w' := by
  rintro E ⟨w0', T', e2, ⟨_, rfl, rfl⟩, r⟩
  exact ⟨e2, r.env, r.below, r.mem, r.live, r.foe, ⟨r.xt.defers, r.xt.kept, r.xt.saved, r.xt.size⟩⟩
 unfold endTF at hq
 split at hq
 ·rename_i h1
  simp only at h1
  subst h1
  obtain ⟨q1, q2⟩ := Tree.sat_needT hq
  have q2 : true = b := q2
  subst q2
  refine ⟨by rw [g7.lit_inv], fin ET (sub_rel (allP_mem q1) hT hn)⟩
 ·rename_i h1
  simp only at h1
  subst h1
  obtain ⟨q1, q2⟩ := Tree.sat_needT hq
  have q2 : false = b := q2
  subst q2
  refine ⟨by rw [g7.lit_inv], fin EF (sub_rel (allP_mem q1) hF hn)⟩
 ·exact hq.elim
theorem inl_ends {P : Program} {G : List (Nat × Spec)} {X : Ext} {L : List LSpec} {f : FuncId} {fn : Func} {c : Code} (hG : SoundG P G) (hX : ∀ cx, SoundX P X cx) (hmix : P.follows .mixedOrders = true) (hent : Enters P f) (hf : P.funcs[f]? = some fn) (hb : fn.body = some c)
  (hL : ∀ j cj, loopAt c j = some cj → ∀ sp, L[j]? = some sp → LSound P cj sp) {avs : List AV} {m : Mem} {nx : Nat} {sv : List (List AV)} {N : List (Pl × Nat × TypeId × Nat)} {ET EF : St} {b : Bool} {t : Tree Bool}
  (hT : okB ET = true) (hF : okB EF = true) (gT : ET.gh = none) (gF : EF.gh = none) (ht : inlT P G X L fn c avs m nx sv N ET EF = t) (hsat : t.sat fun r => r = b) : EndsTF P f avs m nx sv ET EF b := by
 subst ht
 refine h_ends (inl_sound hG hX hmix hent hf hb hL) (h := inlH P G X L fn c) (N := N) rfl (Tree.bind_sat (Tree.sat_mono ?_ (Tree.sat_bind hsat))) hT hF gT gF
 rintro ⟨x, s⟩ h
 cases x with
 | exit i => exact h.elim
 | normal =>
  simp only at h ⊢
  split at h
  ·rename_i r hr
   first | exact h | (rw [hr]; exact h) | (simp only [hr]; exact h)
  ·exact h.elim
 | ret =>
  simp only at h ⊢
  split at h
  ·rename_i r hr
   first | exact h | (rw [hr]; exact h) | (simp only [hr]; exact h)
  ·exact h.elim
end Go.Sx
namespace Go.Sx
open Go Go.RowKit
def tailC : Nat → Code → Code
 | 0, c => c
 | k + 1, .seq _ b => tailC k b
 | _ + 1, c => c
def tailO : Nat → Code → Nat → Nat
 | 0, _, off => off
 | k + 1, .seq a b, off => tailO k b (off + nloops a)
 | _ + 1, _, off => off
def SufOk (P : Program) (cx : Cx) (L : List LSpec) (c : Code) (off : Nat) (s2 : St) (t2 : CT) : Prop :=
 ∀ (ro : Option Nat) (n : Nat) (Q : AEx × St → Prop) (a : Act) (w : World), (∀ j cj, loopAt c j = some cj → ∀ sp, L[off + j]? = some sp → LSoundC P ro cx cj sp) → t2.sat Q → Rel cx s2 a w → c.wpIn (fr ro) n P (postOf cx Q) a w
def EvAt (P : Program) (cx : Cx) (L : List LSpec) (c : Code) (off : Nat) (ev : St → CT) : Prop :=
 ∀ (ro : Option Nat) (n : Nat) (s : St) (Q : AEx × St → Prop) (a : Act) (w : World), (∀ j cj, loopAt c j = some cj → ∀ sp, L[off + j]? = some sp → LSoundC P ro cx cj sp) → (ev s).sat Q → Rel cx s a w → c.wpIn (fr ro) n P (postOf cx Q) a w
def codeJ (P : Program) (G : List (Nat × Spec)) (X : Ext) (L : List LSpec) (N : List (Pl × Nat × TypeId × Nat)) (s2 : St) (t2 : CT) : Nat → Code → Nat → St → CT
 | 0, _, _, s => .needT (subP (normL N s) s2) t2
 | k + 1, c, off, s => match c with
  | .seq a b => (codeX P G X L a off s).bind fun p => match p.1 with
   | .normal => codeJ P G X L N s2 t2 k b (off + nloops a) p.2
   | x => .leaf (x, p.2)
  | _ => .fail
theorem codeX_at {P : Program} {G : List (Nat × Spec)} {X : Ext} {cx : Cx} {L : List LSpec} (hG : SoundG P G) (hX : SoundX P X cx) (hmix : P.follows .mixedOrders = true) (c : Code) (off : Nat) : EvAt P cx L c off (codeX P G X L c off) :=
 fun ro n s Q a w hL h r => codeX_sound hG hX hmix c off s Q a w hL h r
theorem codeJ_at {P : Program} {G : List (Nat × Spec)} {X : Ext} {cx : Cx} {L : List LSpec} {N : List (Pl × Nat × TypeId × Nat)} {s2 : St} {t2 : CT} (hG : SoundG P G) (hX : SoundX P X cx) (hmix : P.follows .mixedOrders = true) (hok : okB s2 = true) : ∀ (k : Nat) (c : Code) (off : Nat), SufOk P cx L (tailC k c) (tailO k c off) s2 t2 → EvAt P cx L c off (codeJ P G X L N s2 t2 k c off)
 | 0, c, off, hs => fun ro n s Q a w hL h r => by
  have h2 := Tree.sat_needT h
  exact hs ro n Q a w hL h2.2 (sub_rel (allP_mem h2.1) hok (normL_rel r))
 | k + 1, c, off, hs => fun ro n s Q a w hL h r => by
  unfold codeJ at h
  split at h
  ·rename_i x y
   refine wpIn_seq ?_
   have hx := codeX_sound hG hX hmix (ro := ro) (n := n) x off s _ a w (fun j cj hj sp hsp => hL j cj (by
    unfold loopAt
    have hlt : j < nloops x := by
     rcases Nat.lt_or_ge j (nloops x) with h' | h'
     ·exact h'
     ·exfalso
      rw [loopAt_none x j h'] at hj; cases hj
    have : Nat.blt j (nloops x) = true := by rw [Nat.blt_eq]; exact hlt
    rw [this]; exact hj) sp hsp) (Tree.sat_bind h) r
   refine wpIn_mono hx ?_
   rintro e a' w' ⟨ex, s', rfl, hq, hr⟩
   cases ex with
   | normal =>
    simp only [AEx.ex, Exit.then]
    refine codeJ_at hG hX hmix hok k y (off + nloops x) hs ro n s' Q a' w' (fun j cj hj sp hsp => hL (nloops x + j) cj ?_ sp (by rw [← Nat.add_assoc]; exact hsp)) hq hr
    unfold loopAt
    have : Nat.blt (nloops x + j) (nloops x) = false := by rw [Bool.eq_false_iff, ne_eq, Nat.blt_eq]; omega
    rw [this]
    simpa using hj
   | exit i => exact ⟨.exit i, s', rfl, hq, hr⟩
   | ret => exact ⟨.ret, s', rfl, hq, hr⟩
  ·exact h.elim
theorem suf_of {P : Program} {cx : Cx} {L : List LSpec} {c : Code} {off : Nat} {s2 : St} {t2 : CT} {ev : St → CT} {out : AEx → Option St} (hev : EvAt P cx L c off ev) (hokO : ∀ y E, out y = some E → okB E = true)
  (h : ∀ Q : AEx × St → Prop, t2.sat Q → ((ev s2).bind (endR [] s2 out)).sat (fun y => match y with
   | .normal => False
   | y => ∀ E, out y = some E → Q (y, E))) : SufOk P cx L c off s2 t2 := by
 intro ro n Q a w hL hQ r
 refine wpIn_mono (hev ro n s2 _ a w hL (endR_sat (h Q hQ)) r) ?_
 rintro ex a₁ w₁ ⟨y, s', rfl, hq, hr'⟩
 cases y with
 | normal =>
  obtain ⟨h1, h3⟩ := hq
  exact h1.elim
 | exit id =>
  obtain ⟨E, hE, h1, h3⟩ := hq
  exact ⟨.exit id, E, rfl, h1 E hE, sub_rel (allP_mem h3) (hokO _ E hE) (normL_rel hr')⟩
 | ret =>
  obtain ⟨E, hE, h1, h3⟩ := hq
  exact ⟨.ret, E, rfl, h1 E hE, sub_rel (allP_mem h3) (hokO _ E hE) (normL_rel hr')⟩
theorem soundAt_cutJ {P : Program} {L : List LSpec} {f : FuncId} {fn : Func} {c : Code} {avs : List AV} {res : AV} {t : Tree RV} {ev : St → CT} (hf : P.funcs[f]? = some fn) (hb : fn.body = some c) (hev : ∀ cx, EvAt P cx L c 0 ev)
  (hL : ∀ j cj, loopAt c j = some cj → ∀ sp, L[j]? = some sp → LSoundN P cj sp) (ht : finT P fn.results.toList (ev (startS fn avs)) = t) (h : t.sat (fun r => fitP r res)) : SoundAt P f avs res := by
 classical
 let ev' : Code → Nat → St → CT := fun c' off' s => if c' = c ∧ off' = 0 then ev s else .fail
 have e : ev' c 0 (startS fn avs) = ev (startS fn avs) := if_pos ⟨rfl, rfl⟩
 refine soundAt_cutE (L := L) (ev := ev') hf hb (fun cx ro n c' off' s Q a w hL h r => ?_) hL (t := t) (by rw [e]; exact ht) h
 by_cases hc : c' = c ∧ off' = 0
 ·obtain ⟨rfl, rfl⟩ := hc
  have e2 : ev' c' 0 s = ev s := if_pos ⟨rfl, rfl⟩
  rw [e2] at h
  exact hev cx ro n s Q a w hL h r
 ·have e2 : ev' c' off' s = .fail := if_neg hc
  rw [e2] at h
  exact h.elim
end Go.Sx
