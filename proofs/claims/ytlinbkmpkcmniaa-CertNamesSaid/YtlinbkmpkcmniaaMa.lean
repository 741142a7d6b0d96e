/- Texts of this claim, put together: SxA, SxB -/
import Derived.WalkKit
set_option linter.unusedSimpArgs false
set_option linter.unusedVariables false
namespace Go.Sx
open Go Go.RowKit
inductive AV where
 | top
 | lit (b : Bool)
 | x (v : Value)
 | agg (l : List AV)
 | tup (l : List AV)
 | fn (f : Fn) (first caps : List AV)
 | ptr (id off : Nat)
 | row (id : Nat)
 | elt (id sz i j : Nat)
 | ro (l : List AV)
 | lst (sz n : Nat) (f : Nat → List AV)
 | mp (id : Nat)
 | roI (pre : List AV) (n : Nat) (f : Nat → Int) (off : Nat)
def intsL (n : Nat) (f : Nat → Int) : List AV := (List.range n).map fun k => .x (.int .i64 (f k))
inductive Idf : AV → Prop
 | top : Idf .top
 | lit (b : Bool) : Idf (.lit b)
 | x (v : Value) : Idf (.x v)
 | agg (l : List AV) : (∀ a ∈ l, Idf a) → Idf (.agg l)
 | tup (l : List AV) : (∀ a ∈ l, Idf a) → Idf (.tup l)
 | fn (f : Fn) (l l' : List AV) : (∀ a ∈ l, Idf a) → (∀ a ∈ l', Idf a) → Idf (.fn f l l')
 | ro (l : List AV) : (∀ a ∈ l, Idf a) → Idf (.ro l)
 | lst (sz n : Nat) (f : Nat → List AV) : (∀ i, i < n → ∀ a ∈ f i, Idf a) → Idf (.lst sz n f)
 | roI (pre : List AV) (n : Nat) (f : Nat → Int) (off : Nat) : Idf (.ro (pre ++ intsL n f)) → Idf (.roI pre n f off)
structure Env where
 ro : Nat → Prop
 own : Nat → Option Nat
 live : Nat → Prop
 blk : Nat → Nat
 val : Nat → Value
inductive Rep (e : Env) (w : World) : AV → Value → Prop
 | top (v : Value) : Rep e w .top v
 | lit (b : Bool) : Rep e w (.lit b) (.bool b)
 | x (v : Value) : Rep e w (.x v) v
 | agg (l : List AV) (vs : List Value) : l.length = vs.length → (∀ (i : Nat) (a : AV) (v : Value), l[i]? = some a → vs[i]? = some v → Rep e w a v) → Rep e w (.agg l) (.agg vs.toArray)
 | tup (l : List AV) (vs : List Value) : l.length = vs.length → (∀ (i : Nat) (a : AV) (v : Value), l[i]? = some a → vs[i]? = some v → Rep e w a v) → Rep e w (.tup l) (.tuple vs.toArray)
 | fn (f : Fn) (l l' : List AV) (vs vs' : List Value) : l.length = vs.length → (∀ (i : Nat) (a : AV) (v : Value), l[i]? = some a → vs[i]? = some v → Rep e w a v) →
   l'.length = vs'.length → (∀ (i : Nat) (a : AV) (v : Value), l'[i]? = some a → vs'[i]? = some v → Rep e w a v) → Rep e w (.fn f l l') (.func f vs.toArray vs'.toArray)
 | ptr (id off : Nat) : e.live id → Rep e w (.ptr id off) (.pointer (some ⟨e.blk id, off, none⟩))
 | row (id : Nat) (a : Option Addr) (n c : Nat) : e.live id → e.val id = .slice a n c → Rep e w (.row id) (.slice a n c)
 | elt (id sz i j b n cap : Nat) : e.live id → e.val id = .slice (some ⟨b, 0, none⟩) n cap → Rep e w (.elt id sz i j) (.pointer (some ⟨b, i * sz + j, none⟩))
 | ro (l : List AV) (vs : List Value) (b o : Nat) : e.ro b → b < w.heap.size → (∀ a ∈ l, Idf a) → l.length = vs.length → (∀ (j : Nat) (v : Value), vs[j]? = some v → w.cell? ⟨b, o + j, none⟩ = some v) →
   (∀ (i : Nat) (a : AV) (v : Value), l[i]? = some a → vs[i]? = some v → Rep e w a v) → Rep e w (.ro l) (.pointer (some ⟨b, o, none⟩))
 | lstNil (sz : Nat) (f : Nat → List AV) : Rep e w (.lst sz 0 f) (.slice none 0 0)
 | lst (sz n : Nat) (f : Nat → List AV) (b o cap : Nat) (g : Nat → Nat → Value) : (0 < n → e.ro b) → (0 < n → b < w.heap.size) → (∀ i, i < n → ∀ a ∈ f i, Idf a) → n ≤ cap → cap ≤ maxLen →
   (∀ i j : Nat, i < n → j < sz → w.cell? ⟨b, o + (i * sz + j), none⟩ = some (g i j)) → (∀ i : Nat, i < n → (f i).length = sz) →
   (∀ (i j : Nat) (a : AV), i < n → (f i)[j]? = some a → Rep e w a (g i j)) → (ad : Addr) → (0 < n → ad = ⟨b, o, none⟩) → Rep e w (.lst sz n f) (.slice (some ad) n cap)
 | mp (id : Nat) : e.live id → Rep e w (.mp id) (.map (some (e.blk id)))
 | roI (pre : List AV) (n : Nat) (f : Nat → Int) (off b o : Nat) : Rep e w (.ro (pre ++ intsL n f)) (.pointer (some ⟨b, o, none⟩)) → Rep e w (.roI pre n f off) (.pointer (some ⟨b, o + off, none⟩))
def RepL (e : Env) (w : World) (l : List AV) (vs : List Value) : Prop := l.length = vs.length ∧ ∀ (i : Nat) (a : AV) (v : Value), l[i]? = some a → vs[i]? = some v → Rep e w a v
theorem RepL.nil (e : Env) (w : World) : RepL e w [] [] := ⟨rfl, fun i a v h => by simp at h⟩
theorem RepL.cons {e : Env} {w : World} {a : AV} {v : Value} {l : List AV} {vs : List Value} (h : Rep e w a v) (t : RepL e w l vs) : RepL e w (a :: l) (v :: vs) := by
 refine ⟨by simp [t.1], fun i b u hb hu => ?_⟩
 cases i with
 | zero => simp at hb hu; subst hb; subst hu; exact h
 | succ i => simp at hb hu; exact t.2 i b u hb hu
theorem RepL.cons_inv {e : Env} {w : World} {a : AV} {l : List AV} {vs : List Value} (h : RepL e w (a :: l) vs) : ∃ v vs', vs = v :: vs' ∧ Rep e w a v ∧ RepL e w l vs' := by
 cases vs with
 | nil => have := h.1; simp at this
 | cons v vs' =>
  refine ⟨v, vs', rfl, h.2 0 a v (by simp) (by simp), ⟨by have := h.1; simpa using this, fun i b u hb hu => h.2 (i + 1) b u (by simpa using hb) (by simpa using hu)⟩⟩
theorem RepL.nil_inv {e : Env} {w : World} {vs : List Value} (h : RepL e w [] vs) : vs = [] := by
 exact List.eq_nil_of_length_eq_zero h.1.symm
theorem RepL.append {e : Env} {w : World} {l l' : List AV} {vs vs' : List Value} (h : RepL e w l vs) (h' : RepL e w l' vs') : RepL e w (l ++ l') (vs ++ vs') := by
 refine ⟨by simp [h.1, h'.1], fun i a v ha hv => ?_⟩
 rw [List.getElem?_append] at ha hv
 rw [← h.1] at hv
 split at ha
 ·rename_i hi; rw [if_pos hi] at hv; exact h.2 _ _ _ ha hv
 ·rename_i hi; rw [if_neg hi] at hv; exact h'.2 _ _ _ ha hv
theorem RepL.get {e : Env} {w : World} {l : List AV} {vs : List Value} (h : RepL e w l vs) {i : Nat} {a : AV} (ha : l[i]? = some a) : ∃ v, vs[i]? = some v ∧ Rep e w a v := by
 have hi : i < vs.length := by rw [← h.1]; exact (List.getElem?_eq_some_iff.1 ha).1
 exact ⟨vs[i], List.getElem?_eq_getElem hi, h.2 i a _ ha (List.getElem?_eq_getElem hi)⟩
theorem RepL.set {e : Env} {w : World} {l : List AV} {vs : List Value} (h : RepL e w l vs) {a : AV} {v : Value} (r : Rep e w a v) (k : Nat) : RepL e w (l.set k a) (vs.set k v) := by
 refine ⟨by simp [h.1], fun i b u hb hu => ?_⟩
 rw [List.getElem?_set] at hb hu
 by_cases hk : k = i
 ·subst hk
  simp only [if_true] at hb hu
  split at hb
  ·rename_i h1; rw [if_pos (by rw [← h.1]; exact h1)] at hu; cases hb; cases hu; exact r
  ·cases hb
 ·rw [if_neg hk] at hb hu; exact h.2 _ _ _ hb hu
theorem RepL.take {e : Env} {w : World} {l : List AV} {vs : List Value} (h : RepL e w l vs) (k : Nat) : RepL e w (l.take k) (vs.take k) := by
 refine ⟨by simp [h.1], fun i b u hb hu => ?_⟩
 rw [List.getElem?_take] at hb hu
 split at hb
 ·rename_i hi; rw [if_pos hi] at hu; exact h.2 _ _ _ hb hu
 ·cases hb
theorem RepL.drop {e : Env} {w : World} {l : List AV} {vs : List Value} (h : RepL e w l vs) (k : Nat) : RepL e w (l.drop k) (vs.drop k) := by
 refine ⟨by simp [h.1], fun i b u hb hu => ?_⟩
 rw [List.getElem?_drop] at hb hu
 exact h.2 _ _ _ hb hu
theorem Rep.aggL {e : Env} {w : World} {l : List AV} {vs : List Value} (h : RepL e w l vs) : Rep e w (.agg l) (.agg vs.toArray) := .agg l vs h.1 h.2
theorem Rep.tupL {e : Env} {w : World} {l : List AV} {vs : List Value} (h : RepL e w l vs) : Rep e w (.tup l) (.tuple vs.toArray) := .tup l vs h.1 h.2
theorem Rep.agg_inv {e : Env} {w : World} {l : List AV} {v : Value} (h : Rep e w (.agg l) v) : ∃ vs : List Value, v = .agg vs.toArray ∧ RepL e w l vs := by
 cases h with | agg l vs h1 h2 => exact ⟨vs, rfl, h1, h2⟩
theorem Rep.tup_inv {e : Env} {w : World} {l : List AV} {v : Value} (h : Rep e w (.tup l) v) : ∃ vs : List Value, v = .tuple vs.toArray ∧ RepL e w l vs := by
 cases h with | tup l vs h1 h2 => exact ⟨vs, rfl, h1, h2⟩
theorem Rep.fn_inv {e : Env} {w : World} {f : Fn} {l l' : List AV} {v : Value} (h : Rep e w (.fn f l l') v) : ∃ vs vs' : List Value, v = .func f vs.toArray vs'.toArray ∧ RepL e w l vs ∧ RepL e w l' vs' := by
 cases h with | fn f l l' vs vs' h1 h2 h3 h4 => exact ⟨vs, vs', rfl, ⟨h1, h2⟩, h3, h4⟩
theorem Rep.x_inv {e : Env} {w : World} {u v : Value} (h : Rep e w (.x u) v) : v = u := by cases h; rfl
theorem Rep.lit_inv {e : Env} {w : World} {b : Bool} {v : Value} (h : Rep e w (.lit b) v) : v = .bool b := by cases h; rfl
structure Step (e e' : Env) (w w' : World) : Prop where
 ro : ∀ b, b < w.heap.size → e.ro b → e'.ro b ∧ w'.heap[b]? = w.heap[b]?
 live : ∀ id, e.live id → e'.live id ∧ e'.blk id = e.blk id ∧ e'.val id = e.val id
 size : w.heap.size ≤ w'.heap.size
theorem Step.refl (e : Env) (w : World) : Step e e w w := ⟨fun _ _ h => ⟨h, rfl⟩, fun _ h => ⟨h, rfl, rfl⟩, Nat.le_refl _⟩
theorem Step.trans {e e' e'' : Env} {w w' w'' : World} (h : Step e e' w w') (k : Step e' e'' w' w'') : Step e e'' w w'' := by
 refine ⟨fun b hb hr => ?_, fun id hi => ?_, Nat.le_trans h.size k.size⟩
 ·obtain ⟨h1, h2⟩ := h.ro b hb hr
  obtain ⟨k1, k2⟩ := k.ro b (Nat.lt_of_lt_of_le hb h.size) h1
  exact ⟨k1, k2.trans h2⟩
 ·obtain ⟨h1, h2, h3⟩ := h.live id hi
  obtain ⟨k1, k2, k3⟩ := k.live id h1
  exact ⟨k1, k2.trans h2, k3.trans h3⟩
theorem Rep.step {e e' : Env} {w w' : World} (s : Step e e' w w') {a : AV} {v : Value} (h : Rep e w a v) : Rep e' w' a v := by
 induction h with
 | top v => exact .top v
 | lit b => exact .lit b
 | x v => exact .x v
 | agg l vs h1 h2 ih => exact .agg l vs h1 ih
 | tup l vs h1 h2 ih => exact .tup l vs h1 ih
 | fn f l l' vs vs' h1 h2 h3 h4 ih1 ih2 => exact .fn f l l' vs vs' h1 ih1 h3 ih2
 | ptr id off hl => obtain ⟨h1, h2, h3⟩ := s.live id hl; rw [← h2]; exact .ptr id off h1
 | row id a n c hl hv => obtain ⟨h1, h2, h3⟩ := s.live id hl; exact .row id a n c h1 (h3.trans hv)
 | elt id sz i j b n cap hl hv => obtain ⟨h1, h2, h3⟩ := s.live id hl; exact .elt id sz i j b n cap h1 (h3.trans hv)
 | ro l vs b o hr hb hf h1 h2 h3 ih =>
  obtain ⟨k1, k2⟩ := s.ro b hb hr
  exact .ro l vs b o k1 (Nat.lt_of_lt_of_le hb s.size) hf h1 (fun j v hj => (World.cell?_of_block (a := ⟨b, o + j, none⟩) k2).trans (h2 j v hj)) ih
 | lstNil sz f => exact .lstNil sz f
 | lst sz n f b o cap g hr hb hf hc hm h1 h2 h3 ad had ih =>
  exact .lst sz n f b o cap g (fun h => (s.ro b (hb h) (hr h)).1) (fun h => Nat.lt_of_lt_of_le (hb h) s.size) hf hc hm (fun i j hi hj => (World.cell?_of_block (a := ⟨b, o + (i * sz + j), none⟩) (s.ro b (hb (by omega)) (hr (by omega))).2).trans (h1 i j hi hj)) h2 ih ad had
 | mp id hl => obtain ⟨h1, h2, h3⟩ := s.live id hl; rw [← h2]; exact .mp id h1
 | roI pre n f off b o h ih => exact .roI pre n f off b o ih
theorem RepL.step {e e' : Env} {w w' : World} (s : Step e e' w w') {l : List AV} {vs : List Value} (h : RepL e w l vs) : RepL e' w' l vs := ⟨h.1, fun i a v ha hv => (h.2 i a v ha hv).step s⟩
theorem Rep.idf {e e' : Env} {w : World} (hr : ∀ b, e.ro b → e'.ro b) {a : AV} {v : Value} (h : Rep e w a v) (k : Idf a) : Rep e' w a v := by
 induction h with
 | top v => exact .top v
 | lit b => exact .lit b
 | x v => exact .x v
 | agg l vs h1 h2 ih => cases k with | agg l k => exact .agg l vs h1 (fun i a v ha hv => ih i a v ha hv (k a (List.mem_of_getElem? ha)))
 | tup l vs h1 h2 ih => cases k with | tup l k => exact .tup l vs h1 (fun i a v ha hv => ih i a v ha hv (k a (List.mem_of_getElem? ha)))
 | fn f l l' vs vs' h1 h2 h3 h4 ih1 ih2 =>
  cases k with
  | fn f l l' k k' => exact .fn f l l' vs vs' h1 (fun i a v ha hv => ih1 i a v ha hv (k a (List.mem_of_getElem? ha))) h3 (fun i a v ha hv => ih2 i a v ha hv (k' a (List.mem_of_getElem? ha)))
 | ptr id off hl => cases k
 | row id a n c hl hv => cases k
 | elt id sz i j b n cap hl hv => cases k
 | ro l vs b o hb hlt hf h1 h2 h3 ih => exact .ro l vs b o (hr b hb) hlt hf h1 h2 (fun i a v ha hv => ih i a v ha hv (hf a (List.mem_of_getElem? ha)))
 | lstNil sz f => exact .lstNil sz f
 | lst sz n f b o cap g hb hlt hf hc hm h1 h2 h3 ad had ih => exact .lst sz n f b o cap g (fun h => hr b (hb h)) hlt hf hc hm h1 h2 (fun i j a hi ha => ih i j a hi ha (hf i hi a (List.mem_of_getElem? ha))) ad had
 | mp id hl => cases k
 | roI pre n f off b o h ih => cases k with | roI _ _ _ _ k => exact .roI pre n f off b o (ih k)
inductive Res where
 | cells (T : TypeId) (l : List AV)
 | row (T : TypeId) (sz n : Nat) (f : Nat → List AV)
 | memo (h : Value → Prop) (f : Value → Value)
 | ints (T : TypeId) (pre : List AV) (n : Nat) (f : Nat → Int)
 | aka (r : Nat) (T : TypeId) (sz n : Nat) (f : Nat → List AV)
def RowO (e : Env) (w : World) (id o : Nat) (T : TypeId) (sz n : Nat) (f : Nat → List AV) : Prop :=
 (∀ b, (e.val id).ownBlock = some b → e.own b = some o) ∧ (∀ i, i < n → (f i).length = sz ∧ ∀ a ∈ f i, Idf a) ∧
   ∃ xs : List Value, w.ownsRow 0 T sz (e.val id) n xs ∧ ∀ (i j : Nat) (a : AV) (v : Value), i < n → (f i)[j]? = some a → xs[i * sz + j]? = some v → Rep e w a v
def akaOf (i : Nat) : Res → Bool
 | .aka r _ _ _ _ => Nat.beq r i
 | _ => false
def Holds (e : Env) (w : World) (id : Nat) : Res → Prop
 | .cells T l => e.live id ∧ e.own (e.blk id) = some id ∧ ∃ vs : List Value, w.heap[e.blk id]? = some (.cells vs.toArray T (0, 0)) ∧ RepL e w l vs
 | .row T sz n f => e.live id ∧ (∀ b, (e.val id).ownBlock = some b → e.own b = some id) ∧ (∀ i, i < n → (f i).length = sz ∧ ∀ a ∈ f i, Idf a) ∧
   ∃ xs : List Value, w.ownsRow 0 T sz (e.val id) n xs ∧ ∀ (i j : Nat) (a : AV) (v : Value), i < n → (f i)[j]? = some a → xs[i * sz + j]? = some v → Rep e w a v
 | .memo h f => e.live id ∧ e.own (e.blk id) = some id ∧ ∃ (es : Array MapEntry) (c : Nat), w.heap[e.blk id]? = some (.map es c) ∧ ∀ x ∈ es.toList, h x.key ∧ x.val = f x.key
 | .ints T pre n f => e.live id ∧ e.own (e.blk id) = some id ∧ ∃ vs : List Value, w.heap[e.blk id]? = some (.cells vs.toArray T (0, 0)) ∧ RepL e w (pre ++ intsL n f) vs
 | .aka r T sz n f => e.live id ∧ e.live r ∧ ∃ o, (o = id ∨ o = r) ∧ RowO e w id o T sz n f
theorem Holds.live {e : Env} {w : World} {id : Nat} {r : Res} (h : Holds e w id r) : e.live id := by
 cases r <;> exact h.1
abbrev Mem := List (Nat × Res)
def MemOk (e : Env) (m : Mem) (w : World) : Prop := ∀ p ∈ m, Holds e w p.1 p.2
structure EnvOk (e : Env) (B : Nat) (w : World) : Prop where
 apart : ∀ b, e.ro b → e.own b = none ∧ b < w.heap.size
 owned : ∀ b id, e.own b = some id → B ≤ b ∧ b < w.heap.size
end Go.Sx
namespace Go.Sx
open Go Go.RowKit
abbrev Out := List Prop × AV × Option Res
def addM (m : Mem) (id : Nat) : Option Res → Mem
 | none => m
 | some r => (id, r) :: m
def getM : Mem → Nat → Option Res
 | [], _ => none
 | (k, r) :: t, id => match Nat.beq k id with
  | true => some r
  | false => getM t id
theorem getM_mem {m : Mem} {id : Nat} {r : Res} (h : getM m id = some r) : (id, r) ∈ m := by
 induction m with
 | nil => simp [getM] at h
 | cons p t ih =>
  obtain ⟨k, r'⟩ := p
  unfold getM at h
  split at h
  ·rename_i hk
   have : k = id := Nat.eq_of_beq_eq_true hk
   subst this
   cases h
   exact List.mem_cons_self
  ·exact List.mem_cons_of_mem _ (ih h)
def Came (e : Env) (B : Nat) (w : World) (m : Mem) (id : Nat) (val : AV) (add : Option Res) (v : Value) (w' : World) : Prop :=
 ∃ e', Below w.heap.size w w' ∧ Step e e' w w' ∧ EnvOk e' B w' ∧ (∀ b k, e.own b = some k → e'.own b = some k) ∧ Rep e' w' val v ∧ MemOk e' (addM m id add) w' ∧ (∀ k, e'.live k → e.live k ∨ k = id) ∧ (∀ b, e'.ro b → e.ro b ∨ w.heap.size ≤ b)
theorem Holds.ext {e e' : Env} {w w' : World} (hb : Below w.heap.size w w') (s : Step e e' w w') (ho : ∀ b k, e.own b = some k → e'.own b = some k) {id : Nat} {r : Res} (h : Holds e w id r) : Holds e' w' id r := by
 cases r with
 | cells T l =>
  obtain ⟨h1, h2, vs, h3, h4⟩ := h
  obtain ⟨l1, l2, l3⟩ := s.live id h1
  refine ⟨l1, by rw [l2]; exact ho _ _ h2, vs, ?_, h4.step s⟩
  rw [l2, hb.block _ (Array.getElem?_eq_some_iff.1 h3).1]
  exact h3
 | row T sz n f =>
  obtain ⟨h1, h2, hf, xs, h3, h4⟩ := h
  obtain ⟨l1, l2, l3⟩ := s.live id h1
  refine ⟨l1, by rw [l3]; exact fun b hbk => ho _ _ (h2 b hbk), hf, xs, ?_, fun i j a v hi ha hv => (h4 i j a v hi ha hv).step s⟩
  rw [l3]
  refine ⟨h3.1, h3.2.imp (fun h => h) ?_⟩
  rintro ⟨g, cap, cur, hv, hg, hh, rest⟩
  exact ⟨g, cap, cur, hv, hg, by rw [hb.block _ (Array.getElem?_eq_some_iff.1 hh).1]; exact hh, rest⟩
 | ints T pre n f =>
  obtain ⟨h1, h2, vs, h3, h4⟩ := h
  obtain ⟨l1, l2, l3⟩ := s.live id h1
  refine ⟨l1, by rw [l2]; exact ho _ _ h2, vs, ?_, h4.step s⟩
  rw [l2, hb.block _ (Array.getElem?_eq_some_iff.1 h3).1]
  exact h3
 | memo h f =>
  obtain ⟨h1, h2, es, c, h3, h4⟩ := h
  obtain ⟨l1, l2, l3⟩ := s.live id h1
  exact ⟨l1, by rw [l2]; exact ho _ _ h2, es, c, by rw [l2, hb.block _ (Array.getElem?_eq_some_iff.1 h3).1]; exact h3, h4⟩
 | aka r T sz n f =>
  obtain ⟨h1, h0, o, hor, h2, hf, xs, h3, h4⟩ := h
  obtain ⟨l1, l2, l3⟩ := s.live id h1
  refine ⟨l1, (s.live r h0).1, o, hor, by rw [l3]; exact fun b hbk => ho _ _ (h2 b hbk), hf, xs, ?_, fun i j a v hi ha hv => (h4 i j a v hi ha hv).step s⟩
  rw [l3]
  refine ⟨h3.1, h3.2.imp (fun h => h) ?_⟩
  rintro ⟨g, cap, cur, hv, hg, hh, rest⟩
  exact ⟨g, cap, cur, hv, hg, by rw [hb.block _ (Array.getElem?_eq_some_iff.1 hh).1]; exact hh, rest⟩
theorem MemOk.ext {e e' : Env} {w w' : World} (hb : Below w.heap.size w w') (s : Step e e' w w') (ho : ∀ b k, e.own b = some k → e'.own b = some k) {m : Mem} (h : MemOk e m w) : MemOk e' m w' :=
 fun p hp => (h p hp).ext hb s ho
theorem came_same {e : Env} {B : Nat} {w : World} {m : Mem} {id : Nat} {val : AV} {v : Value} (hE : EnvOk e B w) (hm : MemOk e m w) (r : Rep e w val v) : Came e B w m id val none v w :=
 ⟨e, Below.refl _ _, Step.refl e w, hE, fun _ _ h => h, r, hm, fun _ h => .inl h, fun _ h => .inl h⟩
def Env.new (e : Env) (id b : Nat) (v : Value) : Env :=
 {ro := e.ro, own := fun k => if k = b then some id else e.own k, live := fun k => k = id ∨ e.live k, blk := fun k => if k = id then b else e.blk k, val := fun k => if k = id then v else e.val k }
theorem Step.new {e : Env} {w : World} {id : Nat} {v : Value} (o : Obj) (hid : ¬ e.live id) : Step e (e.new id w.heap.size v) w (w.alloc o) := by
 refine ⟨fun b hb hr => ⟨hr, Below.heap_alloc w o b hb⟩, fun k hk => ?_, by simp⟩
 have hne : k ≠ id := fun h => hid (h ▸ hk)
 exact ⟨.inr hk, by simp [Env.new, hne], by simp [Env.new, hne]⟩
theorem EnvOk.new {e : Env} {B : Nat} {w : World} (h : EnvOk e B w) (hB : B ≤ w.heap.size) (id : Nat) (v : Value) (o : Obj) : EnvOk (e.new id w.heap.size v) B (w.alloc o) := by
 refine ⟨fun b hr => ?_, fun b k hk => ?_⟩
 ·obtain ⟨h1, h2⟩ := h.apart b hr
  have : b ≠ w.heap.size := by omega
  exact ⟨by simp [Env.new, this, h1], by simp; omega⟩
 ·simp only [Env.new] at hk
  split at hk
  ·rename_i hb; subst hb; exact ⟨hB, by simp⟩
  ·have := h.owned b k hk; exact ⟨this.1, by simp; omega⟩
theorem own_new {e : Env} {B : Nat} {w : World} (h : EnvOk e B w) (id : Nat) (v : Value) : ∀ b k, e.own b = some k → (e.new id w.heap.size v).own b = some k := by
 intro b k hk
 have := (h.owned b k hk).2
 have hne : b ≠ w.heap.size := by omega
 simp [Env.new, hne, hk]
theorem below_alloc (w : World) (o : Obj) : Below w.heap.size w (w.alloc o) := (Below.refl _ _).alloc (Nat.le_refl _) o
theorem came_new {e : Env} {B : Nat} {w : World} {m : Mem} {id : Nat} {T : TypeId} {l : List AV} {vs : List Value} (hE : EnvOk e B w) (hB : B ≤ w.heap.size) (hm : MemOk e m w) (hid : ¬ e.live id) (r : RepL e w l vs) :
  Came e B w m id (.ptr id 0) (some (.cells T l)) (.pointer (some ⟨w.heap.size, 0, none⟩)) (w.alloc (.cells vs.toArray T)) := by
 have st := Step.new (e := e) (w := w) (id := id) (v := .nilIface) (.cells vs.toArray T) hid
 refine ⟨e.new id w.heap.size .nilIface, below_alloc _ _, st, hE.new hB _ _ _, own_new hE _ _, ?_, ?_, fun k hk => ?_, fun _ h => .inl h⟩
 ·have := Rep.ptr (e := e.new id w.heap.size .nilIface) (w := w.alloc (.cells vs.toArray T)) id 0 (.inl rfl)
  simpa [Env.new] using this
 ·intro p hp
  rcases List.mem_cons.1 hp with rfl | hp
  ·refine ⟨.inl rfl, by simp [Env.new], vs, ?_, r.step st⟩
   simp only [Env.new, if_true]
   exact heap_alloc_new w _
  ·exact (hm p hp).ext (below_alloc _ _) st (own_new hE _ _)
 ·rcases hk with rfl | hk
  ·exact .inr rfl
  ·exact .inl hk
theorem came_map {e : Env} {B : Nat} {w : World} {m : Mem} {id : Nat} (hE : EnvOk e B w) (hB : B ≤ w.heap.size) (hm : MemOk e m w) (hid : ¬ e.live id) :
  Came e B w m id (.mp id) (some (.memo (fun _ => False) (fun v => v))) (.map (some w.heap.size)) (w.alloc (.map #[] 0)) := by
 have st := Step.new (e := e) (w := w) (id := id) (v := .nilIface) (.map #[] 0) hid
 refine ⟨e.new id w.heap.size .nilIface, below_alloc _ _, st, hE.new hB _ _ _, own_new hE _ _, ?_, ?_, fun k hk => ?_, fun _ h => .inl h⟩
 ·have := Rep.mp (e := e.new id w.heap.size .nilIface) (w := w.alloc (.map #[] 0)) id (.inl rfl)
  simpa [Env.new] using this
 ·intro p hp
  rcases List.mem_cons.1 hp with rfl | hp
  ·refine ⟨.inl rfl, by simp [Env.new], #[], 0, ?_, fun x hx => by simp at hx⟩
   simp only [Env.new, if_true]
   exact heap_alloc_new w _
  ·exact (hm p hp).ext (below_alloc _ _) st (own_new hE _ _)
 ·rcases hk with rfl | hk
  ·exact .inr rfl
  ·exact .inl hk
theorem came_row {e : Env} {B : Nat} {w : World} {m : Mem} {id : Nat} {T : TypeId} {sz n c : Nat} {f : Nat → List AV} {cs : List Value} (hE : EnvOk e B w) (hB : B ≤ w.heap.size) (hm : MemOk e m w) (hid : ¬ e.live id)
  (hnc : n ≤ c) (hc : c ≤ maxLen) (hlen : cs.length = c * sz) (hf : ∀ i, i < n → (f i).length = sz ∧ ∀ a ∈ f i, Idf a)
  (r : ∀ (i j : Nat) (a : AV) (v : Value), i < n → (f i)[j]? = some a → cs[i * sz + j]? = some v → Rep e w a v) :
  Came e B w m id (.row id) (some (.row T sz n f)) (.slice (some ⟨w.heap.size, 0, none⟩) n c) (w.alloc (.cells cs.toArray T)) := by
 have st := Step.new (e := e) (w := w) (id := id) (v := .slice (some ⟨w.heap.size, 0, none⟩) n c) (.cells cs.toArray T) hid
 refine ⟨e.new id w.heap.size (.slice (some ⟨w.heap.size, 0, none⟩) n c), below_alloc _ _, st, hE.new hB _ _ _, own_new hE _ _, ?_, ?_, fun k hk => ?_, fun _ h => .inl h⟩
 ·exact .row id _ _ _ (.inl rfl) (by simp [Env.new])
 ·intro p hp
  rcases List.mem_cons.1 hp with rfl | hp
  ·refine ⟨.inl rfl, ?_, hf, cs.take (n * sz), ?_, ?_⟩
   ·intro b hb
    simp only [Env.new, if_true, Value.ownBlock, Option.some.injEq] at hb
    subst hb
    simp [Env.new]
   ·refine ⟨by simp [hlen, Nat.min_eq_left (Nat.mul_le_mul_right sz hnc)], .inr ⟨w.heap.size, c, cs.toArray, by simp [Env.new], Nat.zero_le _, heap_alloc_new w _, hnc, hc, by simp [hlen], by simp⟩⟩
   ·intro i j a v hi ha hv
    have hj : j < sz := by rw [← (hf i hi).1]; exact (List.getElem?_eq_some_iff.1 ha).1
    rw [List.getElem?_take] at hv
    split at hv
    ·exact (r i j a v hi ha hv).step st
    ·cases hv
  ·exact (hm p hp).ext (below_alloc _ _) st (own_new hE _ _)
 ·rcases hk with rfl | hk
  ·exact .inr rfl
  ·exact .inl hk
def intsOf : List AV → Option (List Int)
 | [] => some []
 | a :: l => match a with
  | .x (.int .i64 n) => match intsOf l with
   | some r => some (n :: r)
   | none => none
  | _ => none
def nthJ : List Int → Nat → Int
 | [], _ => 0
 | n :: _, 0 => n
 | _ :: l, k + 1 => nthJ l k
theorem intsL_succ (n : Nat) (f : Nat → Int) : intsL (n + 1) f = .x (.int .i64 (f 0)) :: intsL n (fun k => f (k + 1)) := by
 simp [intsL, List.range_succ_eq_map, List.map_map, Function.comp_def]
theorem intsOf_eq : ∀ {l : List AV} {r : List Int}, intsOf l = some r → l = intsL r.length (nthJ r)
 | [], r, h => by simp [intsOf] at h; subst h; rfl
 | a :: l, r, h => by
  unfold intsOf at h
  split at h
  ·rename_i n
   split at h
   ·rename_i r' hr
    cases h
    have ih := intsOf_eq hr
    rw [List.length_cons, intsL_succ, ih]
    rfl
   ·cases h
  ·cases h
def allZ : List Int → Bool
 | [] => true
 | n :: l => match decide (n = 0) with
  | true => allZ l
  | false => false
theorem allZ_nth : ∀ {l : List Int}, allZ l = true → ∀ k, nthJ l k = 0
 | [], _, _ => rfl
 | n :: l, h, k => by
  unfold allZ at h
  split at h
  ·rename_i hd
   cases k with
   | zero => exact of_decide_eq_true hd
   | succ k => exact allZ_nth h k
  ·cases h
def numsF (l : List Int) : Nat → Int := match allZ l with
 | true => fun _ => 0
 | false => nthJ l
def splitI : List AV → List AV × List Int
 | [] => ([], [])
 | a :: l => match intsOf (a :: l) with
  | some r => ([], r)
  | none => match splitI l with
   | (p, r) => (a :: p, r)
theorem splitI_eq : ∀ (l : List AV), l = (splitI l).1 ++ intsL (splitI l).2.length (nthJ (splitI l).2)
 | [] => rfl
 | a :: l => by
  unfold splitI
  split
  ·rename_i r hr
   exact intsOf_eq hr
  ·have := splitI_eq l
   simp only [List.cons_append]
   rw [← this]
theorem numsF_eq (r : List Int) : numsF r = nthJ r := by
 unfold numsF
 split
 ·rename_i hz
  exact (funext (allZ_nth hz)).symm
 ·rfl
def boxRes (z : Bool) (T : TypeId) (l : List AV) : Res := match splitI l with
 | (pre, r) => match Nat.ble 9 r.length with
  | true => .ints T pre r.length (match z with | true => numsF r | false => nthJ r)
  | false => .cells T l
theorem boxRes_holds {e : Env} {w : World} {id : Nat} {z : Bool} {T : TypeId} {l : List AV} (h : Holds e w id (.cells T l)) : Holds e w id (boxRes z T l) := by
 unfold boxRes
 split
 rename_i pre r hs
 split
 ·have := splitI_eq l
  rw [hs] at this
  rw [this] at h
  cases z with
  | true => simp only; rw [numsF_eq]; exact h
  | false => exact h
 ·exact h
theorem came_box {e : Env} {B : Nat} {w : World} {m : Mem} {id : Nat} {val : AV} {z : Bool} {T : TypeId} {l : List AV} {v : Value} {w' : World} (h : Came e B w m id val (some (.cells T l)) v w') : Came e B w m id val (some (boxRes z T l)) v w' := by
 obtain ⟨e', h1, h2, h3, h4, h5, h6, h7, h8⟩ := h
 refine ⟨e', h1, h2, h3, h4, h5, fun p hp => ?_, h7, h8⟩
 rcases List.mem_cons.1 hp with rfl | hp
 ·exact boxRes_holds (h6 (id, .cells T l) List.mem_cons_self)
 ·exact h6 p (List.mem_cons_of_mem _ hp)
end Go.Sx
namespace Go.Sx
abbrev Eq1.{u} {α : Sort u} (x : α) : Prop := x = x
abbrev tpL (n : Nat) (l : List AV) : List AV := List.replicate n .top ++ l
abbrev rq4 (a b u v : Nat → Int) : Nat → List AV := fun k => [.x (.int .i64 (a k)), .x (.int .i64 (b k)), .x (.int .i64 (u k)), .x (.int .i64 (v k))]
abbrev rq2 (a b : Nat → Int) : Nat → List AV := fun k => [.x (.int .i64 (a k)), .x (.int .i64 (b k))]
theorem lpE {β : Type} {S : β → Prop} {f : Option β} {b : β} (e : f = some b) (h : S b) : ∀ cj, f = some cj → S cj := fun cj hcj => by rw [e] at hcj; cases hcj; exact h
end Go.Sx
