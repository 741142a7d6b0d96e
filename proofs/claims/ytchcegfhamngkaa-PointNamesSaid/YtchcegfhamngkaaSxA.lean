/- The abstract values, the memory that a call owns, and what it means that they stand for concrete values in a world. -/
import Derived.WalkKit
namespace Go.Sx
open Go Go.RowKit

/-- Abstract values. 'ro', 'lst': memory that is never written from here on, by its contents. 'ptr', 'row', 'elt': memory of the call's own, by a number. -/
inductive AV where
  | top
  | lit (b : Bool)
  | x (v : Value)
  | agg (l : List AV)
  | tup (l : List AV)
  | fn (f : Fn) (first caps : List AV)
  | ptr (id off : Nat)
  | row (id : Nat)
  | elt (id sz i j : Nat)
  | ro (l : List AV)
  | lst (sz n : Nat) (f : Nat → List AV)
  | mp (id : Nat)

/-- A value that names no memory of the call's own. -/
inductive Idf : AV → Prop
  | top : Idf .top
  | lit (b : Bool) : Idf (.lit b)
  | x (v : Value) : Idf (.x v)
  | agg (l : List AV) : (∀ a ∈ l, Idf a) → Idf (.agg l)
  | tup (l : List AV) : (∀ a ∈ l, Idf a) → Idf (.tup l)
  | fn (f : Fn) (l l' : List AV) : (∀ a ∈ l, Idf a) → (∀ a ∈ l', Idf a) → Idf (.fn f l l')
  | ro (l : List AV) : (∀ a ∈ l, Idf a) → Idf (.ro l)
  | lst (sz n : Nat) (f : Nat → List AV) : (∀ i, i < n → ∀ a ∈ f i, Idf a) → Idf (.lst sz n f)

structure Env where
  ro : Nat → Prop
  own : Nat → Option Nat
  live : Nat → Prop
  blk : Nat → Nat
  val : Nat → Value

inductive Rep (e : Env) (w : World) : AV → Value → Prop
  | top (v : Value) : Rep e w .top v
  | lit (b : Bool) : Rep e w (.lit b) (.bool b)
  | x (v : Value) : Rep e w (.x v) v
  | agg (l : List AV) (vs : List Value) : l.length = vs.length → (∀ (i : Nat) (a : AV) (v : Value), l[i]? = some a → vs[i]? = some v → Rep e w a v) → Rep e w (.agg l) (.agg vs.toArray)
  | tup (l : List AV) (vs : List Value) : l.length = vs.length → (∀ (i : Nat) (a : AV) (v : Value), l[i]? = some a → vs[i]? = some v → Rep e w a v) → Rep e w (.tup l) (.tuple vs.toArray)
  | fn (f : Fn) (l l' : List AV) (vs vs' : List Value) : l.length = vs.length → (∀ (i : Nat) (a : AV) (v : Value), l[i]? = some a → vs[i]? = some v → Rep e w a v) →
      l'.length = vs'.length → (∀ (i : Nat) (a : AV) (v : Value), l'[i]? = some a → vs'[i]? = some v → Rep e w a v) → Rep e w (.fn f l l') (.func f vs.toArray vs'.toArray)
  | ptr (id off : Nat) : e.live id → Rep e w (.ptr id off) (.pointer (some ⟨e.blk id, off, none⟩))
  | row (id : Nat) (a : Option Addr) (n c : Nat) : e.live id → e.val id = .slice a n c → Rep e w (.row id) (.slice a n c)
  | elt (id sz i j b n cap : Nat) : e.live id → e.val id = .slice (some ⟨b, 0, none⟩) n cap → Rep e w (.elt id sz i j) (.pointer (some ⟨b, i * sz + j, none⟩))
  | ro (l : List AV) (vs : List Value) (b o : Nat) : e.ro b → b < w.heap.size → (∀ a ∈ l, Idf a) → l.length = vs.length → (∀ (j : Nat) (v : Value), vs[j]? = some v → w.cell? ⟨b, o + j, none⟩ = some v) →
      (∀ (i : Nat) (a : AV) (v : Value), l[i]? = some a → vs[i]? = some v → Rep e w a v) → Rep e w (.ro l) (.pointer (some ⟨b, o, none⟩))
  | lstNil (sz : Nat) (f : Nat → List AV) : Rep e w (.lst sz 0 f) (.slice none 0 0)
  | lst (sz n : Nat) (f : Nat → List AV) (b o cap : Nat) (g : Nat → Nat → Value) : e.ro b → b < w.heap.size → (∀ i, i < n → ∀ a ∈ f i, Idf a) → n ≤ cap → cap ≤ maxLen →
      (∀ i j : Nat, i < n → j < sz → w.cell? ⟨b, o + (i * sz + j), none⟩ = some (g i j)) → (∀ i : Nat, i < n → (f i).length = sz) →
      (∀ (i j : Nat) (a : AV), i < n → (f i)[j]? = some a → Rep e w a (g i j)) → Rep e w (.lst sz n f) (.slice (some ⟨b, o, none⟩) n cap)
  | mp (id : Nat) : e.live id → Rep e w (.mp id) (.map (some (e.blk id)))

/-- Lists, place by place. -/
def RepL (e : Env) (w : World) (l : List AV) (vs : List Value) : Prop := l.length = vs.length ∧ ∀ (i : Nat) (a : AV) (v : Value), l[i]? = some a → vs[i]? = some v → Rep e w a v

theorem RepL.nil (e : Env) (w : World) : RepL e w [] [] := ⟨rfl, fun i a v h => by simp at h⟩

theorem RepL.cons {e : Env} {w : World} {a : AV} {v : Value} {l : List AV} {vs : List Value} (h : Rep e w a v) (t : RepL e w l vs) : RepL e w (a :: l) (v :: vs) := by
  refine ⟨by simp [t.1], fun i b u hb hu => ?_⟩
  cases i with
  | zero => simp at hb hu; subst hb; subst hu; exact h
  | succ i => simp at hb hu; exact t.2 i b u hb hu

theorem RepL.cons_inv {e : Env} {w : World} {a : AV} {l : List AV} {vs : List Value} (h : RepL e w (a :: l) vs) : ∃ v vs', vs = v :: vs' ∧ Rep e w a v ∧ RepL e w l vs' := by
  cases vs with
  | nil => have := h.1; simp at this
  | cons v vs' =>
    refine ⟨v, vs', rfl, h.2 0 a v (by simp) (by simp), ⟨by have := h.1; simpa using this, fun i b u hb hu => h.2 (i + 1) b u (by simpa using hb) (by simpa using hu)⟩⟩

theorem RepL.nil_inv {e : Env} {w : World} {vs : List Value} (h : RepL e w [] vs) : vs = [] := by
  exact List.eq_nil_of_length_eq_zero h.1.symm

theorem RepL.append {e : Env} {w : World} {l l' : List AV} {vs vs' : List Value} (h : RepL e w l vs) (h' : RepL e w l' vs') : RepL e w (l ++ l') (vs ++ vs') := by
  refine ⟨by simp [h.1, h'.1], fun i a v ha hv => ?_⟩
  rw [List.getElem?_append] at ha hv
  rw [← h.1] at hv
  split at ha
  · rename_i hi; rw [if_pos hi] at hv; exact h.2 _ _ _ ha hv
  · rename_i hi; rw [if_neg hi] at hv; exact h'.2 _ _ _ ha hv

theorem RepL.get {e : Env} {w : World} {l : List AV} {vs : List Value} (h : RepL e w l vs) {i : Nat} {a : AV} (ha : l[i]? = some a) : ∃ v, vs[i]? = some v ∧ Rep e w a v := by
  have hi : i < vs.length := by rw [← h.1]; exact (List.getElem?_eq_some_iff.1 ha).1
  exact ⟨vs[i], List.getElem?_eq_getElem hi, h.2 i a _ ha (List.getElem?_eq_getElem hi)⟩

theorem RepL.set {e : Env} {w : World} {l : List AV} {vs : List Value} (h : RepL e w l vs) {a : AV} {v : Value} (r : Rep e w a v) (k : Nat) : RepL e w (l.set k a) (vs.set k v) := by
  refine ⟨by simp [h.1], fun i b u hb hu => ?_⟩
  rw [List.getElem?_set] at hb hu
  by_cases hk : k = i
  · subst hk
    simp only [if_true] at hb hu
    split at hb
    · rename_i h1; rw [if_pos (by rw [← h.1]; exact h1)] at hu; cases hb; cases hu; exact r
    · cases hb
  · rw [if_neg hk] at hb hu; exact h.2 _ _ _ hb hu

theorem RepL.take {e : Env} {w : World} {l : List AV} {vs : List Value} (h : RepL e w l vs) (k : Nat) : RepL e w (l.take k) (vs.take k) := by
  refine ⟨by simp [h.1], fun i b u hb hu => ?_⟩
  rw [List.getElem?_take] at hb hu
  split at hb
  · rename_i hi; rw [if_pos hi] at hu; exact h.2 _ _ _ hb hu
  · cases hb

theorem RepL.drop {e : Env} {w : World} {l : List AV} {vs : List Value} (h : RepL e w l vs) (k : Nat) : RepL e w (l.drop k) (vs.drop k) := by
  refine ⟨by simp [h.1], fun i b u hb hu => ?_⟩
  rw [List.getElem?_drop] at hb hu
  exact h.2 _ _ _ hb hu

theorem Rep.aggL {e : Env} {w : World} {l : List AV} {vs : List Value} (h : RepL e w l vs) : Rep e w (.agg l) (.agg vs.toArray) := .agg l vs h.1 h.2
theorem Rep.tupL {e : Env} {w : World} {l : List AV} {vs : List Value} (h : RepL e w l vs) : Rep e w (.tup l) (.tuple vs.toArray) := .tup l vs h.1 h.2

theorem Rep.agg_inv {e : Env} {w : World} {l : List AV} {v : Value} (h : Rep e w (.agg l) v) : ∃ vs : List Value, v = .agg vs.toArray ∧ RepL e w l vs := by
  cases h with | agg l vs h1 h2 => exact ⟨vs, rfl, h1, h2⟩
theorem Rep.tup_inv {e : Env} {w : World} {l : List AV} {v : Value} (h : Rep e w (.tup l) v) : ∃ vs : List Value, v = .tuple vs.toArray ∧ RepL e w l vs := by
  cases h with | tup l vs h1 h2 => exact ⟨vs, rfl, h1, h2⟩
theorem Rep.fn_inv {e : Env} {w : World} {f : Fn} {l l' : List AV} {v : Value} (h : Rep e w (.fn f l l') v) : ∃ vs vs' : List Value, v = .func f vs.toArray vs'.toArray ∧ RepL e w l vs ∧ RepL e w l' vs' := by
  cases h with | fn f l l' vs vs' h1 h2 h3 h4 => exact ⟨vs, vs', rfl, ⟨h1, h2⟩, h3, h4⟩
theorem Rep.x_inv {e : Env} {w : World} {u v : Value} (h : Rep e w (.x u) v) : v = u := by cases h; rfl
theorem Rep.lit_inv {e : Env} {w : World} {b : Bool} {v : Value} (h : Rep e w (.lit b) v) : v = .bool b := by cases h; rfl

/-- What carries a representation from one world and environment to the next. -/
structure Step (e e' : Env) (w w' : World) : Prop where
  ro : ∀ b, b < w.heap.size → e.ro b → e'.ro b ∧ w'.heap[b]? = w.heap[b]?
  live : ∀ id, e.live id → e'.live id ∧ e'.blk id = e.blk id ∧ e'.val id = e.val id
  size : w.heap.size ≤ w'.heap.size

theorem Step.refl (e : Env) (w : World) : Step e e w w := ⟨fun _ _ h => ⟨h, rfl⟩, fun _ h => ⟨h, rfl, rfl⟩, Nat.le_refl _⟩
theorem Step.trans {e e' e'' : Env} {w w' w'' : World} (h : Step e e' w w') (k : Step e' e'' w' w'') : Step e e'' w w'' := by
  refine ⟨fun b hb hr => ?_, fun id hi => ?_, Nat.le_trans h.size k.size⟩
  · obtain ⟨h1, h2⟩ := h.ro b hb hr
    obtain ⟨k1, k2⟩ := k.ro b (Nat.lt_of_lt_of_le hb h.size) h1
    exact ⟨k1, k2.trans h2⟩
  · obtain ⟨h1, h2, h3⟩ := h.live id hi
    obtain ⟨k1, k2, k3⟩ := k.live id h1
    exact ⟨k1, k2.trans h2, k3.trans h3⟩

theorem Rep.step {e e' : Env} {w w' : World} (s : Step e e' w w') {a : AV} {v : Value} (h : Rep e w a v) : Rep e' w' a v := by
  induction h with
  | top v => exact .top v
  | lit b => exact .lit b
  | x v => exact .x v
  | agg l vs h1 h2 ih => exact .agg l vs h1 ih
  | tup l vs h1 h2 ih => exact .tup l vs h1 ih
  | fn f l l' vs vs' h1 h2 h3 h4 ih1 ih2 => exact .fn f l l' vs vs' h1 ih1 h3 ih2
  | ptr id off hl => obtain ⟨h1, h2, h3⟩ := s.live id hl; rw [← h2]; exact .ptr id off h1
  | row id a n c hl hv => obtain ⟨h1, h2, h3⟩ := s.live id hl; exact .row id a n c h1 (h3.trans hv)
  | elt id sz i j b n cap hl hv => obtain ⟨h1, h2, h3⟩ := s.live id hl; exact .elt id sz i j b n cap h1 (h3.trans hv)
  | ro l vs b o hr hb hf h1 h2 h3 ih =>
    obtain ⟨k1, k2⟩ := s.ro b hb hr
    exact .ro l vs b o k1 (Nat.lt_of_lt_of_le hb s.size) hf h1 (fun j v hj => (World.cell?_of_block (a := ⟨b, o + j, none⟩) k2).trans (h2 j v hj)) ih
  | lstNil sz f => exact .lstNil sz f
  | lst sz n f b o cap g hr hb hf hc hm h1 h2 h3 ih =>
    obtain ⟨k1, k2⟩ := s.ro b hb hr
    exact .lst sz n f b o cap g k1 (Nat.lt_of_lt_of_le hb s.size) hf hc hm (fun i j hi hj => (World.cell?_of_block (a := ⟨b, o + (i * sz + j), none⟩) k2).trans (h1 i j hi hj)) h2 ih
  | mp id hl => obtain ⟨h1, h2, h3⟩ := s.live id hl; rw [← h2]; exact .mp id h1

theorem RepL.step {e e' : Env} {w w' : World} (s : Step e e' w w') {l : List AV} {vs : List Value} (h : RepL e w l vs) : RepL e' w' l vs := ⟨h.1, fun i a v ha hv => (h.2 i a v ha hv).step s⟩

/-- A value that names no own memory is represented whatever that memory is. -/
theorem Rep.idf {e e' : Env} {w : World} (hr : ∀ b, e.ro b → e'.ro b) {a : AV} {v : Value} (h : Rep e w a v) (k : Idf a) : Rep e' w a v := by
  induction h with
  | top v => exact .top v
  | lit b => exact .lit b
  | x v => exact .x v
  | agg l vs h1 h2 ih => cases k with | agg l k => exact .agg l vs h1 (fun i a v ha hv => ih i a v ha hv (k a (List.mem_of_getElem? ha)))
  | tup l vs h1 h2 ih => cases k with | tup l k => exact .tup l vs h1 (fun i a v ha hv => ih i a v ha hv (k a (List.mem_of_getElem? ha)))
  | fn f l l' vs vs' h1 h2 h3 h4 ih1 ih2 =>
    cases k with
    | fn f l l' k k' => exact .fn f l l' vs vs' h1 (fun i a v ha hv => ih1 i a v ha hv (k a (List.mem_of_getElem? ha))) h3 (fun i a v ha hv => ih2 i a v ha hv (k' a (List.mem_of_getElem? ha)))
  | ptr id off hl => cases k
  | row id a n c hl hv => cases k
  | elt id sz i j b n cap hl hv => cases k
  | ro l vs b o hb hlt hf h1 h2 h3 ih => exact .ro l vs b o (hr b hb) hlt hf h1 h2 (fun i a v ha hv => ih i a v ha hv (hf a (List.mem_of_getElem? ha)))
  | lstNil sz f => exact .lstNil sz f
  | lst sz n f b o cap g hb hlt hf hc hm h1 h2 h3 ih => exact .lst sz n f b o cap g (hr b hb) hlt hf hc hm h1 h2 (fun i j a hi ha => ih i j a hi ha (hf i hi a (List.mem_of_getElem? ha)))
  | mp id hl => cases k

/-- Memory of the call's own. -/
inductive Res where
  | cells (T : TypeId) (l : List AV)
  | row (T : TypeId) (sz n : Nat) (f : Nat → List AV)
  | memo (h : Value → Prop) (f : Value → Value)

def Holds (e : Env) (w : World) (id : Nat) : Res → Prop
  | .cells T l => e.live id ∧ e.own (e.blk id) = some id ∧ ∃ vs : List Value, w.heap[e.blk id]? = some (.cells vs.toArray T (0, 0)) ∧ RepL e w l vs
  | .row T sz n f => e.live id ∧ (∀ b, (e.val id).ownBlock = some b → e.own b = some id) ∧ (∀ i, i < n → (f i).length = sz ∧ ∀ a ∈ f i, Idf a) ∧
      ∃ xs : List Value, w.ownsRow 0 T sz (e.val id) n xs ∧ ∀ (i j : Nat) (a : AV) (v : Value), i < n → (f i)[j]? = some a → xs[i * sz + j]? = some v → Rep e w a v
  | .memo h f => e.live id ∧ e.own (e.blk id) = some id ∧ ∃ (es : Array MapEntry) (c : Nat), w.heap[e.blk id]? = some (.map es c) ∧ ∀ x ∈ es.toList, h x.key ∧ x.val = f x.key

abbrev Mem := List (Nat × Res)

def MemOk (e : Env) (m : Mem) (w : World) : Prop := ∀ p ∈ m, Holds e w p.1 p.2

/-- What is always so of an environment: B: the first block that the call may have laid. -/
structure EnvOk (e : Env) (B : Nat) (w : World) : Prop where
  apart : ∀ b, e.ro b → e.own b = none ∧ b < w.heap.size
  owned : ∀ b id, e.own b = some id → B ≤ b ∧ b < w.heap.size

end Go.Sx
