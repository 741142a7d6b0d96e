/- The operations that leave all memory that was there as it was: what they come to, on abstract values, and that this is so. -/
import Derived.Test.YtchcegfhamngkaaSxA
namespace Go.Sx
open Go Go.RowKit

abbrev Out := List Prop × AV × Option Res

def addM (m : Mem) (id : Nat) : Option Res → Mem
  | none => m
  | some r => (id, r) :: m

def getM : Mem → Nat → Option Res
  | [], _ => none
  | (k, r) :: t, id => match Nat.beq k id with
    | true => some r
    | false => getM t id

theorem getM_mem {m : Mem} {id : Nat} {r : Res} (h : getM m id = some r) : (id, r) ∈ m := by
  induction m with
  | nil => simp [getM] at h
  | cons p t ih =>
    obtain ⟨k, r'⟩ := p
    unfold getM at h
    split at h
    · rename_i hk
      have : k = id := Nat.eq_of_beq_eq_true hk
      subst this
      cases h
      exact List.mem_cons_self
    · exact List.mem_cons_of_mem _ (ih h)

/-- What an operation that only adds memory has come to. -/
def Came (e : Env) (B : Nat) (w : World) (m : Mem) (id : Nat) (val : AV) (add : Option Res) (v : Value) (w' : World) : Prop :=
  ∃ e', Below w.heap.size w w' ∧ Step e e' w w' ∧ EnvOk e' B w' ∧ (∀ b k, e.own b = some k → e'.own b = some k) ∧ Rep e' w' val v ∧ MemOk e' (addM m id add) w' ∧ (∀ k, e'.live k → e.live k ∨ k = id) ∧ (∀ b, e'.ro b → e.ro b ∨ w.heap.size ≤ b)

theorem Holds.ext {e e' : Env} {w w' : World} (hb : Below w.heap.size w w') (s : Step e e' w w') (ho : ∀ b k, e.own b = some k → e'.own b = some k) {id : Nat} {r : Res} (h : Holds e w id r) : Holds e' w' id r := by
  cases r with
  | cells T l =>
    obtain ⟨h1, h2, vs, h3, h4⟩ := h
    obtain ⟨l1, l2, l3⟩ := s.live id h1
    refine ⟨l1, by rw [l2]; exact ho _ _ h2, vs, ?_, h4.step s⟩
    rw [l2, hb.block _ (Array.getElem?_eq_some_iff.1 h3).1]
    exact h3
  | row T sz n f =>
    obtain ⟨h1, h2, hf, xs, h3, h4⟩ := h
    obtain ⟨l1, l2, l3⟩ := s.live id h1
    refine ⟨l1, by rw [l3]; exact fun b hbk => ho _ _ (h2 b hbk), hf, xs, ?_, fun i j a v hi ha hv => (h4 i j a v hi ha hv).step s⟩
    rw [l3]
    refine ⟨h3.1, h3.2.imp (fun h => h) ?_⟩
    rintro ⟨g, cap, cur, hv, hg, hh, rest⟩
    exact ⟨g, cap, cur, hv, hg, by rw [hb.block _ (Array.getElem?_eq_some_iff.1 hh).1]; exact hh, rest⟩
  | memo h f =>
    obtain ⟨h1, h2, es, c, h3, h4⟩ := h
    obtain ⟨l1, l2, l3⟩ := s.live id h1
    exact ⟨l1, by rw [l2]; exact ho _ _ h2, es, c, by rw [l2, hb.block _ (Array.getElem?_eq_some_iff.1 h3).1]; exact h3, h4⟩

theorem MemOk.ext {e e' : Env} {w w' : World} (hb : Below w.heap.size w w') (s : Step e e' w w') (ho : ∀ b k, e.own b = some k → e'.own b = some k) {m : Mem} (h : MemOk e m w) : MemOk e' m w' :=
  fun p hp => (h p hp).ext hb s ho

theorem came_same {e : Env} {B : Nat} {w : World} {m : Mem} {id : Nat} {val : AV} {v : Value} (hE : EnvOk e B w) (hm : MemOk e m w) (r : Rep e w val v) : Came e B w m id val none v w :=
  ⟨e, Below.refl _ _, Step.refl e w, hE, fun _ _ h => h, r, hm, fun _ h => .inl h, fun _ h => .inl h⟩

/-- A new environment behind a new block of the call's own. -/
def Env.new (e : Env) (id b : Nat) (v : Value) : Env :=
  { ro := e.ro, own := fun k => if k = b then some id else e.own k, live := fun k => k = id ∨ e.live k, blk := fun k => if k = id then b else e.blk k, val := fun k => if k = id then v else e.val k }

theorem Step.new {e : Env} {w : World} {id : Nat} {v : Value} (o : Obj) (hid : ¬ e.live id) : Step e (e.new id w.heap.size v) w (w.alloc o) := by
  refine ⟨fun b hb hr => ⟨hr, Below.heap_alloc w o b hb⟩, fun k hk => ?_, by simp⟩
  have hne : k ≠ id := fun h => hid (h ▸ hk)
  exact ⟨.inr hk, by simp [Env.new, hne], by simp [Env.new, hne]⟩

theorem EnvOk.new {e : Env} {B : Nat} {w : World} (h : EnvOk e B w) (hB : B ≤ w.heap.size) (id : Nat) (v : Value) (o : Obj) : EnvOk (e.new id w.heap.size v) B (w.alloc o) := by
  refine ⟨fun b hr => ?_, fun b k hk => ?_⟩
  · obtain ⟨h1, h2⟩ := h.apart b hr
    have : b ≠ w.heap.size := by omega
    exact ⟨by simp [Env.new, this, h1], by simp; omega⟩
  · simp only [Env.new] at hk
    split at hk
    · rename_i hb; subst hb; exact ⟨hB, by simp⟩
    · have := h.owned b k hk; exact ⟨this.1, by simp; omega⟩

theorem own_new {e : Env} {B : Nat} {w : World} (h : EnvOk e B w) (id : Nat) (v : Value) : ∀ b k, e.own b = some k → (e.new id w.heap.size v).own b = some k := by
  intro b k hk
  have := (h.owned b k hk).2
  have hne : b ≠ w.heap.size := by omega
  simp [Env.new, hne, hk]

theorem below_alloc (w : World) (o : Obj) : Below w.heap.size w (w.alloc o) := (Below.refl _ _).alloc (Nat.le_refl _) o

theorem came_new {e : Env} {B : Nat} {w : World} {m : Mem} {id : Nat} {T : TypeId} {l : List AV} {vs : List Value} (hE : EnvOk e B w) (hB : B ≤ w.heap.size) (hm : MemOk e m w) (hid : ¬ e.live id) (r : RepL e w l vs) :
    Came e B w m id (.ptr id 0) (some (.cells T l)) (.pointer (some ⟨w.heap.size, 0, none⟩)) (w.alloc (.cells vs.toArray T)) := by
  have st := Step.new (e := e) (w := w) (id := id) (v := .nilIface) (.cells vs.toArray T) hid
  refine ⟨e.new id w.heap.size .nilIface, below_alloc _ _, st, hE.new hB _ _ _, own_new hE _ _, ?_, ?_, fun k hk => ?_, fun _ h => .inl h⟩
  · have := Rep.ptr (e := e.new id w.heap.size .nilIface) (w := w.alloc (.cells vs.toArray T)) id 0 (.inl rfl)
    simpa [Env.new] using this
  · intro p hp
    rcases List.mem_cons.1 hp with rfl | hp
    · refine ⟨.inl rfl, by simp [Env.new], vs, ?_, r.step st⟩
      simp only [Env.new, if_true]
      exact heap_alloc_new w _
    · exact (hm p hp).ext (below_alloc _ _) st (own_new hE _ _)
  · rcases hk with rfl | hk
    · exact .inr rfl
    · exact .inl hk

theorem came_map {e : Env} {B : Nat} {w : World} {m : Mem} {id : Nat} (hE : EnvOk e B w) (hB : B ≤ w.heap.size) (hm : MemOk e m w) (hid : ¬ e.live id) :
    Came e B w m id (.mp id) (some (.memo (fun _ => False) (fun v => v))) (.map (some w.heap.size)) (w.alloc (.map #[] 0)) := by
  have st := Step.new (e := e) (w := w) (id := id) (v := .nilIface) (.map #[] 0) hid
  refine ⟨e.new id w.heap.size .nilIface, below_alloc _ _, st, hE.new hB _ _ _, own_new hE _ _, ?_, ?_, fun k hk => ?_, fun _ h => .inl h⟩
  · have := Rep.mp (e := e.new id w.heap.size .nilIface) (w := w.alloc (.map #[] 0)) id (.inl rfl)
    simpa [Env.new] using this
  · intro p hp
    rcases List.mem_cons.1 hp with rfl | hp
    · refine ⟨.inl rfl, by simp [Env.new], #[], 0, ?_, fun x hx => by simp at hx⟩
      simp only [Env.new, if_true]
      exact heap_alloc_new w _
    · exact (hm p hp).ext (below_alloc _ _) st (own_new hE _ _)
  · rcases hk with rfl | hk
    · exact .inr rfl
    · exact .inl hk

theorem came_row {e : Env} {B : Nat} {w : World} {m : Mem} {id : Nat} {T : TypeId} {sz n c : Nat} {f : Nat → List AV} {cs : List Value} (hE : EnvOk e B w) (hB : B ≤ w.heap.size) (hm : MemOk e m w) (hid : ¬ e.live id)
    (hnc : n ≤ c) (hc : c ≤ maxLen) (hlen : cs.length = c * sz) (hf : ∀ i, i < n → (f i).length = sz ∧ ∀ a ∈ f i, Idf a)
    (r : ∀ (i j : Nat) (a : AV) (v : Value), i < n → (f i)[j]? = some a → cs[i * sz + j]? = some v → Rep e w a v) :
    Came e B w m id (.row id) (some (.row T sz n f)) (.slice (some ⟨w.heap.size, 0, none⟩) n c) (w.alloc (.cells cs.toArray T)) := by
  have st := Step.new (e := e) (w := w) (id := id) (v := .slice (some ⟨w.heap.size, 0, none⟩) n c) (.cells cs.toArray T) hid
  refine ⟨e.new id w.heap.size (.slice (some ⟨w.heap.size, 0, none⟩) n c), below_alloc _ _, st, hE.new hB _ _ _, own_new hE _ _, ?_, ?_, fun k hk => ?_, fun _ h => .inl h⟩
  · exact .row id _ _ _ (.inl rfl) (by simp [Env.new])
  · intro p hp
    rcases List.mem_cons.1 hp with rfl | hp
    · refine ⟨.inl rfl, ?_, hf, cs.take (n * sz), ?_, ?_⟩
      · intro b hb
        simp only [Env.new, if_true, Value.ownBlock, Option.some.injEq] at hb
        subst hb
        simp [Env.new]
      · refine ⟨by simp [hlen, Nat.min_eq_left (Nat.mul_le_mul_right sz hnc)], .inr ⟨w.heap.size, c, cs.toArray, by simp [Env.new], Nat.zero_le _, heap_alloc_new w _, hnc, hc, by simp [hlen], by simp⟩⟩
      · intro i j a v hi ha hv
        have hj : j < sz := by rw [← (hf i hi).1]; exact (List.getElem?_eq_some_iff.1 ha).1
        rw [List.getElem?_take] at hv
        split at hv
        · exact (r i j a v hi ha hv).step st
        · cases hv
    · exact (hm p hp).ext (below_alloc _ _) st (own_new hE _ _)
  · rcases hk with rfl | hk
    · exact .inr rfl
    · exact .inl hk

end Go.Sx
