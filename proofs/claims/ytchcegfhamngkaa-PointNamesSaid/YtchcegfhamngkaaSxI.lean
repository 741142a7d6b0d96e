/- The operations that write memory of the call's own: a store, an append. -/
import Derived.Test.YtchcegfhamngkaaSxH
namespace Go.Sx
open Go Go.RowKit

def setM : Mem → Nat → Res → Mem
  | [], _, _ => []
  | (k, q) :: t, id, r => match Nat.beq k id with
    | true => (k, r) :: setM t id r
    | false => (k, q) :: setM t id r

def delM : Mem → Nat → Mem
  | [], _ => []
  | (k, q) :: t, id => match Nat.beq k id with
    | true => delM t id
    | false => (k, q) :: delM t id

theorem setM_mem {m : Mem} {id : Nat} {r : Res} {p : Nat × Res} (h : p ∈ setM m id r) : p = (id, r) ∨ (p ∈ m ∧ p.1 ≠ id) := by
  induction m with
  | nil => cases h
  | cons q t ih =>
    obtain ⟨k, q⟩ := q
    unfold setM at h
    split at h
    · rename_i hk
      have hk' : k = id := Nat.eq_of_beq_eq_true hk
      rcases List.mem_cons.1 h with rfl | h
      · exact .inl (by rw [hk'])
      · exact (ih h).imp (fun h => h) (fun h => ⟨List.mem_cons_of_mem _ h.1, h.2⟩)
    · rename_i hk
      have hk' : k ≠ id := fun e => by subst e; simp at hk
      rcases List.mem_cons.1 h with rfl | h
      · exact .inr ⟨List.mem_cons_self, hk'⟩
      · exact (ih h).imp (fun h => h) (fun h => ⟨List.mem_cons_of_mem _ h.1, h.2⟩)

theorem delM_mem {m : Mem} {id : Nat} {p : Nat × Res} (h : p ∈ delM m id) : p ∈ m ∧ p.1 ≠ id := by
  induction m with
  | nil => cases h
  | cons q t ih =>
    obtain ⟨k, q⟩ := q
    unfold delM at h
    split at h
    · exact ⟨List.mem_cons_of_mem _ (ih h).1, (ih h).2⟩
    · rename_i hk
      have hk' : k ≠ id := fun e => by subst e; simp at hk
      rcases List.mem_cons.1 h with rfl | h
      · exact ⟨List.mem_cons_self, hk'⟩
      · exact ⟨List.mem_cons_of_mem _ (ih h).1, (ih h).2⟩

/-- What an operation that writes own memory has come to. -/
def Wrote (e : Env) (B : Nat) (w : World) (id : Nat) (val : AV) (m' : Mem) (v : Value) (w' : World) : Prop :=
  ∃ e', Below B w w' ∧ Step e e' w w' ∧ EnvOk e' B w' ∧ Rep e' w' val v ∧ MemOk e' m' w' ∧ (∀ k, e'.live k → e.live k ∨ k = id) ∧ (∀ b, e'.ro b → e.ro b)

/-- As Wrote; all memory that is as F says. -/
def Wrote' (e : Env) (B : Nat) (w : World) (_id : Nat) (val : AV) (F : Nat → Res → Prop) (v : Value) (w' : World) : Prop :=
  ∃ e', Below B w w' ∧ Step e e' w w' ∧ EnvOk e' B w' ∧ Rep e' w' val v ∧ (∀ k r, F k r → Holds e' w' k r) ∧ (∀ k, e'.live k → e.live k ∨ k = _id) ∧ (∀ b, e'.ro b → e.ro b)

/-- One of two values, cell by cell, numbers under the test. -/
def mergeAV (c : Bool) : AV → AV → AV
  | .x (.int k a), .x (.int k' b) => match decide (k = k') with
    | true => .x (.int k (if c then a else b))
    | false => .top
  | .x (.bool a), .x (.bool b) => .x (.bool (if c then a else b))
  | a, b => match c with
    | true => a
    | false => b

theorem mergeAV_rep {e : Env} {w : World} {c : Bool} {a b : AV} {v : Value} (h : Rep e w (if c then a else b) v) : Rep e w (mergeAV c a b) v := by
  unfold mergeAV
  split
  · rename_i k a' k' b'
    split
    · rename_i hk
      have hk' : k = k' := of_decide_eq_true hk
      subst hk'
      cases c <;> simpa using h
    · exact .top v
  · cases c <;> simpa using h
  · cases c <;> simpa using h

theorem mergeAV_idf {c : Bool} {a b : AV} (ha : Idf a) (hb : Idf b) : Idf (mergeAV c a b) := by
  unfold mergeAV
  split
  · split
    · exact .x _
    · exact .top
  · exact .x _
  · cases c
    · exact hb
    · exact ha

def mergeL (c : Bool) : List AV → List AV → List AV
  | a :: l, b :: l' => mergeAV c a b :: mergeL c l l'
  | [], l' => match c with
    | true => []
    | false => l'
  | l, [] => match c with
    | true => l
    | false => []

theorem mergeL_get {c : Bool} : ∀ (l l' : List AV) (j : Nat) (a : AV), l.length = l'.length → (mergeL c l l')[j]? = some a → ∃ x y, l[j]? = some x ∧ l'[j]? = some y ∧ a = mergeAV c x y
  | [], [], j, a, _, h => by cases c <;> simp [mergeL] at h
  | x :: l, y :: l', 0, a, _, h => by simp [mergeL] at h; exact ⟨x, y, rfl, rfl, h.symm⟩
  | x :: l, y :: l', j + 1, a, hl, h => by simp only [mergeL, List.getElem?_cons_succ] at h ⊢; exact mergeL_get l l' j a (by simpa using hl) h
  | [], _ :: _, _, _, hl, _ => by simp at hl
  | _ :: _, [], _, _, hl, _ => by simp at hl

theorem mergeL_length {c : Bool} : ∀ (l l' : List AV), l.length = l'.length → (mergeL c l l').length = l.length
  | [], [], _ => by cases c <;> rfl
  | x :: l, y :: l', hl => by simp [mergeL, mergeL_length l l' (by simpa using hl)]
  | [], _ :: _, hl => by simp at hl
  | _ :: _, [], hl => by simp at hl

section
variable {P : Program}

def opStore (P : Program) (m : Mem) (t : TypeId) (x v : AV) : Option (List Prop × Mem) :=
  match v.cellsOf with
  | some cs => match P.info? t with
    | some i => match Nat.beq i.size cs.length && cs.all AV.one with
      | true => match x with
        | .ptr id off => match getM m id with
          | some (.cells T l) => match Nat.ble (off + cs.length) l.length with
            | true => some ([], setM m id (.cells T (splice off cs l)))
            | false => none
          | _ => none
        | .elt id sz p j => match getM m id with
          | some (.row T sz' n f) => match Nat.beq sz sz' && cs.all AV.idf && Nat.ble (j + cs.length) sz with
            | true => some ([p < n], setM m id (.row T sz n (fun k => mergeL (decide (k = p)) (splice j cs (f k)) (f k))))
            | false => none
          | _ => none
        | _ => none
      | false => none
    | none => none
  | none => none

theorem splice_length : ∀ (cs : List AV) (off : Nat) (cells : List AV), (splice off cs cells).length = cells.length
  | [], _, _ => rfl
  | c :: cs, off, cells => by simp [splice, splice_length cs]

/-- A write into one block of the call's own. -/
theorem step_write {e : Env} {B g id : Nat} {w w' : World} (hE : EnvOk e B w) (hown : e.own g = some id) (hsz : w'.heap.size = w.heap.size) (hoth : ∀ b, b ≠ g → w'.heap[b]? = w.heap[b]?) : Step e e w w' :=
  ⟨fun b _ hr => ⟨hr, hoth b (fun he => by subst he; rw [(hE.apart b hr).1] at hown; cases hown)⟩, fun _ h => ⟨h, rfl, rfl⟩, by omega⟩

theorem holds_write {e : Env} {B g id : Nat} {w w' : World} (hE : EnvOk e B w) (hown : e.own g = some id) (hsz : w'.heap.size = w.heap.size) (hoth : ∀ b, b ≠ g → w'.heap[b]? = w.heap[b]?) {k : Nat} {r : Res} (hne : k ≠ id) (h : Holds e w k r) : Holds e w' k r := by
  have st := step_write hE hown hsz hoth
  cases r with
  | cells T l =>
    obtain ⟨h1, h2, vs, h3, h4⟩ := h
    refine ⟨h1, h2, vs, ?_, h4.step st⟩
    rw [hoth _ (fun he => hne (by rw [he, hown] at h2; exact (Option.some.inj h2).symm))]
    exact h3
  | row T sz n f =>
    obtain ⟨h1, h2, hf, xs, h3, h4⟩ := h
    refine ⟨h1, h2, hf, xs, ⟨h3.1, h3.2.imp (fun h => h) ?_⟩, fun i j a v hi ha hv => (h4 i j a v hi ha hv).step st⟩
    rintro ⟨g', cap, cur, hv, hg, hh, rest⟩
    refine ⟨g', cap, cur, hv, hg, ?_, rest⟩
    rw [hoth g' (fun he => hne (by have := h2 g' (by rw [hv]; rfl); rw [he, hown] at this; exact (Option.some.inj this).symm))]
    exact hh
  | memo h f =>
    obtain ⟨h1, h2, es, c, h3, h4⟩ := h
    refine ⟨h1, h2, es, c, ?_, h4⟩
    rw [hoth _ (fun he => hne (by rw [he, hown] at h2; exact (Option.some.inj h2).symm))]
    exact h3

theorem envOk_write {e : Env} {B : Nat} {w w' : World} (hE : EnvOk e B w) (hsz : w'.heap.size = w.heap.size) : EnvOk e B w' := ⟨fun b h => by rw [hsz]; exact hE.apart b h, fun b k h => by rw [hsz]; exact hE.owned b k h⟩

theorem below_setRow {B g : Nat} (w : World) (cs : Array Value) (hB : B ≤ g) : Below B w (w.setRow g cs) :=
  ⟨rfl, rfl, rfl, by simp, fun k hk => setRow_other w g k cs (by omega)⟩

/-- The list behind a store of cells. -/
theorem splice_list {e : Env} {w : World} {l cs : List AV} {vs us : List Value} (off : Nat) (hl : RepL e w l vs) (hc : RepL e w cs us) (hle : off + cs.length ≤ l.length) :
    RepL e w (splice off cs l) (vs.take off ++ us ++ vs.drop (off + us.length)) := by
  induction cs generalizing off l vs us with
  | nil => cases hc.nil_inv; simpa [splice] using hl
  | cons c cs ih =>
    obtain ⟨u, us', rfl, hu, hus⟩ := hc.cons_inv
    have hlen := hl.1
    have := ih (l := l.set off c) (vs := vs.set off u) (us := us') (off + 1) (hl.set hu off) hus (by simp at hle ⊢; omega)
    simp only [splice]
    have e1 : (vs.set off u).take (off + 1) ++ us' ++ (vs.set off u).drop (off + 1 + us'.length) = vs.take off ++ (u :: us') ++ vs.drop (off + (u :: us').length) := by
      have hoff : off < vs.length := by simp at hle; omega
      rw [List.take_succ_eq_append_getElem (by simpa using hoff), List.take_set_of_le (Nat.le_refl _), List.drop_set_of_lt (by omega)]
      simp [Nat.add_assoc, Nat.add_comm 1]
    rw [← e1]
    exact this

theorem opStore_sound {e : Env} {B : Nat} {w : World} {m m' : Mem} {t : TypeId} {x y : AV} {vx vy : Value} {ns : List Prop} (h : opStore P m t x y = some (ns, m')) (hn : ∀ p ∈ ns, p)
    (hE : EnvOk e B w) (hm : MemOk e m w) (rx : Rep e w x vx) (ry : Rep e w y vy) : ∃ w', (Instr.storeAt t vx vy).run P w = .ok () w' ∧ ∀ (id : Nat) (v : Value), Wrote e B w id .top m' v w' := by
  unfold opStore at h
  split at h
  · rename_i cs hcs
    have hrep := cellsOf_rep hcs ry
    split at h
    · rename_i i hi
      split at h
      · rename_i hb
        simp only [Bool.and_eq_true] at hb
        have hsz : i.size = cs.length := Nat.eq_of_beq_eq_true hb.1
        have hone : ∀ u ∈ vy.cells.toList, u.oneCell' = true := by
          intro u hu
          obtain ⟨q, hq⟩ := List.mem_iff_getElem?.1 hu
          have hlt : q < cs.length := by rw [hrep.1]; exact (List.getElem?_eq_some_iff.1 hq).1
          exact one_rep (List.all_eq_true.1 hb.2 _ (List.getElem_mem hlt)) (hrep.2 q _ u (List.getElem?_eq_getElem hlt) hq)
        have hlen : vy.cells.size = i.size := by rw [hsz, hrep.1]; simp
        split at h
        · rename_i k off
          split at h
          · rename_i T l hg
            split at h
            · rename_i hle
              have hle := Nat.le_of_ble_eq_true hle
              cases h
              obtain ⟨h1, h2, vs, h3, h4⟩ := hm _ (getM_mem hg)
              dsimp only at h1 h2 h3
              cases rx with
              | ptr _ _ hl =>
                have hfit : off + 0 + vy.cells.toList.length ≤ vs.toArray.size := by rw [← hrep.1]; simp [← h4.1]; omega
                have hst := run_storeCells_at P (e.blk k) off T vy.cells.toList 0 vs.toArray w h3 hfit hone
                simp only [Nat.add_zero] at hst
                have hrun : (Instr.storeAt t (.pointer (some ⟨e.blk k, off, none⟩)) vy).run P w = .ok () (w.setRow (e.blk k) (vs.take off ++ vy.cells.toList ++ vs.drop (off + vy.cells.toList.length)).toArray) := by
                  simp only [Instr.storeAt, Instr.sureAddr, storeVar, sizeOf, typeInfo, Sem.run_bind, Sem.run_pure, Result.andThen_ok, run_program, hi, hlen, ne_eq, not_true_eq_false, if_false]
                  exact hst
                refine ⟨_, hrun, fun id v => ?_⟩
                have hoth : ∀ b, b ≠ e.blk k → (w.setRow (e.blk k) (vs.take off ++ vy.cells.toList ++ vs.drop (off + vy.cells.toList.length)).toArray).heap[b]? = w.heap[b]? := fun b hb => setRow_other w _ b _ hb
                have st := step_write (w' := w.setRow (e.blk k) (vs.take off ++ vy.cells.toList ++ vs.drop (off + vy.cells.toList.length)).toArray) hE h2 (by simp) hoth
                refine ⟨e, below_setRow w _ (hE.owned _ _ h2).1, st, envOk_write hE (by simp), .top v, ?_, fun _ h => .inl h, fun _ h => h⟩
                intro p hp
                rcases setM_mem hp with rfl | ⟨hp, hne⟩
                · refine ⟨h1, h2, _, setRow_heap w _ _ _ T _ h3, (splice_list off h4 hrep hle).step st⟩
                · exact holds_write hE h2 (by simp) hoth hne (hm p hp)
            · cases h
          · cases h
        · rename_i k sz p j
          split at h
          · rename_i T sz' n f hg
            split at h
            · rename_i hb2
              simp only [Bool.and_eq_true] at hb2
              obtain ⟨⟨hb3, hidf⟩, hb4⟩ := hb2
              have hs' : sz = sz' := Nat.eq_of_beq_eq_true hb3
              subst hs'
              have hle := Nat.le_of_ble_eq_true hb4
              cases h
              have hp : p < n := hn _ (by simp)
              obtain ⟨h1, h2, hf, xs, hx, hrep2⟩ := hm _ (getM_mem hg)
              dsimp only at h1 h2 hx
              cases rx with
              | elt _ _ _ _ b n' cap hl hv =>
                rcases hx.2 with ⟨hv0, hn0⟩ | ⟨g, cap', cur, hv0, _, hgg, hnc, hcm, hcs', htake⟩
                · omega
                · have hvv := hv0
                  rw [hv] at hvv
                  obtain ⟨rfl, rfl, rfl⟩ : b = g ∧ n' = n ∧ cap = cap' := by simpa using hvv
                  have hown : e.own b = some k := h2 b (by rw [hv]; rfl)
                  have hpl : p * sz + sz ≤ n' * sz := by
                    have := Nat.mul_le_mul_right sz (Nat.succ_le_of_lt hp)
                    rwa [Nat.succ_mul] at this
                  have hnc' : n' * sz ≤ cap * sz := Nat.mul_le_mul_right sz hnc
                  have hfit : p * sz + j + 0 + vy.cells.toList.length ≤ cur.size := by rw [← hrep.1, hcs']; omega
                  have hst := run_storeCells_at P b (p * sz + j) T vy.cells.toList 0 cur w hgg hfit hone
                  simp only [Nat.add_zero] at hst
                  generalize hcur' : (cur.toList.take (p * sz + j) ++ vy.cells.toList ++ cur.toList.drop (p * sz + j + vy.cells.toList.length)) = cur' at hst
                  have hrun : (Instr.storeAt t (.pointer (some ⟨b, p * sz + j, none⟩)) vy).run P w = .ok () (w.setRow b cur'.toArray) := by
                    simp only [Instr.storeAt, Instr.sureAddr, storeVar, sizeOf, typeInfo, Sem.run_bind, Sem.run_pure, Result.andThen_ok, run_program, hi, hlen, ne_eq, not_true_eq_false, if_false]
                    exact hst
                  refine ⟨_, hrun, fun id v => ?_⟩
                  have hoth : ∀ q, q ≠ b → (w.setRow b cur'.toArray).heap[q]? = w.heap[q]? := fun q hq => setRow_other w _ q _ hq
                  have st := step_write (w' := w.setRow b cur'.toArray) hE hown (by simp) hoth
                  have hidf' := idf_all hrep hidf
                  have hclen : cur'.length = cur.size := by
                    have hcl : cur.toList.length = cur.size := by simp
                    rw [← hcur']
                    simp only [List.length_append, List.length_take, List.length_drop, hcl]
                    omega
                  refine ⟨e, below_setRow w _ (hE.owned _ _ hown).1, st, envOk_write hE (by simp), .top v, ?_, fun _ h => .inl h, fun _ h => h⟩
                  intro q hq
                  rcases setM_mem hq with rfl | ⟨hq, hne⟩
                  · have hsp : ∀ l : List AV, (splice j cs l).length = l.length := fun l => splice_length cs j l
                    have hspi : ∀ (cs : List AV) (j : Nat) (l : List AV), (∀ a ∈ cs, Idf a) → (∀ a ∈ l, Idf a) → ∀ a ∈ splice j cs l, Idf a := by
                      intro cs
                      induction cs with
                      | nil => intro j l _ hl' a ha; exact hl' a ha
                      | cons c cs ih =>
                        intro j l hc hl' a ha
                        refine ih (j + 1) (l.set j c) (fun a ha => hc a (List.mem_cons_of_mem _ ha)) (fun a ha => ?_) a ha
                        rcases List.mem_or_eq_of_mem_set ha with h | h
                        · exact hl' a h
                        · subst h; exact hc _ List.mem_cons_self
                    refine ⟨h1, h2, ?_, cur'.take (n' * sz), ⟨?_, .inr ⟨b, _, cur'.toArray, hv, Nat.zero_le _, setRow_heap w _ _ _ T _ hgg, hnc, hcm, by simp [hclen, hcs'], rfl⟩⟩, ?_⟩
                    · intro i' hi'
                      refine ⟨by rw [mergeL_length _ _ (hsp _), hsp]; exact (hf i' hi').1, fun a ha => ?_⟩
                      obtain ⟨q, hq⟩ := List.mem_iff_getElem?.1 ha
                      obtain ⟨x, y, hx', hy', rfl⟩ := mergeL_get _ _ _ _ (hsp _) hq
                      exact mergeAV_idf (hspi cs j (f i') hidf' (hf i' hi').2 x (List.mem_of_getElem? hx')) ((hf i' hi').2 y (List.mem_of_getElem? hy'))
                    · rw [List.length_take, hclen, hcs']; omega
                    · intro i' j' a u hi' ha hu
                      obtain ⟨x, y, hx', hy', rfl⟩ := mergeL_get _ _ _ _ (hsp _) ha
                      have hj' : j' < sz := by rw [← (hf i' hi').1]; exact (List.getElem?_eq_some_iff.1 hy').1
                      have hil : i' * sz + sz ≤ n' * sz := by
                        have := Nat.mul_le_mul_right sz (Nat.succ_le_of_lt hi')
                        rwa [Nat.succ_mul] at this
                      rw [List.getElem?_take] at hu
                      split at hu
                      · apply mergeAV_rep
                        by_cases hip : i' = p
                        · subst hip
                          rw [if_pos (by simp)]
                          -- the cells of the element, old and new
                          have hR : RepL e w (f i') ((xs.drop (i' * sz)).take sz) := by
                            refine ⟨by rw [(hf i' hi').1, List.length_take, List.length_drop, hx.1]; omega, fun q a v ha hv' => ?_⟩
                            rw [List.getElem?_take] at hv'
                            split at hv'
                            · rw [List.getElem?_drop] at hv'; exact hrep2 i' q a v hi' ha hv'
                            · cases hv'
                          have hS := splice_list j hR hrep (by rw [(hf i' hi').1]; exact hle)
                          obtain ⟨u', hu', hru⟩ := hS.get hx'
                          have : u' = u := by
                            have e2 : cur'[i' * sz + j']? = some u' := by
                              rw [← hu', ← hcur']
                              have hcl : cur.toList.length = cur.size := by simp
                              have hus : vy.cells.toList.length = cs.length := hrep.1.symm
                              have hxs : ∀ q, q < n' * sz → xs[q]? = cur.toList[q]? := by
                                intro q hq; rw [← htake, List.getElem?_take, if_pos hq]
                              simp only [List.getElem?_append, List.length_append, List.length_take, List.length_drop, List.getElem?_take, List.getElem?_drop, hcl, hx.1, hus, hcs']
                              by_cases c1 : j' < j
                              · rw [if_pos (by omega), if_pos (by omega), if_pos (by omega), if_pos (by omega), if_pos (by omega), if_pos (by omega), if_pos (by omega), hxs _ (by omega)]
                              · by_cases c2 : j' < j + cs.length
                                · rw [if_pos (by omega), if_neg (by omega), if_pos (by omega), if_neg (by omega)]
                                  congr 1
                                  omega
                                · rw [if_neg (by omega), if_neg (by omega), if_pos (by omega), hxs _ (by omega)]
                                  congr 1
                                  omega
                            rw [e2] at hu; exact Option.some.inj hu
                          subst this
                          exact hru.step st
                        · rw [if_neg (by simpa using hip)]
                          have hxu : xs[i' * sz + j']? = some u := by
                            rw [← hu, ← hcur', ← htake, List.getElem?_take, if_pos (by omega)]
                            have hcl : cur.toList.length = cur.size := by simp
                            have hus : vy.cells.toList.length = cs.length := hrep.1.symm
                            simp only [List.getElem?_append, List.length_append, List.length_take, List.getElem?_take, List.getElem?_drop, hcl, hus, hcs']
                            rcases Nat.lt_or_gt_of_ne hip with hlt | hgt
                            · have : i' * sz + sz ≤ p * sz := by
                                have := Nat.mul_le_mul_right sz (Nat.succ_le_of_lt hlt)
                                rwa [Nat.succ_mul] at this
                              rw [if_pos (by omega), if_pos (by omega), if_pos (by omega)]
                            · have : p * sz + sz ≤ i' * sz := by
                                have := Nat.mul_le_mul_right sz (Nat.succ_le_of_lt hgt)
                                rwa [Nat.succ_mul] at this
                              rw [if_neg (by omega)]
                              congr 1
                              omega
                          exact (hrep2 i' j' y u hi' hy' hxu).step st
                      · cases hu
                  · exact holds_write hE hown (by simp) hoth hne (hm q hq)
            · cases h
          · cases h
        · cases h
      · cases h
    · cases h
  · cases h

/-- A store through a pointer to a block of the call's own: which block it is, and that no other one turns. -/
theorem opStore_ptr {e : Env} {B : Nat} {w : World} {m m' : Mem} {t : TypeId} {k off : Nat} {y : AV} {vx vy : Value} {ns : List Prop} (h : opStore P m t (.ptr k off) y = some (ns, m'))
    (hE : EnvOk e B w) (hm : MemOk e m w) (rx : Rep e w (.ptr k off) vx) (ry : Rep e w y vy) :
    ∃ w', (Instr.storeAt t vx vy).run P w = .ok () w' ∧ e.own (e.blk k) = some k ∧ w'.heap.size = w.heap.size ∧ (∀ b, b ≠ e.blk k → w'.heap[b]? = w.heap[b]?) ∧ Below B w w' ∧ MemOk e m' w' := by
  unfold opStore at h
  split at h
  · rename_i cs hcs
    have hrep := cellsOf_rep hcs ry
    split at h
    · rename_i i hi
      split at h
      · rename_i hb
        simp only [Bool.and_eq_true] at hb
        have hsz : i.size = cs.length := Nat.eq_of_beq_eq_true hb.1
        have hone : ∀ u ∈ vy.cells.toList, u.oneCell' = true := by
          intro u hu
          obtain ⟨q, hq⟩ := List.mem_iff_getElem?.1 hu
          have hlt : q < cs.length := by rw [hrep.1]; exact (List.getElem?_eq_some_iff.1 hq).1
          exact one_rep (List.all_eq_true.1 hb.2 _ (List.getElem_mem hlt)) (hrep.2 q _ u (List.getElem?_eq_getElem hlt) hq)
        have hlen : vy.cells.size = i.size := by rw [hsz, hrep.1]; simp
        simp only at h
        split at h
        · rename_i T l hg
          split at h
          · rename_i hle
            have hle := Nat.le_of_ble_eq_true hle
            cases h
            obtain ⟨h1, h2, vs, h3, h4⟩ := hm _ (getM_mem hg)
            dsimp only at h1 h2 h3
            cases rx with
            | ptr _ _ hl =>
              have hfit : off + 0 + vy.cells.toList.length ≤ vs.toArray.size := by rw [← hrep.1]; simp [← h4.1]; omega
              have hst := run_storeCells_at P (e.blk k) off T vy.cells.toList 0 vs.toArray w h3 hfit hone
              simp only [Nat.add_zero] at hst
              have hrun : (Instr.storeAt t (.pointer (some ⟨e.blk k, off, none⟩)) vy).run P w = .ok () (w.setRow (e.blk k) (vs.take off ++ vy.cells.toList ++ vs.drop (off + vy.cells.toList.length)).toArray) := by
                simp only [Instr.storeAt, Instr.sureAddr, storeVar, sizeOf, typeInfo, Sem.run_bind, Sem.run_pure, Result.andThen_ok, run_program, hi, hlen, ne_eq, not_true_eq_false, if_false]
                exact hst
              have hoth : ∀ b, b ≠ e.blk k → (w.setRow (e.blk k) (vs.take off ++ vy.cells.toList ++ vs.drop (off + vy.cells.toList.length)).toArray).heap[b]? = w.heap[b]? := fun b hb => setRow_other w _ b _ hb
              have st := step_write (w' := w.setRow (e.blk k) (vs.take off ++ vy.cells.toList ++ vs.drop (off + vy.cells.toList.length)).toArray) hE h2 (by simp) hoth
              refine ⟨_, hrun, h2, by simp, hoth, below_setRow w _ (hE.owned _ _ h2).1, ?_⟩
              intro p hp
              rcases setM_mem hp with rfl | ⟨hp, hne⟩
              · refine ⟨h1, h2, _, setRow_heap w _ _ _ T _ h3, (splice_list off h4 hrep hle).step st⟩
              · exact holds_write hE h2 (by simp) hoth hne (hm p hp)
          · cases h
        · cases h
      · cases h
    · cases h
  · cases h

/-- A source or a base of an append: how many elements, and which. -/
def rowOf (m : Mem) (el sz : Nat) : AV → Option (Nat × (Nat → List AV))
  | .row id => match getM m id with
    | some (.row T sz' n f) => match Nat.beq T el && Nat.beq sz sz' with
      | true => some (n, f)
      | false => none
    | _ => none
  | .x (.slice none 0 0) => some (0, fun _ => [])
  | _ => none

def srcOf (m : Mem) (sz : Nat) : AV → Option (Nat × (Nat → List AV))
  | .row id => match getM m id with
    | some (.row _ sz' n f) => match Nat.beq sz sz' with
      | true => some (n, f)
      | false => none
    | _ => none
  | .lst sz' n f => match Nat.beq sz sz' with
    | true => some (n, f)
    | false => none
  | .x (.slice none 0 0) => some (0, fun _ => [])
  | _ => none

def catF (n : Nat) (f g : Nat → List AV) (i : Nat) : List AV := mergeL (decide (i < n)) (f i) (g (i - n))

def dropRow (m : Mem) : AV → Mem
  | .row id => delM m id
  | _ => m

def opAppend (P : Program) (id : Nat) (m : Mem) (t : TypeId) (s x : AV) : Option (List Prop × AV × Mem) :=
  match P.underlying t with
  | some (.slice el) => match P.info? el with
    | some ie => match ie.zero with
      | some z => match Nat.beq z.cells.size ie.size && Nat.ble 1 ie.size && Nat.ble 1 ie.bytes with
        | true => match rowOf m el ie.size s, srcOf m ie.size x with
          | some (n1, f1), some (n2, f2) => some ([(n1 + n2) * ie.bytes ≤ 140737488355328, ∀ i, i < n2 → ∀ a ∈ f2 i, AV.one a = true], .row id, (id, .row el ie.size (n1 + n2) (catF n1 f1 f2)) :: dropRow m s)
          | _, _ => none
        | false => none
      | none => none
    | none => none
  | _ => none

theorem mergeL_pick {c : Bool} : ∀ (l l' : List AV), (mergeL c l l').length = (if c then l else l').length ∧
    ∀ (j : Nat) (a : AV), (mergeL c l l')[j]? = some a → ∃ y, (if c then l else l')[j]? = some y ∧ (∀ (e : Env) (w : World) (v : Value), Rep e w y v → Rep e w a v) ∧ (Idf y → Idf a)
  | [], l' => by
    cases c
    · simp only [mergeL, Bool.false_eq_true, if_false, true_and]; exact fun j a h => ⟨a, h, fun _ _ _ h => h, fun h => h⟩
    · simp [mergeL]
  | x :: l, [] => by
    cases c
    · simp [mergeL]
    · simp only [mergeL, if_true, true_and]; exact fun j a h => ⟨a, h, fun _ _ _ h => h, fun h => h⟩
  | x :: l, y :: l' => by
    have ih := mergeL_pick (c := c) l l'
    refine ⟨?_, fun j a h => ?_⟩
    · cases c <;> simpa [mergeL] using ih.1
    · cases j with
      | zero =>
        simp only [mergeL, List.getElem?_cons_zero, Option.some.injEq] at h
        subst h
        cases c
        · refine ⟨y, by simp, fun e w v h => mergeAV_rep (by simpa using h), fun h => ?_⟩
          unfold mergeAV; split
          · split
            · exact .x _
            · exact .top
          · exact .x _
          · exact h
        · refine ⟨x, by simp, fun e w v h => mergeAV_rep (by simpa using h), fun h => ?_⟩
          unfold mergeAV; split
          · split
            · exact .x _
            · exact .top
          · exact .x _
          · exact h
      | succ j =>
        simp only [mergeL, List.getElem?_cons_succ] at h
        obtain ⟨z, h1, h2, h3⟩ := ih.2 j a h
        exact ⟨z, by cases c <;> simpa using h1, h2, h3⟩

/-- What 'rowOf' gives of a base. -/
theorem rowOf_rep {e : Env} {w : World} {m : Mem} {el sz n : Nat} {f : Nat → List AV} {s : AV} {v : Value} (h : rowOf m el sz s = some (n, f)) (hm : MemOk e m w) (r : Rep e w s v) :
    (∀ i, i < n → (f i).length = sz ∧ ∀ a ∈ f i, Idf a) ∧ (∀ b, v.ownBlock = some b → ∃ id, s = .row id ∧ e.own b = some id) ∧
      ∃ xs : List Value, w.ownsRow 0 el sz v n xs ∧ ∀ (i j : Nat) (a : AV) (u : Value), i < n → (f i)[j]? = some a → xs[i * sz + j]? = some u → Rep e w a u := by
  unfold rowOf at h
  split at h
  · rename_i id
    split at h
    · rename_i T sz' n' f' hg
      split at h
      · rename_i hb
        simp only [Bool.and_eq_true] at hb
        have h1 : T = el := Nat.eq_of_beq_eq_true hb.1
        have h2 : sz = sz' := Nat.eq_of_beq_eq_true hb.2
        subst h1; subst h2
        simp only [Option.some.injEq, Prod.mk.injEq] at h
        obtain ⟨rfl, rfl⟩ := h
        obtain ⟨_, hown, hf, xs, hx, hrep⟩ := hm _ (getM_mem hg)
        cases r with
        | row _ a n c hl hv =>
          dsimp only at hown hx
          rw [hv] at hown hx
          exact ⟨hf, fun b hb => ⟨id, rfl, hown b hb⟩, xs, hx, hrep⟩
      · cases h
    · cases h
  · simp only [Option.some.injEq, Prod.mk.injEq] at h
    obtain ⟨rfl, rfl⟩ := h
    cases r.x_inv
    exact ⟨fun i hi => by omega, fun b hb => by simp [Value.ownBlock] at hb, [], World.ownsRow_nil w 0 el sz, fun i j a u hi => by omega⟩
  · cases h

/-- What 'srcOf' gives of a source. -/
theorem srcOf_rep {e : Env} {w : World} {m : Mem} {sz n : Nat} {f : Nat → List AV} {x : AV} {v : Value} (h : srcOf m sz x = some (n, f)) (hm : MemOk e m w) (r : Rep e w x v) :
    (∀ i, i < n → (f i).length = sz ∧ ∀ a ∈ f i, Idf a) ∧ ((v = .slice none 0 0 ∧ n = 0) ∨ ∃ (ad : Addr) (c : Nat) (us : List Value), v = .slice (some ad) n c ∧ us.length = n * sz ∧ (∀ j u, us[j]? = some u → w.cell? (ad.add j) = some u) ∧
      ∀ (i j : Nat) (a : AV) (u : Value), i < n → (f i)[j]? = some a → us[i * sz + j]? = some u → Rep e w a u) := by
  unfold srcOf at h
  split at h
  · rename_i id
    split at h
    · rename_i T sz' n' f' hg
      split at h
      · rename_i hb
        have h2 : sz = sz' := Nat.eq_of_beq_eq_true hb
        subst h2
        simp only [Option.some.injEq, Prod.mk.injEq] at h
        obtain ⟨rfl, rfl⟩ := h
        obtain ⟨_, hown, hf, xs, hx, hrep⟩ := hm _ (getM_mem hg)
        cases r with
        | row _ a n c hl hv =>
          dsimp only at hown hx
          rw [hv] at hx
          refine ⟨hf, ?_⟩
          rcases hx.2 with ⟨hv0, hn0⟩ | ⟨g, cap, cur, hv0, _⟩
          · exact .inl ⟨hv0, hn0⟩
          · refine .inr ⟨⟨g, 0, none⟩, cap, xs, hv0, hx.1, fun j u hu => hx.cells (by rw [hv0]; rfl) j u hu, hrep⟩
      · cases h
    · cases h
  · rename_i sz' n' f'
    split at h
    · rename_i hb
      have h2 : sz = sz' := Nat.eq_of_beq_eq_true hb
      subst h2
      simp only [Option.some.injEq, Prod.mk.injEq] at h
      obtain ⟨rfl, rfl⟩ := h
      cases r with
      | lstNil sz f => exact ⟨fun i hi => by omega, .inl ⟨rfl, rfl⟩⟩
      | lst sz n f b o cap g h1 h2 hid h3 h4 h5 h6 h7 =>
        refine ⟨fun i hi => ⟨h6 i hi, hid i hi⟩, .inr ⟨⟨b, o, none⟩, cap, (List.range (n' * sz)).map (fun q => g (q / sz) (q % sz)), rfl, by simp, ?_, ?_⟩⟩
        · intro j u hu
          simp only [List.getElem?_map, Option.map_eq_some_iff] at hu
          obtain ⟨q, hq, rfl⟩ := hu
          obtain ⟨hq1, hq2⟩ := List.getElem?_eq_some_iff.1 hq
          simp at hq1 hq2
          subst hq2
          have hsz : 0 < sz := by
            rcases Nat.eq_zero_or_pos sz with h0 | h0
            · subst h0; simp at hq1
            · exact h0
          have hd : j / sz < n' := (Nat.div_lt_iff_lt_mul hsz).2 hq1
          have := h5 (j / sz) (j % sz) hd (Nat.mod_lt _ hsz)
          rw [addrAdd, ← this]
          congr 2
          have := Nat.div_add_mod j sz
          rw [Nat.mul_comm] at this
          omega
        · intro i j a u hi ha hu
          have hj : j < sz := by rw [← h6 i hi]; exact (List.getElem?_eq_some_iff.1 ha).1
          simp only [List.getElem?_map, Option.map_eq_some_iff] at hu
          obtain ⟨q, hq, rfl⟩ := hu
          obtain ⟨hq1, hq2⟩ := List.getElem?_eq_some_iff.1 hq
          simp at hq1 hq2
          subst hq2
          have e1 : (i * sz + j) / sz = i := by
            rw [Nat.mul_comm, Nat.mul_add_div (by omega), Nat.div_eq_of_lt hj, Nat.add_zero]
          have e2 : (i * sz + j) % sz = j := by
            rw [Nat.mul_comm, Nat.mul_add_mod, Nat.mod_eq_of_lt hj]
          rw [e1, e2]
          exact h7 i j a hi ha
    · cases h
  · simp only [Option.some.injEq, Prod.mk.injEq] at h
    obtain ⟨rfl, rfl⟩ := h
    cases r.x_inv
    exact ⟨fun i hi => by omega, .inl ⟨rfl, rfl⟩⟩
  · cases h

end
end Go.Sx
