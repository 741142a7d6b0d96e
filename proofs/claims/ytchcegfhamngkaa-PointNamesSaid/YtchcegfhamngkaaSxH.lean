/- What a caller lends to a callee is read only for the callee; contracts; an operation as a whole. -/
import Derived.Test.YtchcegfhamngkaaSxG
namespace Go.Sx
open Go Go.RowKit

/-- The call's own memory, seen as memory that nobody writes. -/
def viewA (m : Mem) : Nat → AV → AV
  | 0, a => match a with
    | .lit b => .lit b
    | .x v => .x v
    | .ro l => .ro l
    | .lst a b c => .lst a b c
    | _ => .top
  | d + 1, a => match a with
    | .ptr id off => match getM m id with
      | some (.cells _ l) => match Nat.ble off l.length with
        | true => .ro ((l.drop off).map (viewA m d))
        | false => .top
      | _ => .top
    | .row id => match getM m id with
      | some (.row _ sz n f) => .lst sz n f
      | _ => .top
    | .agg l => .agg (l.map (viewA m d))
    | .tup l => .tup (l.map (viewA m d))
    | .fn f l l' => .fn f (l.map (viewA m d)) (l'.map (viewA m d))
    | .elt _ _ _ _ => .top
    | .mp _ => .top
    | a => a

def Env.view (e : Env) : Env := { e with ro := fun b => e.ro b ∨ ∃ id, e.own b = some id, own := fun _ => none }

theorem Step.view {e : Env} (w : World) : Step e e.view w w := ⟨fun _ _ h => ⟨.inl h, rfl⟩, fun _ h => ⟨h, rfl, rfl⟩, Nat.le_refl _⟩

theorem RepL.map {e e' : Env} {w : World} {l : List AV} {vs : List Value} (g : AV → AV) (hg : ∀ a v, Rep e w a v → Rep e' w (g a) v) (h : RepL e w l vs) : RepL e' w (l.map g) vs := by
  refine ⟨by simp [h.1], fun i a v ha hv => ?_⟩
  rw [List.getElem?_map, Option.map_eq_some_iff] at ha
  obtain ⟨a', ha', rfl⟩ := ha
  exact hg _ _ (h.2 i a' v ha' hv)

theorem idf_map {g : AV → AV} {e : Env} {w : World} (hg : ∀ a v, Rep e w a v → Idf (g a)) {l : List AV} {vs : List Value} (h : RepL e w l vs) : ∀ a ∈ l.map g, Idf a := by
  intro a ha
  obtain ⟨b, hb, rfl⟩ := List.mem_map.1 ha
  obtain ⟨i, hi⟩ := List.mem_iff_getElem?.1 hb
  obtain ⟨v, hv, r⟩ := h.get hi
  exact hg b v r

theorem viewA_idf {e : Env} {w : World} {m : Mem} (hm : MemOk e m w) : ∀ (d : Nat) (a : AV) (v : Value), Rep e w a v → Idf (viewA m d a)
  | 0, a, v, h => by
    cases h with
    | lit b => exact .lit b
    | x v => exact .x v
    | ro l vs b o h1 h2 h3 h4 h5 h6 => exact .ro l h3
    | lstNil sz f => exact .lst sz 0 f (fun i hi => by omega)
    | lst sz n f b o cap g h1 h2 h3 h4 h5 h6 h7 h8 => exact .lst sz n f h3
    | _ => exact .top
  | d + 1, a, v, h => by
    have ih := viewA_idf hm d
    cases h with
    | top v => exact .top
    | lit b => exact .lit b
    | x v => exact .x v
    | agg l vs h1 h2 => exact .agg _ (idf_map ih (⟨h1, h2⟩ : RepL e w l vs))
    | tup l vs h1 h2 => exact .tup _ (idf_map ih (⟨h1, h2⟩ : RepL e w l vs))
    | fn f l l' vs vs' h1 h2 h3 h4 => exact .fn f _ _ (idf_map ih (⟨h1, h2⟩ : RepL e w l vs)) (idf_map ih (⟨h3, h4⟩ : RepL e w l' vs'))
    | ptr id off hl =>
      simp only [viewA]
      split
      · rename_i T l hg
        split
        · obtain ⟨_, hown, vs, h3, h4⟩ := hm _ (getM_mem hg)
          exact .ro _ (idf_map ih (h4.drop off))
        · exact .top
      · exact .top
    | row id a n c hl hv =>
      simp only [viewA]
      split
      · rename_i T sz n' f hg
        obtain ⟨_, hown, hf, _⟩ := hm _ (getM_mem hg)
        exact .lst sz n' f (fun i hi => (hf i hi).2)
      · exact .top
    | elt id sz i j b n cap hl hv => exact .top
    | mp id hl => exact .top
    | ro l vs b o h1 h2 h3 h4 h5 h6 => exact .ro l h3
    | lstNil sz f => exact .lst sz 0 f (fun i hi => by omega)
    | lst sz n f b o cap g h1 h2 h3 h4 h5 h6 h7 h8 => exact .lst sz n f h3

theorem viewA_rep {e : Env} {B : Nat} {w : World} {m : Mem} (hE : EnvOk e B w) (hm : MemOk e m w) : ∀ (d : Nat) (a : AV) (v : Value), Rep e w a v → Rep e.view w (viewA m d a) v
  | 0, a, v, h => by
    have := h.step (Step.view w)
    cases a <;> first | exact this | exact .top v
  | d + 1, a, v, h => by
    have ih := viewA_rep hE hm d
    have ihf := viewA_idf hm d
    cases h with
    | top v => exact .top v
    | lit b => exact .lit b
    | x v => exact .x v
    | agg l vs h1 h2 => exact Rep.aggL (RepL.map _ ih ⟨h1, h2⟩)
    | tup l vs h1 h2 => exact Rep.tupL (RepL.map _ ih ⟨h1, h2⟩)
    | fn f l l' vs vs' h1 h2 h3 h4 =>
      have k1 : RepL e w l vs := ⟨h1, h2⟩
      have k2 : RepL e w l' vs' := ⟨h3, h4⟩
      exact .fn f _ _ vs vs' (RepL.map _ ih k1).1 (RepL.map _ ih k1).2 (RepL.map _ ih k2).1 (RepL.map _ ih k2).2
    | ptr id off hl =>
      simp only [viewA]
      split
      · rename_i T l hg
        split
        · obtain ⟨_, hown, vs, h3, h4⟩ := hm _ (getM_mem hg)
          have hlt := (hE.owned _ _ hown).2
          have k := RepL.map (viewA m d) ih (h4.drop off)
          refine .ro _ (vs.drop off) (e.blk id) off (.inr ⟨_, hown⟩) hlt (idf_map ihf (h4.drop off)) k.1 ?_ k.2
          intro j v hj
          rw [List.getElem?_drop] at hj
          simp [World.cell?, h3, hj]
        · exact .top _
      · exact .top _
    | row id a n c hl hv =>
      simp only [viewA]
      split
      · rename_i T sz n' f hg
        obtain ⟨_, hown, hf, xs, hx, hrep⟩ := hm _ (getM_mem hg)
        rcases hx.2 with ⟨hv0, hn0⟩ | ⟨g, cap, cur, hv0, _, hgg, hnc, hcm, hcs, htake⟩
        · rw [hv] at hv0; cases hv0; subst hn0; exact .lstNil _ _
        · have hob : e.own g = some id := hown g (by rw [hv0]; rfl)
          have hlt := (hE.owned _ _ hob).2
          rw [hv] at hv0; cases hv0
          refine .lst sz _ _ g 0 _ (fun i j => xs.getD (i * sz + j) .nilIface) (.inr ⟨_, hob⟩) hlt (fun i hi => (hf i hi).2) hnc hcm ?_ (fun i hi => (hf i hi).1) ?_
          · intro i j hi hj
            have hle : i * sz + sz ≤ n * sz := by
              have := Nat.mul_le_mul_right sz (Nat.succ_le_of_lt hi)
              rwa [Nat.succ_mul] at this
            have hlt2 : i * sz + j < xs.length := by rw [hx.1]; omega
            have hc := hx.cells (g := g) (by rw [hv]; rfl) (i * sz + j) xs[i * sz + j] (List.getElem?_eq_getElem hlt2)
            rw [addrAdd] at hc
            rw [hc]
            simp [List.getD, List.getElem?_eq_getElem hlt2]
          · intro i j a ha' ha
            have hj : j < sz := by rw [← (hf i ha').1]; exact (List.getElem?_eq_some_iff.1 ha).1
            have hle : i * sz + sz ≤ n * sz := by
              have := Nat.mul_le_mul_right sz (Nat.succ_le_of_lt ha')
              rwa [Nat.succ_mul] at this
            have hlt2 : i * sz + j < xs.length := by rw [hx.1]; omega
            have := hrep i j a xs[i * sz + j] ha' ha (List.getElem?_eq_getElem hlt2)
            simp only [List.getD, List.getElem?_eq_getElem hlt2, Option.getD_some]
            exact this.step (Step.view w)
      · exact .top _
    | elt id sz i j b n cap hl hv => exact .top _
    | mp id hl => exact .top _
    | ro l vs b o h1 h2 h3 h4 h5 h6 => exact (Rep.ro (e := e) (w := w) l vs b o h1 h2 h3 h4 h5 h6).step (Step.view w)
    | lstNil sz f => exact .lstNil sz f
    | lst sz n f b o cap g h1 h2 h3 h4 h5 h6 h7 h8 => exact (Rep.lst (e := e) (w := w) sz n f b o cap g h1 h2 h3 h4 h5 h6 h7 h8).step (Step.view w)

/-- What a call leaves: memory between two worlds. -/
def freshE (w w' : World) : Env := { ro := fun b => w.heap.size ≤ b ∧ b < w'.heap.size, own := fun _ => none, live := fun _ => False, blk := fun _ => 0, val := fun _ => .nilIface }

/-- THE CONTRACT of a function at given arguments: it returns, leaves all memory as it was, and what it returns is as said, in new memory. -/
def SoundAt (P : Program) (f : FuncId) (avs : List AV) (res : AV) : Prop :=
  ∀ (e : Env) (w : World) (args : List Value), (∀ b, e.ro b → b < w.heap.size) → (∀ a ∈ avs, Idf a) → RepL e w avs args →
    Calls P f args.toArray w fun en w' => ∃ v, en = .returned v ∧ Below w.heap.size w w' ∧ Rep (freshE w w') w' res v

abbrev Spec := List AV → Option (List Prop × AV)

def Enters (P : Program) (f : FuncId) : Prop := ∃ fn, P.funcs[f]? = some fn ∧ (fn.name == "runtime.NumGoroutine") = false ∧ fn.body.isNone = false

def SoundSpec (P : Program) (f : FuncId) (s : Spec) : Prop := Enters P f ∧ ∀ avs ns res, s avs = some (ns, res) → (∀ p ∈ ns, p) → SoundAt P f avs res

def SoundG (P : Program) (G : List (Nat × Spec)) : Prop := ∀ p ∈ G, SoundSpec P p.1 p.2

theorem SoundG.nil (P : Program) : SoundG P [] := fun _ h => by cases h
theorem SoundG.cons {P : Program} {f : Nat} {s : Spec} {G : List (Nat × Spec)} (h : SoundSpec P f s) (k : SoundG P G) : SoundG P ((f, s) :: G) := by
  intro p hp
  rcases List.mem_cons.1 hp with rfl | hp
  · exact h
  · exact k p hp

def getG : List (Nat × Spec) → Nat → Option Spec
  | [], _ => none
  | (k, s) :: t, f => match Nat.beq k f with
    | true => some s
    | false => getG t f

theorem getG_mem {G : List (Nat × Spec)} {f : Nat} {s : Spec} (h : getG G f = some s) : (f, s) ∈ G := by
  induction G with
  | nil => simp [getG] at h
  | cons p t ih =>
    obtain ⟨k, r'⟩ := p
    unfold getG at h
    split at h
    · rename_i hk
      have : k = f := Nat.eq_of_beq_eq_true hk
      subst this
      cases h
      exact List.mem_cons_self
    · exact List.mem_cons_of_mem _ (ih h)

theorem run_callFunc {P : Program} {f : FuncId} (h : Enters P f) (args : Array Value) (w : World) : (callFunc f args).run P w = .ok (.enter f args) w := by
  obtain ⟨fn, h1, h2, h3⟩ := h
  have h2' : fn.name ≠ "runtime.NumGoroutine" := by simpa using h2
  have h3' : fn.body ≠ none := by intro h; rw [h] at h3; cases h3
  simp [callFunc, h1, h2', h3']

/-- Behind a call: the new blocks are read only. -/
def Env.more (e : Env) (w w' : World) : Env := { e with ro := fun b => e.ro b ∨ (w.heap.size ≤ b ∧ b < w'.heap.size) }

theorem came_call {e : Env} {B : Nat} {w w' : World} {m : Mem} {id : Nat} {res : AV} {v : Value} (hE : EnvOk e B w) (hm : MemOk e m w) (hb : Below w.heap.size w w') (r : Rep (freshE w w') w' res v) : Came e B w m id res none v w' := by
  have st : Step e (e.more w w') w w' := ⟨fun b hlt hr => ⟨.inl hr, hb.block b hlt⟩, fun _ h => ⟨h, rfl, rfl⟩, hb.size⟩
  refine ⟨e.more w w', hb, st, ⟨?_, ?_⟩, fun _ _ h => h, ?_, hm.ext hb st (fun _ _ h => h), fun _ h => .inl h, fun _ h => h.imp (fun h => h) (fun h => h.1)⟩
  · rintro b (hr | ⟨h1, h2⟩)
    · have := hE.apart b hr; have := hb.size; exact ⟨(hE.apart b hr).1, by omega⟩
    · refine ⟨?_, h2⟩
      cases ho : (e.more w w').own b with
      | none => rfl
      | some k => have := (hE.owned b k ho).2; omega
  · intro b k hk
    have := hE.owned b k hk
    have := hb.size
    exact ⟨(hE.owned b k hk).1, by omega⟩
  · have st2 : Step (freshE w w') (e.more w w') w' w' := ⟨fun b _ h => ⟨Or.inr h, rfl⟩, fun _ h => False.elim h, Nat.le_refl _⟩
    exact r.step st2

def opCall (G : List (Nat × Spec)) (m : Mem) (f : AV) (args : List AV) : Option Out :=
  match f with
  | .fn (.func g) first caps => match getG G g with
    | some s => match s ((first ++ args ++ caps).map (viewA m 40)) with
      | some (ns, r) => some (ns, r, none)
      | none => none
    | none => none
  | _ => none

/-- AN OPERATION. -/
def aop (P : Program) (G : List (Nat × Spec)) (id : Nat) (m : Mem) (ρ : Operand → AV) (op : Op) : Option Out :=
  match op with
  | .move x => some ([], ρ x, none)
  | .assign x => some ([], ρ x, none)
  | .pick c a b => match ρ c with
    | .lit true => some ([], ρ a, none)
    | .lit false => some ([], ρ b, none)
    | _ => none
  | .alloc t => match P.info? t with
    | some i => match i.zero with
      | some z => some ([], .ptr id 0, some (.cells t (z.cells.toList.map .x)))
      | none => none
    | none => none
  | .box t x => match (ρ x).cellsOf with
    | some l => some ([], .ptr id 0, some (.cells t l))
    | none => none
  | .build t parts => opBuild P t (parts.toList.map fun p => (p.1, ρ p.2))
  | .buildSlice t len parts => match Nat.beq len 0 && !parts.toList.isEmpty with
    | true => none
    | false => opBuildSlice P id t len (parts.toList.map fun p => (p.1, ρ p.2))
  | .load t x => opLoad P m t (ρ x)
  | .nilCheck x => match ρ x with
    | .ptr i o => some ([], .ptr i o, none)
    | .ro l => some ([], .ro l, none)
    | .elt a b c d => some ([], .elt a b c d, none)
    | .fn (.func f) l l' => some ([], .fn (.func f) l l', none)
    | _ => none
  | .binOp op t x y _ => opBin P op t (ρ x) (ρ y)
  | .unOp op _ x => opUn op (ρ x)
  | .convert s d x => opConv P s d (ρ x)
  | .makeFunc fn first caps => some ([], .fn fn (first.toList.map ρ) (caps.toList.map ρ), none)
  | .slice t x lo hi mx => match mx with
    | none => opSlice P t (ρ x) (lo.map ρ) (hi.map ρ)
    | some _ => none
  | .fieldAddr t x k => opFieldAddr P t k (ρ x)
  | .field t x k => opField P t k (ρ x)
  | .indexAddr t x i => opIndexAddr P m t (ρ x) (ρ i)
  | .makeSlice t l c => opMakeSlice P id t (ρ l) (ρ c)
  | .extract x i => match ρ x with
    | .tup l => pureO l[i]?
    | _ => none
  | .makeMap _ r => match r with
    | none => some ([], .mp id, some (.memo (fun _ => False) (fun v => v)))
    | some _ => none
  | .call c => match c.callee with
    | .builtin b => opBuiltin P m b c.argTypes.toList (c.args.toList.map ρ)
    | .value f => opCall G m (ρ f) (c.args.toList.map ρ)
    | _ => none
  | _ => none

theorem Rep.ptr_inv {e : Env} {w : World} {i o : Nat} {v : Value} (h : Rep e w (.ptr i o) v) : ∃ ad, v = .pointer (some ad) := by cases h; exact ⟨_, rfl⟩
theorem Rep.ro_inv {e : Env} {w : World} {l : List AV} {v : Value} (h : Rep e w (.ro l) v) : ∃ ad, v = .pointer (some ad) := by cases h; exact ⟨_, rfl⟩
theorem Rep.elt_inv {e : Env} {w : World} {i o p q : Nat} {v : Value} (h : Rep e w (.elt i o p q) v) : ∃ ad, v = .pointer (some ad) := by cases h; exact ⟨_, rfl⟩

theorem wp_value {P : Program} {o : Oper} {a : Act} {w w' : World} {v : Value} {K : Act → World → Prop} {Q : Exit → Act → World → Prop} (h : (execOp a.eval o).run P w = .ok (.value v) w') (k : K (a.put o.dst v) w') : o.wp P a w K Q := by
  unfold Oper.wp; rw [h]; exact k

theorem RepL.ops {e : Env} {w : World} {ρ : Operand → AV} {a : Act} (hr : ∀ x, Rep e w (ρ x) (a.eval x)) : ∀ l : List Operand, RepL e w (l.map ρ) (l.map a.eval)
  | [] => RepL.nil e w
  | x :: l => RepL.cons (hr x) (RepL.ops hr l)

theorem parts_rep {e : Env} {w : World} {ρ : Operand → AV} {a : Act} (hr : ∀ x, Rep e w (ρ x) (a.eval x)) (ps : Array (Nat × Operand)) :
    (ps.toList.map fun p => (p.1, ρ p.2)).map (·.1) = (ps.map fun (i, x) => (i, a.eval x)).toList.map (·.1) ∧
    RepL e w ((ps.toList.map fun p => (p.1, ρ p.2)).map (·.2)) ((ps.map fun (i, x) => (i, a.eval x)).toList.map (·.2)) := by
  refine ⟨by simp, ?_⟩
  have := RepL.ops hr (ps.toList.map (·.2))
  simpa [List.map_map, Function.comp_def] using this

theorem aop_sound {P : Program} {G : List (Nat × Spec)} (hG : SoundG P G) {e : Env} {B : Nat} {w : World} {m : Mem} {id : Nat} {ρ : Operand → AV} {o : Oper} {a : Act} {ns : List Prop} {val : AV} {add : Option Res}
    (h : aop P G id m ρ o.op = some (ns, val, add)) (hn : ∀ p ∈ ns, p) (hE : EnvOk e B w) (hB : B ≤ w.heap.size) (hm : MemOk e m w) (hid : ¬ e.live id) (hr : ∀ x, Rep e w (ρ x) (a.eval x))
    {K : Act → World → Prop} {Q : Exit → Act → World → Prop} (hK : ∀ v w', Came e B w m id val add v w' → K (a.put o.dst v) w') : o.wp P a w K Q := by
  obtain ⟨dst, op, type, pos, after, guard⟩ := o
  have val1 : ∀ (s : Sem Value), execOp a.eval ⟨dst, op, type, pos, after, guard⟩ = (do pure (.value (← s))) → (∃ u w', s.run P w = .ok u w' ∧ Came e B w m id val add u w') → Oper.wp P ⟨dst, op, type, pos, after, guard⟩ a w K Q := by
    rintro s hs ⟨u, w', h1, h2⟩
    exact wp_value (v := u) (w' := w') (by rw [hs]; simp [h1]) (hK u w' h2)
  cases op <;> try (simp [aop] at h; done)
  case move x =>
    simp only [aop, Option.some.injEq, Prod.mk.injEq] at h
    obtain ⟨rfl, rfl, rfl⟩ := h
    exact wp_value (v := a.eval x) (w' := w) (by simp [execOp]) (hK _ _ (came_same hE hm (hr x)))
  case assign x =>
    simp only [aop, Option.some.injEq, Prod.mk.injEq] at h
    obtain ⟨rfl, rfl, rfl⟩ := h
    exact wp_value (v := a.eval x) (w' := w) (by simp [execOp]) (hK _ _ (came_same hE hm (hr x)))
  case pick c x y =>
    simp only [aop] at h
    have hc := hr c
    split at h
    · rename_i heq
      rw [heq] at hc
      cases h
      exact wp_value (v := a.eval x) (w' := w) (by simp [execOp, hc.lit_inv, asBool]) (hK _ _ (came_same hE hm (hr x)))
    · rename_i heq
      rw [heq] at hc
      cases h
      exact wp_value (v := a.eval y) (w' := w) (by simp [execOp, hc.lit_inv, asBool]) (hK _ _ (came_same hE hm (hr y)))
    · cases h
  case alloc t =>
    simp only [aop] at h
    split at h
    · rename_i i hi
      split at h
      · rename_i z hz
        cases h
        have hcm := came_new (e := e) (B := B) (w := w) (m := m) (id := id) (T := t) hE hB hm hid (RepL.xs e w z.cells.toList)
        exact wp_value (by simp [execOp, Instr.alloc, zeroValue, typeInfo, hi, hz, newVar, newRow]; exact ⟨rfl, rfl⟩) (hK _ _ (by simpa using hcm))
      · cases h
    · cases h
  case box t x =>
    simp only [aop] at h
    split at h
    · rename_i l hl
      cases h
      have hcm := came_new (e := e) (B := B) (w := w) (m := m) (id := id) (T := t) hE hB hm hid (cellsOf_rep hl (hr x))
      exact wp_value (by simp [execOp, Instr.box, newVar, newRow]; exact ⟨rfl, rfl⟩) (hK _ _ (by simpa using hcm))
    · cases h
  case build t parts =>
    simp only [aop] at h
    obtain ⟨h1, h2⟩ := parts_rep hr parts
    exact val1 _ rfl (opBuild_sound (P := P) h hE hm h1 h2)
  case buildSlice t len parts =>
    simp only [aop] at h
    split at h
    · cases h
    · rename_i hc
      obtain ⟨h1, h2⟩ := parts_rep hr parts
      refine val1 _ rfl (opBuildSlice_sound (P := P) h hE hB hm hid h1 h2 ?_)
      rintro rfl
      have : parts = #[] := by simpa using hc
      subst this
      simp
  case load t x => exact val1 _ rfl (opLoad_sound (P := P) (by simpa only [aop] using h) hn hE hm (hr x))
  case nilCheck x =>
    simp only [aop] at h
    have hx := hr x
    have fin : val = ρ x → add = none → (∃ ad, a.eval x = .pointer (some ad)) ∨ (∃ f l l', a.eval x = .func (.func f) l l') → Oper.wp P ⟨dst, .nilCheck x, type, pos, after, guard⟩ a w K Q := by
      rintro rfl rfl hv
      refine wp_value (v := a.eval x) (w' := w) ?_ (hK _ _ (came_same hE hm (hr x)))
      rcases hv with ⟨ad, hv⟩ | ⟨f, l, l', hv⟩ <;> simp [execOp, hv]
    split at h
    · rename_i heq; rw [heq] at hx; cases h; exact fin heq.symm rfl (.inl hx.ptr_inv)
    · rename_i heq; rw [heq] at hx; cases h; exact fin heq.symm rfl (.inl hx.ro_inv)
    · rename_i heq; rw [heq] at hx; cases h; exact fin heq.symm rfl (.inl hx.elt_inv)
    · rename_i heq; rw [heq] at hx; cases h; obtain ⟨vs, vs', hv, _⟩ := hx.fn_inv; exact fin heq.symm rfl (.inr ⟨_, _, _, hv⟩)
    · cases h
  case binOp op t x y t' => exact val1 _ rfl (opBin_sound (P := P) (by simpa only [aop] using h) hn hE hm (hr x) (hr y))
  case unOp op t x => exact val1 _ rfl (opUn_sound (P := P) (by simpa only [aop] using h) hn hE hm (hr x))
  case convert s d x => exact val1 _ rfl (opConv_sound (P := P) (by simpa only [aop] using h) hn hE hm (hr x))
  case makeMap t r =>
    cases r with
    | some r => simp [aop] at h
    | none =>
      simp only [aop, Option.some.injEq, Prod.mk.injEq] at h
      obtain ⟨rfl, rfl, rfl⟩ := h
      refine wp_value (v := .map (some w.heap.size)) (w' := w.alloc (.map #[] 0)) ?_ (hK _ _ (came_map hE hB hm hid))
      simp [execOp, Instr.makeMap]
  case makeFunc fn first caps =>
    simp only [aop, Option.some.injEq, Prod.mk.injEq] at h
    obtain ⟨rfl, rfl, rfl⟩ := h
    have h1 := RepL.ops hr first.toList
    have h2 := RepL.ops hr caps.toList
    refine wp_value (v := .func fn (first.toList.map a.eval).toArray (caps.toList.map a.eval).toArray) (w' := w) ?_ (hK _ _ (came_same hE hm (.fn fn _ _ _ _ h1.1 h1.2 h2.1 h2.2)))
    have e1 : ∀ l : Array Operand, (l.toList.map a.eval).toArray = l.map a.eval := fun l => Array.ext' (by simp)
    rw [e1, e1]
    simp [execOp, Instr.makeFunc]
  case slice t x lo hi mx =>
    simp only [aop] at h
    split at h
    · refine val1 (Instr.sliceAt t (a.eval x) (lo.map a.eval) (hi.map a.eval) none) rfl (opSlice_sound (P := P) h hn hE hm (hr x) ?_ ?_)
      · cases lo with | none => trivial | some y => exact hr y
      · cases hi with | none => trivial | some y => exact hr y
    · cases h
  case fieldAddr t x k => exact val1 _ rfl (opFieldAddr_sound (P := P) (by simpa only [aop] using h) hE hm (hr x))
  case field t x k => exact val1 _ rfl (opField_sound (P := P) (by simpa only [aop] using h) hE hm (hr x))
  case indexAddr t x i => exact val1 _ rfl (opIndexAddr_sound (P := P) (by simpa only [aop] using h) hn hE hm (hr x) (hr i))
  case makeSlice t l c => exact val1 _ rfl (opMakeSlice_sound (P := P) (by simpa only [aop] using h) hn hE hB hm hid (hr l) (hr c))
  case extract x i =>
    simp only [aop] at h
    have hx := hr x
    split at h
    · rename_i l heq
      rw [heq] at hx
      obtain ⟨k1, rfl, rfl⟩ := pureO_some h
      obtain ⟨vs, hv, hvs⟩ := hx.tup_inv
      obtain ⟨u, hu, hrep⟩ := hvs.get k1
      exact val1 _ rfl ⟨u, w, by simp [Instr.extract, hv, hu], came_same hE hm hrep⟩
    · cases h
  case call c =>
    obtain ⟨callee, args, argTypes⟩ := c
    have ha := RepL.ops hr args.toList
    cases callee with
    | builtin b =>
      simp only [aop] at h
      obtain ⟨u, w', h1, h2⟩ := opBuiltin_sound (P := P) (ty := type) (cs := args.map fun | .const _ => true | _ => false) (id := id) h hE hm ha
      have e1 : (args.toList.map a.eval).toArray = args.map a.eval := Array.ext' (by simp)
      rw [e1] at h1
      exact wp_value (v := u) (w' := w') (by simp only [execOp, resolve, Sem.run_bind, Sem.run_pure, Result.andThen_ok, invoke]; exact h1) (hK u w' h2)
    | value f =>
      simp only [aop] at h
      have hf := hr f
      unfold opCall at h
      split at h
      · rename_i g first caps heq
        rw [heq] at hf
        obtain ⟨vs, vs', hv, r1, r2⟩ := hf.fn_inv
        split at h
        · rename_i s hs
          split at h
          · rename_i ns' r hres
            cases h
            obtain ⟨hent, hsound⟩ := hG _ (getG_mem hs)
            have hall : RepL e w (first ++ args.toList.map ρ ++ caps) (vs ++ args.toList.map a.eval ++ vs') := (r1.append ha).append r2
            have hview := RepL.map (viewA m 40) (viewA_rep hE hm 40) hall
            have hcall := hsound _ _ _ hres hn e.view w _ (by
              rintro b (hb | ⟨k, hb⟩)
              · exact (hE.apart b hb).2
              · exact (hE.owned b k hb).2) (idf_map (viewA_idf hm 40) hall) hview
            unfold Oper.wp
            have hrun : (execOp a.eval ⟨dst, .call ⟨.value f, args, argTypes⟩, type, pos, after, guard⟩).run P w = .ok (.enter g (vs ++ args.toList.map a.eval ++ vs').toArray) w := by
              have e1 : (vs ++ args.toList.map a.eval ++ vs').toArray = vs.toArray ++ args.map a.eval ++ vs'.toArray := Array.ext' (by simp)
              simp only [execOp, resolve, hv, Deferred.ofValue, Sem.run_bind, Sem.run_pure, Result.andThen_ok, invoke]
              rw [e1]
              exact run_callFunc hent _ w
            rw [hrun, Oper.upon_enter]
            refine hcall.mono fun en w' hq => ?_
            obtain ⟨v, rfl, hb, hrep⟩ := hq
            exact hK v w' (came_call hE hm hb hrep)
          · cases h
        · cases h
      · cases h
    | invoke r mm => simp [aop] at h
end Go.Sx
