/- Slices of the call's own that grow in a loop: at the head they bear a fixed number. -/
import Derived.Test.YtchcegfhamngkaaSxR
namespace Go.Sx
open Go Go.RowKit

/-- The row i is called R from here on; what was called R before is forgotten. -/
def renA (i R : Nat) : Nat → AV → AV
  | 0, a => match a with
    | .lit b => .lit b
    | .x v => .x v
    | .ro l => .ro l
    | .lst a b c => .lst a b c
    | _ => .top
  | d + 1, a => match a with
    | .row k => match Nat.beq k i with
      | true => .row R
      | false => match Nat.beq k R with
        | true => .top
        | false => .row k
    | .ptr k o => match Nat.beq k i || Nat.beq k R with
      | true => .top
      | false => .ptr k o
    | .elt k x y z => match Nat.beq k i || Nat.beq k R with
      | true => .top
      | false => .elt k x y z
    | .mp k => match Nat.beq k i || Nat.beq k R with
      | true => .top
      | false => .mp k
    | .agg l => .agg (l.map (renA i R d))
    | .tup l => .tup (l.map (renA i R d))
    | .fn f l l' => .fn f (l.map (renA i R d)) (l'.map (renA i R d))
    | a => a

def Env.ren (e : Env) (i R : Nat) : Env :=
  { ro := e.ro, own := fun b => match e.own b with | some k => if k = i then some R else if k = R then none else some k | none => none,
    live := fun k => (k = R ∧ e.live i) ∨ (e.live k ∧ k ≠ i ∧ k ≠ R), blk := e.blk, val := fun k => if k = R then e.val i else e.val k }

theorem beq_ne {k i : Nat} (h : Nat.beq k i = false) : k ≠ i := by
  rintro rfl
  rw [Nat.beq_refl] at h
  cases h

theorem or_ne {k i R : Nat} (h : (Nat.beq k i || Nat.beq k R) = false) : k ≠ i ∧ k ≠ R := by
  rw [Bool.or_eq_false_iff] at h
  exact ⟨beq_ne h.1, beq_ne h.2⟩

theorem rep_ren {e : Env} {w : World} {i R : Nat} : ∀ (d : Nat) (a : AV) (v : Value), Rep e w a v → Rep (e.ren i R) w (renA i R d a) v
  | 0, a, v, r => by
    cases r with
    | lit b => exact .lit b
    | x v => exact .x v
    | ro l vs b o h1 h2 h3 h4 h5 h6 => exact Rep.idf (e := e) (e' := e.ren i R) (fun _ h => h) (.ro l vs b o h1 h2 h3 h4 h5 h6) (.ro l h3)
    | lstNil sz f => exact .lstNil sz f
    | lst sz n f b o cap g h1 h2 h3 h4 h5 h6 h7 h8 => exact Rep.idf (e := e) (e' := e.ren i R) (fun _ h => h) (.lst sz n f b o cap g h1 h2 h3 h4 h5 h6 h7 h8) (.lst sz n f h3)
    | _ => exact .top _
  | d + 1, a, v, r => by
    have ih := rep_ren (e := e) (w := w) (i := i) (R := R) d
    cases r with
    | top v => exact .top v
    | lit b => exact .lit b
    | x v => exact .x v
    | ptr id off hl =>
      simp only [renA]
      split
      · exact .top _
      · rename_i hb
        exact .ptr (e := e.ren i R) id off (.inr ⟨hl, or_ne hb⟩)
    | row id a n c hl hv =>
      simp only [renA]
      split
      · rename_i hb
        have := Nat.eq_of_beq_eq_true hb
        subst this
        exact .row R a n c (.inl ⟨rfl, hl⟩) (by simp [Env.ren, hv])
      · rename_i hb
        split
        · exact .top _
        · rename_i hb2
          exact .row id a n c (.inr ⟨hl, beq_ne hb, beq_ne hb2⟩) (by simp [Env.ren, beq_ne hb2, hv])
    | elt id sz x y b n cap hl hv =>
      simp only [renA]
      split
      · exact .top _
      · rename_i hb
        exact .elt (e := e.ren i R) id sz x y b n cap (.inr ⟨hl, or_ne hb⟩) (by simp [Env.ren, (or_ne hb).2, hv])
    | mp id hl =>
      simp only [renA]
      split
      · exact .top _
      · rename_i hb
        exact .mp (e := e.ren i R) id (.inr ⟨hl, or_ne hb⟩)
    | agg l vs h1 h2 => exact Rep.aggL (RepL.map _ ih ⟨h1, h2⟩)
    | tup l vs h1 h2 => exact Rep.tupL (RepL.map _ ih ⟨h1, h2⟩)
    | fn f l l' vs vs' h1 h2 h3 h4 =>
      have k1 : RepL e w l vs := ⟨h1, h2⟩
      have k2 : RepL e w l' vs' := ⟨h3, h4⟩
      exact .fn f _ _ vs vs' (RepL.map _ ih k1).1 (RepL.map _ ih k1).2 (RepL.map _ ih k2).1 (RepL.map _ ih k2).2
    | ro l vs b o h1 h2 h3 h4 h5 h6 => exact Rep.idf (e := e) (e' := e.ren i R) (fun _ h => h) (.ro l vs b o h1 h2 h3 h4 h5 h6) (.ro l h3)
    | lstNil sz f => exact .lstNil sz f
    | lst sz n f b o cap g h1 h2 h3 h4 h5 h6 h7 h8 => exact Rep.idf (e := e) (e' := e.ren i R) (fun _ h => h) (.lst sz n f b o cap g h1 h2 h3 h4 h5 h6 h7 h8) (.lst sz n f h3)

def renM (i R : Nat) : Mem → Mem
  | [] => []
  | (k, .row T sz n f) :: t => match Nat.beq k i with
    | true => (R, .row T sz n f) :: renM i R t
    | false => match Nat.beq k R with
      | true => renM i R t
      | false => (k, .row T sz n f) :: renM i R t
  | (k, .cells T l) :: t => match Nat.beq k i || Nat.beq k R with
    | true => renM i R t
    | false => (k, .cells T (l.map (renA i R 6))) :: renM i R t
  | (k, .memo h f) :: t => match Nat.beq k i || Nat.beq k R with
    | true => renM i R t
    | false => (k, .memo h f) :: renM i R t

theorem mem_ren {e : Env} {w : World} {i R : Nat} : ∀ {m : Mem}, MemOk e m w → MemOk (e.ren i R) (renM i R m) w
  | [], _ => fun p hp => by cases hp
  | (k, .row T sz n f) :: t, h => by
    have ih := mem_ren (i := i) (R := R) (m := t) (fun p hp => h p (List.mem_cons_of_mem _ hp))
    obtain ⟨h1, h2, hf, xs, h3, h4⟩ := h _ List.mem_cons_self
    have h4' : ∀ (i' j : Nat) (a : AV) (v : Value), i' < n → (f i')[j]? = some a → xs[i' * sz + j]? = some v → Rep (e.ren i R) w a v :=
      fun i' j a v hi ha hv => Rep.idf (e := e) (e' := e.ren i R) (fun _ h => h) (h4 i' j a v hi ha hv) ((hf i' hi).2 a (List.mem_of_getElem? ha))
    unfold renM
    split
    · rename_i hb
      have := Nat.eq_of_beq_eq_true hb
      subst this
      intro p hp
      rcases List.mem_cons.1 hp with rfl | hp
      · refine ⟨.inl ⟨rfl, h1⟩, fun b hb' => ?_, hf, xs, ?_, h4'⟩
        · simp only [Env.ren, if_true] at hb' ⊢
          rw [h2 b hb']
          simp
        · simp only [Env.ren, if_true]
          exact h3
      · exact ih p hp
    · rename_i hb
      split
      · exact ih
      · rename_i hb2
        intro p hp
        rcases List.mem_cons.1 hp with rfl | hp
        · refine ⟨.inr ⟨h1, beq_ne hb, beq_ne hb2⟩, fun b hb' => ?_, hf, xs, ?_, h4'⟩
          · simp only [Env.ren, beq_ne hb2, if_false] at hb' ⊢
            rw [h2 b hb']
            simp [beq_ne hb, beq_ne hb2]
          · simp only [Env.ren, beq_ne hb2, if_false]
            exact h3
        · exact ih p hp
  | (k, .cells T l) :: t, h => by
    have ih := mem_ren (i := i) (R := R) (m := t) (fun p hp => h p (List.mem_cons_of_mem _ hp))
    obtain ⟨h1, h2, vs, h3, h4⟩ := h _ List.mem_cons_self
    unfold renM
    split
    · exact ih
    · rename_i hb
      obtain ⟨n1, n2⟩ := or_ne hb
      intro p hp
      rcases List.mem_cons.1 hp with rfl | hp
      · refine ⟨.inr ⟨h1, n1, n2⟩, ?_, vs, h3, RepL.map _ (rep_ren 6) h4⟩
        simp only [Env.ren]
        rw [h2]
        simp [n1, n2]
      · exact ih p hp
  | (k, .memo g f) :: t, h => by
    have ih := mem_ren (i := i) (R := R) (m := t) (fun p hp => h p (List.mem_cons_of_mem _ hp))
    obtain ⟨h1, h2, es, c, h3, h4⟩ := h _ List.mem_cons_self
    unfold renM
    split
    · exact ih
    · rename_i hb
      obtain ⟨n1, n2⟩ := or_ne hb
      intro p hp
      rcases List.mem_cons.1 hp with rfl | hp
      · refine ⟨.inr ⟨h1, n1, n2⟩, ?_, es, c, h3, h4⟩
        simp only [Env.ren]
        rw [h2]
        simp [n1, n2]
      · exact ih p hp

def renS (i R : Nat) (s : St) : St := { s with σ := s.σ.map (renA i R 6), m := renM i R s.m, nx := match Nat.blt R s.nx with | true => s.nx | false => R + 1, sv := s.sv.map (·.map (renA i R 6)) }

theorem ren_relE {cx : Cx} {w0 : World} {F : Nat → Prop} {e : Env} {i R : Nat} {s : St} {a : Act} {w : World} (r : RelE cx w0 F e s a w) : RelE cx w0 F (e.ren i R) (renS i R s) a w := by
  refine ⟨⟨fun b hb => ?_, fun b k hk => ?_⟩, r.below, mem_ren r.mem, fun k hk => ?_, r.foe, ⟨r.xt.defers, r.xt.kept, RepLL.map _ (rep_ren 6) r.xt.saved, r.xt.size⟩, RepL.map _ (rep_ren 6) r.slots⟩
  · obtain ⟨h1, h2⟩ := r.env.apart b hb
    exact ⟨by simp [Env.ren, h1], h2⟩
  · simp only [Env.ren] at hk
    cases ho : e.own b with
    | none => rw [ho] at hk; cases hk
    | some j => exact r.env.owned b j ho
  · have hk' : k = R ∨ k < s.nx := by
      rcases hk with ⟨rfl, _⟩ | ⟨h, _⟩
      · exact .inl rfl
      · exact .inr (r.live k h)
    simp only [renS]
    split
    · rename_i hb
      rw [Nat.blt_eq] at hb
      omega
    · rename_i hb
      rw [← Bool.not_eq_true, Nat.blt_eq] at hb
      omega

/-- A place of a state: a slot; a cell of a block of the call's own. -/
inductive Pl where
  | slot (k : Nat)
  | cell (id off : Nat)

def getPl (s : St) : Pl → AV
  | .slot k => s.σ.getD k .top
  | .cell id off => match getM s.m id with
    | some (.cells _ l) => l.getD off .top
    | _ => .top

def setPl (s : St) (p : Pl) (v : AV) : St := match p with
  | .slot k => { s with σ := s.σ.set k v }
  | .cell id off => match getM s.m id with
    | some (.cells T l) => { s with m := setM s.m id (.cells T (l.set off v)) }
    | _ => s

theorem RepL.swap {e : Env} {w : World} {l : List AV} {vs : List Value} {k : Nat} {b : AV} (h : RepL e w l vs) (hb : ∀ v, Rep e w (l.getD k .top) v → vs[k]? = some v → Rep e w b v) : RepL e w (l.set k b) vs := by
  refine ⟨by simp [h.1], fun i a v ha hv => ?_⟩
  rw [List.getElem?_set] at ha
  by_cases hk : k = i
  · subst hk
    simp only [if_true] at ha
    split at ha
    · rename_i hlt
      cases ha
      exact hb v (by simpa [List.getD, List.getElem?_eq_getElem hlt] using h.2 k _ v (List.getElem?_eq_getElem hlt) hv) hv
    · cases ha
  · rw [if_neg hk] at ha
    exact h.2 i a v ha hv

/-- The environment in which the row R is a nil slice. -/
def Env.nil (e : Env) (R : Nat) : Env := { e with live := fun k => k = R ∨ e.live k, val := fun k => if k = R then .slice none 0 0 else e.val k }

theorem Step.nil {e : Env} {w : World} {R : Nat} (h : ¬ e.live R) : Step e (e.nil R) w w := by
  refine ⟨fun _ _ h => ⟨h, rfl⟩, fun k hk => ⟨.inr hk, rfl, ?_⟩, Nat.le_refl _⟩
  have : k ≠ R := fun h' => h (h' ▸ hk)
  simp [Env.nil, this]

/-- A nil slice at a place becomes a row of the call's own, of no elements. -/
def nilS (p : Pl) (R : Nat) (T : TypeId) (sz : Nat) (s : St) : St := match getPl s p with
  | .x (.slice none 0 0) => { s with σ := (setPl s p (.row R)).σ, m := (R, .row T sz 0 (fun _ => [])) :: (setPl s p (.row R)).m }
  | _ => s

theorem nil_relE {cx : Cx} {w0 : World} {F : Nat → Prop} {e : Env} {p : Pl} {R : Nat} {T : TypeId} {sz : Nat} {s : St} {a : Act} {w : World} (hΦ : cx.Φ s.gh F w0) (r : RelE cx w0 F e s a w) (hd : ¬ e.live R) (hR : R < s.nx) : Rel cx (nilS p R T sz s) a w := by
  unfold nilS
  split
  · rename_i hp
    have st : Step e (e.nil R) w w := Step.nil hd
    have hmem : MemOk (e.nil R) s.m w := fun q hq => (r.mem q hq).ext (Below.refl _ _) st (fun _ _ h => h)
    have hrow : Holds (e.nil R) w R (.row T sz 0 (fun _ => [])) := by
      refine ⟨.inl rfl, fun b hb => ?_, fun i hi => by omega, [], ?_, fun i j a v hi => by omega⟩
      · simp [Env.nil, Value.ownBlock] at hb
      · simp only [Env.nil, if_true]
        exact World.ownsRow_nil w 0 T sz
    have hrep : ∀ v, Rep e w (.x (.slice none 0 0)) v → Rep (e.nil R) w (.row R) v := by
      intro v hv
      rw [hv.x_inv]
      exact .row R none 0 0 (.inl rfl) (by simp [Env.nil])
    refine ⟨w0, F, e.nil R, hΦ, ⟨r.env.apart, r.env.owned⟩, r.below, ?_, fun k hk => ?_, r.foe, r.xt.step st, ?_⟩
    · intro q hq
      rcases List.mem_cons.1 hq with rfl | hq
      · exact hrow
      · cases p with
        | slot k => exact hmem q hq
        | cell id off =>
          simp only [setPl] at hq
          split at hq
          · rename_i T' l hg
            rcases setM_mem hq with rfl | ⟨hq, _⟩
            · obtain ⟨h1, h2, vs, h3, h4⟩ := r.mem _ (getM_mem hg)
              obtain ⟨l1, l2, l3⟩ := st.live id h1
              refine ⟨l1, by rw [l2]; exact h2, vs, by rw [l2]; exact h3, ?_⟩
              refine RepL.swap (h4.step st) ?_
              intro v hv hv'
              simp only [getPl, hg] at hp
              have hlt : off < l.length := by
                rcases Nat.lt_or_ge off l.length with h | h
                · exact h
                · rw [List.getD, List.getElem?_eq_none h] at hp; cases hp
              have := h4.2 off _ v (List.getElem?_eq_getElem hlt) hv'
              rw [List.getD, List.getElem?_eq_getElem hlt] at hp
              simp only [Option.getD_some] at hp
              rw [hp] at this
              exact hrep v this
            · exact hmem q hq
          · exact hmem q hq
    · rcases hk with rfl | hk
      · exact hR
      · exact r.live k hk
    · cases p with
      | slot k =>
        simp only [setPl]
        refine RepL.swap (r.slots.step st) ?_
        intro v hv hv'
        simp only [getPl] at hp
        have hlt : k < s.σ.length := by
          rcases Nat.lt_or_ge k s.σ.length with h | h
          · exact h
          · rw [List.getD, List.getElem?_eq_none h] at hp; cases hp
        have := r.slots.2 k _ v (List.getElem?_eq_getElem hlt) hv'
        rw [List.getD, List.getElem?_eq_getElem hlt] at hp
        simp only [Option.getD_some] at hp
        rw [hp] at this
        exact hrep v this
      | cell id off =>
        simp only [setPl]
        split
        · exact r.slots.step st
        · exact r.slots.step st
  · exact ⟨w0, F, e, hΦ, r⟩

/-- What lies at a place bears the number R. -/
def normR (p : Pl) (R : Nat) (T : TypeId) (sz : Nat) (s : St) : St := match getPl s p with
  | .row i => renS i R s
  | .x (.slice none 0 0) => nilS p R T sz (renS s.nx R s)
  | _ => s

theorem norm_rel {cx : Cx} {p : Pl} {R : Nat} {T : TypeId} {sz : Nat} {s : St} {a : Act} {w : World} (r : Rel cx s a w) : Rel cx (normR p R T sz s) a w := by
  obtain ⟨w0, F, e, hΦ, r⟩ := r
  unfold normR
  split
  · exact ⟨w0, F, _, hΦ, ren_relE r⟩
  · refine nil_relE hΦ (ren_relE r) ?_ ?_
    · rintro (⟨_, h⟩ | ⟨_, _, h⟩)
      · exact Nat.lt_irrefl _ (r.live _ h)
      · exact h rfl
    · simp only [renS]
      split
      · rename_i hb
        rw [Nat.blt_eq] at hb
        exact hb
      · exact Nat.lt_succ_self _
  · exact ⟨w0, F, e, hΦ, r⟩

/-- Several places, one behind the other. -/
def normL : List (Pl × Nat × TypeId × Nat) → St → St
  | [], s => s
  | (p, R, T, sz) :: t, s => normL t (normR p R T sz s)

theorem normL_rel {cx : Cx} {a : Act} {w : World} : ∀ {l : List (Pl × Nat × TypeId × Nat)} {s : St}, Rel cx s a w → Rel cx (normL l s) a w
  | [], _, r => r
  | (p, R, T, sz) :: t, s, r => normL_rel (l := t) (s := normR p R T sz s) (norm_rel r)

/-- A summary, its entry being put right first. -/
def normSp (l : List (Pl × Nat × TypeId × Nat)) (sp : LSpec) : LSpec := fun s => sp (normL l s)

theorem normSp_soundC {P : Program} {ro : Option Nat} {cx : Cx} {c : Code} {l : List (Pl × Nat × TypeId × Nat)} {sp : LSpec} (h : LSoundC P ro cx c sp) : LSoundC P ro cx c (normSp l sp) :=
  fun n s t ht Q hQ a w r => h n (normL l s) t ht Q hQ a w (normL_rel r)
theorem normSp_sound {P : Program} {c : Code} {l : List (Pl × Nat × TypeId × Nat)} {sp : LSpec} (h : LSound P c sp) : LSound P c (normSp l sp) := fun ro cx => normSp_soundC (h ro cx)

/-- The end of a round: the next state at the head, or one of the ways out. -/
def endR (N : List (Pl × Nat × TypeId × Nat)) (nxt : St) (out : AEx → Option St) (p : AEx × St) : Tree AEx := match p.1 with
  | .normal => .needT (subP (normL N p.2) nxt) (.leaf .normal)
  | .exit id => match out (.exit id) with
    | some E => .needT (subP (normL N p.2) E) (.leaf (.exit id))
    | none => .fail
  | .ret => match out .ret with
    | some E => .needT (subP (normL N p.2) E) (.leaf .ret)
    | none => .fail

theorem endR_sat {N : List (Pl × Nat × TypeId × Nat)} {t : CT} {nxt : St} {out : AEx → Option St} {R : AEx → Prop} (h : (t.bind (endR N nxt out)).sat R) :
    t.sat (fun p => match p.1 with
      | .normal => R .normal ∧ allP (subP (normL N p.2) nxt)
      | y => ∃ E, out y = some E ∧ R y ∧ allP (subP (normL N p.2) E)) := by
  refine Tree.sat_mono ?_ (Tree.sat_bind h)
  rintro ⟨y, s'⟩ hp
  cases y with
  | normal => exact ⟨(Tree.sat_needT hp).2, (Tree.sat_needT hp).1⟩
  | exit id =>
    dsimp only [endR] at hp ⊢
    split at hp
    · rename_i E hE
      exact ⟨E, hE, (Tree.sat_needT hp).2, (Tree.sat_needT hp).1⟩
    · exact hp.elim
  | ret =>
    dsimp only [endR] at hp ⊢
    split at hp
    · rename_i E hE
      exact ⟨E, hE, (Tree.sat_needT hp).2, (Tree.sat_needT hp).1⟩
    · exact hp.elim

/-- A round, its end being put right. -/
def roundX (P : Program) (G : List (Nat × Spec)) (X : Ext) (L : List LSpec) (N : List (Pl × Nat × TypeId × Nat)) (body : Code) (s nxt : St) (out : AEx → Option St) : Tree AEx := (codeX P G X L body 0 s).bind (endR N nxt out)

def roundN (P : Program) (G : List (Nat × Spec)) (L : List LSpec) (N : List (Pl × Nat × TypeId × Nat)) (body : Code) (s nxt : St) (out : AEx → Option St) : Tree AEx := roundX P G {} L N body s nxt out

/-- A LOOP, by its rounds, with slices that grow. -/
theorem loop_roundsC {P : Program} {G : List (Nat × Spec)} {X : Ext} {L : List LSpec} {ro : Option Nat} {cx : Cx} (N : List (Pl × Nat × TypeId × Nat)) (hG : SoundG P G) (hX : SoundX P X cx) (hmix : P.follows .mixedOrders = true) {body : Code} (hL : ∀ j cj, loopAt body j = some cj → ∀ sp, L[j]? = some sp → LSoundC P ro cx cj sp)
    {V : Type} (inv : V → St) (I : V → Prop) (μ : V → Nat) (out : V → AEx → Option St) {t : CT} {x0 : V} (h0 : I x0)
    (hok : ∀ x, okB (inv x) = true) (hokO : ∀ x y E, out x y = some E → okB E = true)
    (round : ∀ (Q : AEx × St → Prop), t.sat Q → ∀ x, I x → ∃ x', (roundX P G X L N body (inv x) (inv x') (out x)).sat (fun y => match y with
      | .normal => I x' ∧ μ x' < μ x
      | y => ∀ E, out x y = some E → Q (y, E))) : LSoundC P ro cx (.loop body) (normSp N (sumL (inv x0) t)) := by
  refine normSp_soundC (sumL_soundC (hok x0) ?_)
  intro n Q hQ a w r
  refine loopIn μ (fun x a w => I x ∧ Rel cx (inv x) a w) ?_ ⟨h0, r⟩
  rintro x a w ⟨hx, hr⟩
  obtain ⟨x', hround⟩ := round Q hQ x hx
  refine wpIn_mono (codeX_sound hG hX hmix body 0 (inv x) _ a w (fun j cj hj sp hsp => hL j cj hj sp (by simpa using hsp)) (endR_sat hround) hr) ?_
  rintro ex a₁ w₁ ⟨y, s', rfl, hq, hr'⟩
  cases y with
  | normal =>
    obtain ⟨⟨h1, h2⟩, h3⟩ := hq
    exact ⟨x', h2, h1, sub_rel (allP_mem h3) (hok x') (normL_rel hr')⟩
  | exit id =>
    obtain ⟨E, hE, h1, h3⟩ := hq
    exact ⟨.exit id, E, rfl, h1 E hE, sub_rel (allP_mem h3) (hokO x _ E hE) (normL_rel hr')⟩
  | ret =>
    obtain ⟨E, hE, h1, h3⟩ := hq
    exact ⟨.ret, E, rfl, h1 E hE, sub_rel (allP_mem h3) (hokO x _ E hE) (normL_rel hr')⟩

theorem loop_roundsN {P : Program} {G : List (Nat × Spec)} {L : List LSpec} (N : List (Pl × Nat × TypeId × Nat)) (hG : SoundG P G) (hmix : P.follows .mixedOrders = true) {body : Code} (hL : ∀ j cj, loopAt body j = some cj → ∀ sp, L[j]? = some sp → LSound P cj sp)
    {X : Type} (inv : X → St) (I : X → Prop) (μ : X → Nat) (out : X → AEx → Option St) {t : CT} {x0 : X} (h0 : I x0)
    (hok : ∀ x, okB (inv x) = true) (hokO : ∀ x y E, out x y = some E → okB E = true)
    (round : ∀ (Q : AEx × St → Prop), t.sat Q → ∀ x, I x → ∃ x', (roundN P G L N body (inv x) (inv x') (out x)).sat (fun y => match y with
      | .normal => I x' ∧ μ x' < μ x
      | y => ∀ E, out x y = some E → Q (y, E))) : LSound P (.loop body) (normSp N (sumL (inv x0) t)) :=
  fun ro cx => loop_roundsC N hG (SoundX.nil P cx) hmix (fun j cj hj sp hsp => hL j cj hj sp hsp ro cx) inv I μ out h0 hok hokO round
end Go.Sx
