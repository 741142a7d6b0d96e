/- What a function hands back, read off its tree; a state that says less than another one; loops. -/
import Derived.Test.YtchcegfhamngkaaSxO
namespace Go.Sx
open Go Go.RowKit

/-- Results: values; slices of the call's own. -/
inductive RV where
  | top
  | x (v : Value)
  | agg (l : List RV)
  | tup (l : List RV)
  | lst (sz n : Nat) (f : Nat → List AV)
  | fn (f : Fn)

def toRV (m : Mem) : Nat → AV → RV
  | 0, a => match a with
    | .lit b => .x (.bool b)
    | .x v => .x v
    | _ => .top
  | d + 1, a => match a with
    | .lit b => .x (.bool b)
    | .x v => .x v
    | .agg l => .agg (l.map (toRV m d))
    | .tup l => .tup (l.map (toRV m d))
    | .row id => match getM m id with
      | some (.row _ sz n f) => .lst sz n f
      | _ => .top
    | .fn f l l' => match l, l' with
      | [], [] => .fn f
      | _, _ => .top
    | _ => .top

def isX : AV → Prop
  | .x _ => True
  | _ => False

def valEq : Value → Value → Prop
  | .int k a, .int k' b => k = k' ∧ a = b
  | .bool a, .bool b => a = b
  | u, v => u = v

theorem valEq_eq {u v : Value} (h : valEq u v) : u = v := by
  cases u <;> cases v <;> simp_all [valEq]

def isNil : Value → Prop
  | .slice none 0 0 => True
  | _ => False

theorem isNil_eq {v : Value} (h : isNil v) : v = .slice none 0 0 := by
  unfold isNil at h
  split at h
  · rfl
  · exact h.elim

mutual
/-- That a result is as the contract says. -/
def fitP : RV → AV → Prop
  | .top, res => match res with
    | .top => True
    | _ => False
  | .x u, res => match res with
    | .top => True
    | .x v => valEq u v
    | .lst _ n _ => isNil u ∧ n = 0
    | _ => False
  | .agg l, res => match res with
    | .top => True
    | .agg l' => fitL l l'
    | _ => False
  | .tup l, res => match res with
    | .top => True
    | .tup l' => fitL l l'
    | _ => False
  | .lst sz n f, res => match res with
    | .top => True
    | .lst sz' n' f' => sz = sz' ∧ n = n' ∧ ∀ i, i < n' → f i = f' i ∧ ∀ a ∈ f' i, isX a
    | _ => False
  | .fn f, res => match res with
    | .top => True
    | .fn g [] [] => f = g
    | _ => False
def fitL : List RV → List AV → Prop
  | [], l' => match l' with
    | [] => True
    | _ :: _ => False
  | r :: l, l' => match l' with
    | a :: l' => fitP r a ∧ fitL l l'
    | [] => False
end

theorem fitL_get : ∀ {l : List RV} {l' : List AV}, fitL l l' → l.length = l'.length ∧ ∀ (i : Nat) (r : RV) (a : AV), l[i]? = some r → l'[i]? = some a → fitP r a
  | [], [], _ => ⟨rfl, fun i r a h => by simp at h⟩
  | r :: l, a :: l', h => by
    unfold fitL at h
    obtain ⟨h1, h2⟩ := fitL_get h.2
    refine ⟨by simp [h1], fun i r' a' hr ha => ?_⟩
    cases i with
    | zero => simp at hr ha; subst hr; subst ha; exact h.1
    | succ i => simp at hr ha; exact h2 i r' a' hr ha
  | [], _ :: _, h => by simp [fitL] at h
  | _ :: _, [], h => by simp [fitL] at h

theorem isX_x {a : AV} (h : isX a) : ∃ v, a = .x v := by
  cases a <;> first | exact ⟨_, rfl⟩ | exact h.elim

theorem fitP_x {m : Mem} {a : AV} {u : Value} {res : AV} (h : fitP (.x u) res) (ha : ∀ v, u = v → Fits m a (.x v)) (hn : u = .slice none 0 0 → ∀ sz f, Fits m a (.lst sz 0 f)) : Fits m a res := by
  cases res with
  | top => exact .top a
  | x v => exact ha v (valEq_eq h)
  | lst sz n f => obtain ⟨h1, h2⟩ := h; subst h2; exact hn (isNil_eq h1) sz f
  | _ => exact h.elim

theorem fitP_fits {m : Mem} : ∀ (d : Nat) (a res : AV), fitP (toRV m d a) res → Fits m a res
  | 0, a, res, h => by
    cases a with
    | lit b => exact fitP_x h (fun v hv => by subst hv; exact .litx b) (fun hu => by cases hu)
    | x v => exact fitP_x h (fun u hu => by subst hu; exact .x v) (fun hu sz f => by subst hu; exact .nil sz f)
    | _ => cases res <;> first | exact .top _ | exact h.elim
  | d + 1, a, res, h => by
    have ih := fitP_fits (m := m) d
    cases a with
    | lit b => exact fitP_x h (fun v hv => by subst hv; exact .litx b) (fun hu => by cases hu)
    | x v => exact fitP_x h (fun u hu => by subst hu; exact .x v) (fun hu sz f => by subst hu; exact .nil sz f)
    | agg l =>
      cases res with
      | top => exact .top _
      | agg l' =>
        obtain ⟨h1, h2⟩ := fitL_get (show fitL (l.map (toRV m d)) l' from h)
        exact .agg l l' (by simpa using h1) (fun i a b ha hb => ih a b (h2 i _ b (by simp [ha]) hb))
      | _ => exact h.elim
    | tup l =>
      cases res with
      | top => exact .top _
      | tup l' =>
        obtain ⟨h1, h2⟩ := fitL_get (show fitL (l.map (toRV m d)) l' from h)
        exact .tup l l' (by simpa using h1) (fun i a b ha hb => ih a b (h2 i _ b (by simp [ha]) hb))
      | _ => exact h.elim
    | row id =>
      simp only [toRV] at h
      split at h
      · rename_i T sz n f hg
        cases res with
        | top => exact .top _
        | lst sz' n' f' =>
          obtain ⟨rfl, rfl, h3⟩ := h
          exact .row id T sz n f f' hg (fun i hi => (h3 i hi).1) (fun i hi a ha => isX_x ((h3 i hi).2 a ha))
        | _ => exact h.elim
      · cases res <;> first | exact .top _ | exact h.elim
    | fn f l l' =>
      simp only [toRV] at h
      split at h
      · unfold fitP at h
        split at h
        · exact .top _
        · subst h; exact .fn0 _
        · exact h.elim
      · cases res <;> first | exact .top _ | exact h.elim
    | _ => cases res <;> first | exact .top _ | exact h.elim

def finT (P : Program) (rs : List ResultVar) (t : CT) : Tree RV := t.bind fun p => match p.1 with
  | .exit _ => .fail
  | _ => match resA P p.2 rs with
    | some r => .leaf (toRV p.2.m 6 r)
    | none => .fail

/-- Summaries for loops that stand in no round. -/
def LSoundN (P : Program) (c : Code) (sp : LSpec) : Prop := ∀ cx : Cx, cx.fun → LSoundC P none cx c sp

theorem LSound.N {P : Program} {c : Code} {sp : LSpec} (h : LSound P c sp) : LSoundN P c sp := fun cx _ => h none cx

theorem endOk_fin {P : Program} {fn : Func} {res : AV} {t : CT} (h : (finT P fn.results.toList t).sat (fun r => fitP r res)) : t.sat (EndOk P fn res) := by
  refine Tree.sat_mono ?_ (Tree.sat_bind h)
  rintro ⟨x, s⟩ hs
  cases x with
  | exit i => exact hs.elim
  | normal =>
    simp only at hs
    split at hs
    · rename_i r hr; exact ⟨trivial, r, hr, fitP_fits 6 r res hs⟩
    · exact hs.elim
  | ret =>
    simp only at hs
    split at hs
    · rename_i r hr; exact ⟨trivial, r, hr, fitP_fits 6 r res hs⟩
    · exact hs.elim

/-- A FUNCTION: its contract, from the tree of its results. -/
theorem soundAt_fin {P : Program} {G : List (Nat × Spec)} {L : List LSpec} {f : FuncId} {fn : Func} {c : Code} {avs : List AV} {res : AV} {t : Tree RV} (hG : SoundG P G) (hmix : P.follows .mixedOrders = true) (hf : P.funcs[f]? = some fn) (hb : fn.body = some c)
    (hL : ∀ j cj, loopAt c j = some cj → ∀ sp, L[j]? = some sp → LSound P cj sp) (ht : finT P fn.results.toList (codeT P G L c 0 (startS fn avs)) = t) (h : t.sat (fun r => fitP r res)) : SoundAt P f avs res := by
  subst ht
  exact soundAt_of hG hmix hf hb hL (endOk_fin h)

/-- The same, with more that may be called, and loops over functions. -/
theorem soundAt_finX {P : Program} {G : List (Nat × Spec)} {X : Ext} {L : List LSpec} {f : FuncId} {fn : Func} {c : Code} {avs : List AV} {res : AV} {t : Tree RV} (hG : SoundG P G) (hX : ∀ cx, SoundX P X cx) (hmix : P.follows .mixedOrders = true) (hf : P.funcs[f]? = some fn) (hb : fn.body = some c)
    (hL : ∀ j cj, loopAt c j = some cj → ∀ sp, L[j]? = some sp → LSoundN P cj sp) (ht : finT P fn.results.toList (codeX P G X L c 0 (startS fn avs)) = t) (h : t.sat (fun r => fitP r res)) : SoundAt P f avs res := by
  subst ht
  exact soundAt_ofX hG hX hmix hf hb hL (endOk_fin h)

theorem noLoops {P : Program} {c : Code} : ∀ j cj, loopAt c j = some cj → ∀ sp, ([] : List LSpec)[j]? = some sp → LSound P cj sp := fun j cj _ sp hsp => by simp at hsp
theorem noLoopsS {S : Code → LSpec → Prop} {c : Code} : ∀ j cj, loopAt c j = some cj → ∀ sp, ([] : List LSpec)[j]? = some sp → S cj sp := fun j cj _ sp hsp => by simp at hsp

/-- Does a value name own memory below a number alone? -/
def belowB (N : Nat) : Nat → AV → Bool
  | 0, a => a.idf
  | d + 1, a => match a with
    | .ptr id _ => Nat.blt id N
    | .row id => Nat.blt id N
    | .elt id _ _ _ => Nat.blt id N
    | .mp id => Nat.blt id N
    | .agg l => l.all (belowB N d)
    | .tup l => l.all (belowB N d)
    | .fn _ l l' => l.all (belowB N d) && l'.all (belowB N d)
    | a => a.idf

def Env.kill (e : Env) (N : Nat) : Env := { e with live := fun k => e.live k ∧ k < N }

theorem rep_kill {e : Env} {w : World} {N : Nat} : ∀ (d : Nat) (a : AV) (v : Value), belowB N d a = true → Rep e w a v → Rep (e.kill N) w a v
  | 0, a, v, h, r => Rep.idf (e := e) (e' := e.kill N) (fun _ h => h) r (idf_of r h)
  | d + 1, a, v, h, r => by
    have ih := rep_kill (e := e) (w := w) (N := N) d
    have lt : ∀ id, Nat.blt id N = true → id < N := fun id hb => by rw [Nat.blt_eq] at hb; exact hb
    cases r with
    | ptr id off hl => exact .ptr (e := e.kill N) id off ⟨hl, lt id h⟩
    | row id a n c hl hv => exact .row (e := e.kill N) id a n c ⟨hl, lt id h⟩ hv
    | elt id sz i j b n cap hl hv => exact .elt (e := e.kill N) id sz i j b n cap ⟨hl, lt id h⟩ hv
    | mp id hl => exact .mp (e := e.kill N) id ⟨hl, lt id h⟩
    | agg l vs h1 h2 => exact .agg l vs h1 (fun i a v ha hv => ih a v (List.all_eq_true.1 h a (List.mem_of_getElem? ha)) (h2 i a v ha hv))
    | tup l vs h1 h2 => exact .tup l vs h1 (fun i a v ha hv => ih a v (List.all_eq_true.1 h a (List.mem_of_getElem? ha)) (h2 i a v ha hv))
    | fn f l l' vs vs' h1 h2 h3 h4 =>
      simp only [belowB, Bool.and_eq_true] at h
      exact .fn f l l' vs vs' h1 (fun i a v ha hv => ih a v (List.all_eq_true.1 h.1 a (List.mem_of_getElem? ha)) (h2 i a v ha hv)) h3 (fun i a v ha hv => ih a v (List.all_eq_true.1 h.2 a (List.mem_of_getElem? ha)) (h4 i a v ha hv))
    | top v => exact .top v
    | lit b => exact .lit b
    | x v => exact .x v
    | ro l vs b o h1 h2 h3 h4 h5 h6 => exact Rep.idf (e := e) (e' := e.kill N) (fun _ h => h) (.ro l vs b o h1 h2 h3 h4 h5 h6) (.ro l h3)
    | lstNil sz f => exact .lstNil sz f
    | lst sz n f b o cap g h1 h2 h3 h4 h5 h6 h7 h8 => exact Rep.idf (e := e) (e' := e.kill N) (fun _ h => h) (.lst sz n f b o cap g h1 h2 h3 h4 h5 h6 h7 h8) (.lst sz n f h3)

/-- That a list of values says no more than another one. -/
def neqs : List AV → List AV → List Prop
  | a :: l, b :: l' => match b with
    | .top => neqs l l'
    | .x (.int k y) => match a with
      | .x (.int k' x) => match decide (k = k') with
        | true => (x = y) :: neqs l l'
        | false => [False]
      | _ => [False]
    | b => (a = b) :: neqs l l'
  | [], [] => []
  | _, _ => [False]

theorem neqs_rep {e : Env} {w : World} : ∀ {l l' : List AV} {vs : List Value}, (∀ p ∈ neqs l l', p) → RepL e w l vs → RepL e w l' vs
  | [], [], vs, _, r => r
  | a :: l, b :: l', vs, h, r => by
    obtain ⟨v, vs', rfl, hv, hvs⟩ := r.cons_inv
    unfold neqs at h
    split at h
    · exact RepL.cons (.top v) (neqs_rep h hvs)
    · split at h
      · split at h
        · rename_i hk
          have hk' := of_decide_eq_true hk
          subst hk'
          have : _ = _ := h _ List.mem_cons_self
          subst this
          exact RepL.cons hv (neqs_rep (fun p hp => h p (List.mem_cons_of_mem _ hp)) hvs)
        · exact (h False (by simp)).elim
      · exact (h False (by simp)).elim
    · have : _ = _ := h _ List.mem_cons_self
      subst this
      exact RepL.cons hv (neqs_rep (fun p hp => h p (List.mem_cons_of_mem _ hp)) hvs)
  | [], _ :: _, _, h, _ => (h False (by simp [neqs])).elim
  | _ :: _, [], _, h, _ => (h False (by simp [neqs])).elim

def resEq : Res → Res → List Prop
  | .cells T l, .cells T' l' => match Nat.beq T T' with
    | true => neqs l l'
    | false => [False]
  | .row T sz n f, .row T' sz' n' f' => match Nat.beq T T' && Nat.beq sz sz' with
    | true => [n = n', ∀ i, i < n' → f i = f' i]
    | false => [False]
  | .memo h f, .memo h' f' => [∀ k, h k → h' k ∧ f k = f' k]
  | _, _ => [False]

theorem resEq_holds {e : Env} {w : World} {id : Nat} {r r' : Res} (h : ∀ p ∈ resEq r r', p) (k : Holds e w id r) : Holds e w id r' := by
  cases r with
  | cells T l =>
    cases r' with
    | cells T' l' =>
      simp only [resEq] at h
      split at h
      · rename_i hb
        have : T = T' := Nat.eq_of_beq_eq_true hb
        subst this
        obtain ⟨h1, h2, vs, h3, h4⟩ := k
        exact ⟨h1, h2, vs, h3, neqs_rep h h4⟩
      · exact (h False (by simp)).elim
    | row _ _ _ _ => exact (h False (by simp [resEq])).elim
    | memo _ _ => exact (h False (by simp [resEq])).elim
  | memo g f =>
    cases r' with
    | cells _ _ => exact (h False (by simp [resEq])).elim
    | row _ _ _ _ => exact (h False (by simp [resEq])).elim
    | memo g' f' =>
      have hh : ∀ k, g k → g' k ∧ f k = f' k := h _ (by simp [resEq])
      obtain ⟨h1, h2, es, c, h3, h4⟩ := k
      exact ⟨h1, h2, es, c, h3, fun x hx => ⟨(hh _ (h4 x hx).1).1, (h4 x hx).2.trans (hh _ (h4 x hx).1).2⟩⟩
  | row T sz n f =>
    cases r' with
    | memo _ _ => exact (h False (by simp [resEq])).elim
    | cells _ _ => exact (h False (by simp [resEq])).elim
    | row T' sz' n' f' =>
      simp only [resEq] at h
      split at h
      · rename_i hb
        simp only [Bool.and_eq_true] at hb
        have h1 : T = T' := Nat.eq_of_beq_eq_true hb.1
        have h2 : sz = sz' := Nat.eq_of_beq_eq_true hb.2
        subst h1; subst h2
        have h3 : n = n' := h _ (by simp)
        subst h3
        have h4 : ∀ i, i < n → f i = f' i := h _ (by simp)
        obtain ⟨q1, q2, q3, xs, q4, q5⟩ := k
        exact ⟨q1, q2, fun i hi => by rw [← h4 i hi]; exact q3 i hi, xs, q4, fun i j a v hi ha hv => q5 i j a v hi (by rw [h4 i hi]; exact ha) hv⟩
      · exact (h False (by simp)).elim

def memP (sm : Mem) : Mem → List Prop
  | [] => []
  | (id, r) :: t => (match getM sm id with
    | some r' => resEq r' r
    | none => [False]) ++ memP sm t

/-- The state E says no more than s. -/
def svP : List (List AV) → List (List AV) → List Prop
  | [], [] => []
  | a :: l, b :: l' => neqs a b ++ svP l l'
  | _, _ => [False]

def ghP : Option Nat → Option Nat → List Prop
  | none, none => []
  | some a, some b => [a = b]
  | _, _ => [False]

theorem svP_rep {e : Env} {w : World} : ∀ {l l' : List (List AV)} {vs : List (List Value)}, (∀ p ∈ svP l l', p) → RepLL e w l vs → RepLL e w l' vs
  | [], [], _, _, r => r
  | a :: l, b :: l', vs, h, r => by
    cases vs with
    | nil => have := r.1; simp at this
    | cons v vs =>
      obtain ⟨a', l'', he, h1, h2⟩ := r.cons_inv
      cases he
      exact RepLL.cons (neqs_rep (fun p hp => h p (List.mem_append_left _ hp)) h1) (svP_rep (fun p hp => h p (List.mem_append_right _ hp)) h2)
  | [], _ :: _, _, h, _ => (h False (by simp [svP])).elim
  | _ :: _, [], _, h, _ => (h False (by simp [svP])).elim

theorem ghP_eq {a b : Option Nat} (h : ∀ p ∈ ghP a b, p) : a = b := by
  cases a <;> cases b
  · rfl
  · exact (h False (by simp [ghP])).elim
  · exact (h False (by simp [ghP])).elim
  · rename_i x y
    have : x = y := h _ (by simp [ghP])
    rw [this]

def subP (s E : St) : List Prop := neqs s.σ E.σ ++ (memP s.m E.m ++ (svP s.sv E.sv ++ ghP s.gh E.gh))

def resBelow (N : Nat) : Res → Bool
  | .cells _ l => l.all (belowB N 6)
  | .row _ _ _ _ => true
  | .memo _ _ => true

/-- The state names own memory below its own number alone. -/
def okB (E : St) : Bool := E.σ.all (belowB E.nx 6) && (E.m.all (fun p => Nat.blt p.1 E.nx && resBelow E.nx p.2) && E.sv.all (fun l => l.all (belowB E.nx 6)))

theorem memP_holds {e : Env} {w : World} {sm : Mem} (hm : MemOk e sm w) : ∀ {m : Mem}, (∀ p ∈ memP sm m, p) → MemOk e m w
  | [], _ => fun p hp => by cases hp
  | (id, r) :: t, h => by
    intro p hp
    rcases List.mem_cons.1 hp with rfl | hp
    · unfold memP at h
      cases hg : getM sm id with
      | none => rw [hg] at h; exact (h False (by simp)).elim
      | some r' =>
        rw [hg] at h
        exact resEq_holds (fun p hp => h p (List.mem_append_left _ hp)) (hm _ (getM_mem hg))
    · exact memP_holds hm (m := t) (fun q hq => h q (by unfold memP; exact List.mem_append_right _ hq)) p hp

theorem sub_rel {cx : Cx} {s E : St} {a : Act} {w : World} (h : ∀ p ∈ subP s E, p) (hok : okB E = true) (r : Rel cx s a w) : Rel cx E a w := by
  obtain ⟨w0, T, e, hΦ, r⟩ := r
  simp only [okB, Bool.and_eq_true] at hok
  obtain ⟨ok1, ok2, ok3⟩ := hok
  have hσ := neqs_rep (fun p hp => h p (List.mem_append_left _ hp)) r.slots
  have hm := memP_holds r.mem (fun p hp => h p (List.mem_append_right _ (List.mem_append_left _ hp)))
  have hsv := svP_rep (fun p hp => h p (List.mem_append_right _ (List.mem_append_right _ (List.mem_append_left _ hp)))) r.xt.saved
  have hgh := ghP_eq (fun p hp => h p (List.mem_append_right _ (List.mem_append_right _ (List.mem_append_right _ hp))))
  rw [hgh] at hΦ
  refine ⟨w0, T, e.kill E.nx, hΦ, ⟨r.env.apart, r.env.owned⟩, r.below, ?_, fun k hk => hk.2, r.foe, ⟨r.xt.defers, r.xt.kept, ⟨hsv.1, fun i a v ha hv => ⟨(hsv.2 i a v ha hv).1, fun j b u hb hu => rep_kill 6 b u (List.all_eq_true.1 (List.all_eq_true.1 ok3 a (List.mem_of_getElem? ha)) b (List.mem_of_getElem? hb)) ((hsv.2 i a v ha hv).2 j b u hb hu)⟩⟩, r.xt.size⟩, ⟨hσ.1, fun i a v ha hv => rep_kill 6 a v (List.all_eq_true.1 ok1 a (List.mem_of_getElem? ha)) (hσ.2 i a v ha hv)⟩⟩
  intro p hp
  have hk := hm p hp
  have hb := List.all_eq_true.1 ok2 p hp
  simp only [Bool.and_eq_true] at hb
  have hlt : p.1 < E.nx := by have := hb.1; rw [Nat.blt_eq] at this; exact this
  obtain ⟨id, res⟩ := p
  cases res with
  | cells T l =>
    obtain ⟨h1, h2, vs, h3, h4⟩ := hk
    exact ⟨⟨h1, hlt⟩, h2, vs, h3, h4.1, fun i a v ha hv => rep_kill 6 a v (List.all_eq_true.1 hb.2 a (List.mem_of_getElem? ha)) (h4.2 i a v ha hv)⟩
  | memo g f =>
    obtain ⟨h1, h2, es, c, h3, h4⟩ := hk
    exact ⟨⟨h1, hlt⟩, h2, es, c, h3, h4⟩
  | row T sz n f =>
    obtain ⟨h1, h2, h3, xs, h4, h5⟩ := hk
    exact ⟨⟨h1, hlt⟩, h2, h3, xs, h4, fun i j a v hi ha hv => Rep.idf (e := e) (e' := e.kill E.nx) (fun _ h => h) (h5 i j a v hi ha hv) ((h3 i hi).2 a (List.mem_of_getElem? ha))⟩

/-- A loop, in a fence: x stands for what is known at its head. -/
theorem loopIn {F : Fence} {n : Nat} {P : Program} {Q : Exit → Act → World → Prop} {body : Code} {X : Type} (μ : X → Nat) (Inv : X → Act → World → Prop)
    (round : ∀ x a w, Inv x a w → body.wpIn F n P (Exit.then (fun a' w' => ∃ x', μ x' < μ x ∧ Inv x' a' w') Q) a w) {x : X} {a : Act} {w : World} (h : Inv x a w) : (Code.loop body).wpIn F n P Q a w := by
  intro b k cs hro hb hr
  have key : ∀ j x a w, μ x = j → Inv x a w →
      ∃ e a' w', Q e a' w' ∧ ArrivesIn (Machine.fenced P F) P (lone (b.atR a (.code body :: .inLoop body :: k)) cs w) b k cs e a' w' := by
    intro j
    induction j using Nat.strongRecOn with
    | _ j ih =>
      intro x a w hn hI
      obtain ⟨e, a₁, w₁, hq, harr⟩ := round x a w hI b (.inLoop body :: k) cs hro hb hr
      cases e with
      | normal =>
        obtain ⟨x', hlt, hI₁⟩ := hq
        obtain ⟨e₂, a₂, w₂, hq₂, harr₂⟩ := ih (μ x') (hn ▸ hlt) x' a₁ w₁ rfl hI₁
        exact ⟨e₂, a₂, w₂, hq₂, .of_steps (StepsIn.trans harr (.one (fenced_calm hb hr rfl) stepR_inLoop)) harr₂⟩
      | exit id => exact ⟨_, a₁, w₁, hq, .pass (x := .inLoop body) rfl (fun _ _ => .inl (by simp)) harr⟩
      | goto l => exact ⟨_, a₁, w₁, hq, .pass (x := .inLoop body) rfl (fun _ _ => .inl (by simp)) harr⟩
      | ret => exact ⟨_, a₁, w₁, hq, .pass (x := .inLoop body) rfl (fun _ _ => .inl (by simp)) harr⟩
      | panic ch => exact ⟨_, a₁, w₁, hq, .pass (x := .inLoop body) rfl (fun _ _ => .inl (by simp)) harr⟩
      | outgrown => exact ⟨_, a₁, w₁, hq, .pass (x := .inLoop body) rfl (fun _ _ => .inl (by simp)) harr⟩
  obtain ⟨e, a', w', hq, harr⟩ := key _ x a w rfl h
  exact ⟨e, a', w', hq, .of_steps (.one (fenced_calm hb hr rfl) stepR_loop) harr⟩

/-- A loop's summary: from the state E on it comes to the tree t. -/
def sumL (E : St) (t : CT) : LSpec := fun s => some (.needT (subP s E) t)

theorem sumL_soundC {P : Program} {ro : Option Nat} {cx : Cx} {c : Code} {E : St} {t : CT} (hok : okB E = true) (h : ∀ (n : Nat) (Q : AEx × St → Prop), t.sat Q → ∀ (a : Act) (w : World), Rel cx E a w → c.wpIn (fr ro) n P (postOf cx Q) a w) : LSoundC P ro cx c (sumL E t) := by
  intro n s t' ht Q hsat a w r
  simp only [sumL, Option.some.injEq] at ht
  subst ht
  replace hsat := Tree.sat_needT hsat
  exact h n Q hsat.2 a w (sub_rel (allP_mem hsat.1) hok r)

/-- A loop that is gone through so many times at the most. -/
def unrollX (P : Program) (G : List (Nat × Spec)) (X : Ext) (L : List LSpec) (body : Code) : Nat → St → CT
  | 0, _ => .fail
  | k + 1, s => (codeX P G X L body 0 s).bind fun p => match p.1 with
    | .normal => unrollX P G X L body k p.2
    | x => .leaf (x, p.2)

def unrollT (P : Program) (G : List (Nat × Spec)) (L : List LSpec) (body : Code) (n : Nat) (s : St) : CT := unrollX P G {} L body n s

theorem unroll_soundC {P : Program} {G : List (Nat × Spec)} {X : Ext} {L : List LSpec} {ro : Option Nat} {cx : Cx} (hG : SoundG P G) (hX : SoundX P X cx) (hmix : P.follows .mixedOrders = true) {body : Code} (hL : ∀ j cj, loopAt body j = some cj → ∀ sp, L[j]? = some sp → LSoundC P ro cx cj sp) (m : Nat) :
    LSoundC P ro cx (.loop body) (fun s => some (unrollX P G X L body m s)) := by
  intro n s t ht Q hsat a w r
  simp only [Option.some.injEq] at ht
  subst ht
  refine loopIn (X := Nat × St) (fun p => p.1) (fun p a w => (unrollX P G X L body p.1 p.2).sat Q ∧ Rel cx p.2 a w) ?_ (x := (m, s)) ⟨hsat, r⟩
  rintro ⟨k, s⟩ a w ⟨h, hr⟩
  cases k with
  | zero => exact h.elim
  | succ k =>
    refine wpIn_mono (codeX_sound hG hX hmix body 0 s _ a w (fun j cj hj sp hsp => hL j cj hj sp (by simpa using hsp)) (Tree.sat_bind h) hr) ?_
    rintro ex a₁ w₁ ⟨y, s', rfl, hq, hr'⟩
    cases y with
    | normal => exact ⟨(k, s'), Nat.lt_succ_self _, hq, hr'⟩
    | exit id => exact ⟨.exit id, s', rfl, hq, hr'⟩
    | ret => exact ⟨.ret, s', rfl, hq, hr'⟩

theorem unroll_sound {P : Program} {G : List (Nat × Spec)} {L : List LSpec} (hG : SoundG P G) (hmix : P.follows .mixedOrders = true) {body : Code} (hL : ∀ j cj, loopAt body j = some cj → ∀ sp, L[j]? = some sp → LSound P cj sp) (n : Nat) :
    LSound P (.loop body) (fun s => some (unrollT P G L body n s)) := fun ro cx => unroll_soundC hG (SoundX.nil P cx) hmix (fun j cj hj sp hsp => hL j cj hj sp hsp ro cx) n

/-- The body of a loop. -/
def loopBody : Option Code → Code
  | some (.loop c) => c
  | _ => .skip

def bodyOf (f : Func) : Code := match f.body with
  | some c => c
  | none => .skip

theorem one_loop {S : Code → LSpec → Prop} {c : Code} {sp : LSpec} (h : ∀ cj, loopAt c 0 = some cj → S cj sp) : ∀ j cj, loopAt c j = some cj → ∀ s, [sp][j]? = some s → S cj s := by
  intro j cj hj s hs
  cases j with
  | zero => simp at hs; subst hs; exact h cj hj
  | succ j => simp at hs

theorem two_loops {S : Code → LSpec → Prop} {c : Code} {sp sp2 : LSpec} (h : ∀ cj, loopAt c 0 = some cj → S cj sp) (h2 : ∀ cj, loopAt c 1 = some cj → S cj sp2) : ∀ j cj, loopAt c j = some cj → ∀ s, [sp, sp2][j]? = some s → S cj s := by
  intro j cj hj s hs
  match j with
  | 0 => simp at hs; subst hs; exact h cj hj
  | 1 => simp at hs; subst hs; exact h2 cj hj
  | j + 2 => simp at hs

/-- Slots by number; the others unknown. -/
def lookA : List (Nat × AV) → Nat → AV
  | [], _ => .top
  | (k, a) :: t, i => match Nat.beq k i with
    | true => a
    | false => lookA t i

def mkS (n : Nat) (l : List (Nat × AV)) : List AV := (List.range n).map (lookA l)
end Go.Sx
