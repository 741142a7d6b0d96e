/- Code, loops by their summaries, and functions. -/
import Derived.Test.YtchcegfhamngkaaSxN
import Derived.Scope
namespace Go.Sx
open Go Go.RowKit

inductive AEx where
  | normal
  | exit (id : Nat)
  | ret

def AEx.ex : AEx → Exit
  | .normal => .normal
  | .exit id => .exit id
  | .ret => .ret

abbrev CT := Tree (AEx × St)

def postOf (cx : Cx) (Q : AEx × St → Prop) : Exit → Act → World → Prop := fun e a w => ∃ x s, e = AEx.ex x ∧ Q (x, s) ∧ Rel cx s a w

/-- The summary of a loop: what it comes to, from a state. -/
abbrev LSpec := St → Option CT

/-- A summary is right, in a round or not, in a run. -/
def LSoundC (P : Program) (ro : Option Nat) (cx : Cx) (c : Code) (sp : LSpec) : Prop := ∀ (n : Nat) (s : St) (t : CT), sp s = some t → ∀ Q : AEx × St → Prop, t.sat Q → ∀ (a : Act) (w : World), Rel cx s a w → c.wpIn (fr ro) n P (postOf cx Q) a w

def LSound (P : Program) (c : Code) (sp : LSpec) : Prop := ∀ (ro : Option Nat) (cx : Cx), LSoundC P ro cx c sp

def nloops : Code → Nat
  | .seq a b => nloops a + nloops b
  | .cond _ a b => nloops a + nloops b
  | .block _ c => nloops c
  | .scope c => nloops c
  | .loop _ => 1
  | .rangeFunc .. => 1
  | _ => 0

def loopAt : Code → Nat → Option Code
  | .seq a b, j => match Nat.blt j (nloops a) with
    | true => loopAt a j
    | false => loopAt b (j - nloops a)
  | .cond _ a b, j => match Nat.blt j (nloops a) with
    | true => loopAt a j
    | false => loopAt b (j - nloops a)
  | .block _ c, j => loopAt c j
  | .scope c, j => loopAt c j
  | .loop c, j => match j with
    | 0 => some (.loop c)
    | _ + 1 => none
  | .rangeFunc f ps a b, j => match j with
    | 0 => some (.rangeFunc f ps a b)
    | _ + 1 => none
  | _, _ => none

theorem loopAt_none : ∀ (c : Code) (j : Nat), nloops c ≤ j → loopAt c j = none := by
  intro c
  induction c with
  | seq a b iha ihb =>
    intro j hj
    simp only [nloops] at hj
    unfold loopAt
    have : Nat.blt j (nloops a) = false := by
      rw [Bool.eq_false_iff, ne_eq, Nat.blt_eq]; omega
    rw [this]
    exact ihb _ (by omega)
  | cond t a b iha ihb =>
    intro j hj
    simp only [nloops] at hj
    unfold loopAt
    have : Nat.blt j (nloops a) = false := by
      rw [Bool.eq_false_iff, ne_eq, Nat.blt_eq]; omega
    rw [this]
    exact ihb _ (by omega)
  | block id c ih => intro j hj; exact ih j hj
  | scope c ih => intro j hj; exact ih j hj
  | loop c ih => intro j hj; simp only [nloops] at hj; cases j with | zero => omega | succ j => rfl
  | rangeFunc f ps a b iha ihb => intro j hj; simp only [nloops] at hj; cases j with | zero => omega | succ j => rfl
  | _ => intro j _; rfl

def condS (s : St) : Operand → Bool → St
  | .tmp t, b => litS s t b
  | _, _ => s

/-- A scope, in a fence. -/
theorem wpIn_scope {F : Fence} {n : Nat} {P : Program} {Q : Exit → Act → World → Prop} {a : Act} {w : World} {c : Code} (h : c.wpIn F n P (Exit.noGoto Q) a w) : (Code.scope c).wpIn F n P Q a w := by
  intro b k cs hro hb hr
  obtain ⟨e, a₁, w₁, hq, harr⟩ := h b (.inScope c :: k) cs hro hb hr
  have s1 : step P (lone (b.atR a (.code (.scope c) :: k)) cs w) = .next (lone (b.atR a (.code c :: .inScope c :: k)) cs w) := step_lone_go (by simp [stepG, stepG.exec, Frame.atR])
  have s2 : step P (lone (b.atR a₁ (.inScope c :: k)) cs w₁) = .next (lone (b.atR a₁ k) cs w₁) := step_lone_go (by simp [stepG, stepG.exec, Frame.atR])
  have h0 : (lone (b.atR a (.code (.scope c) :: k)) cs w).fenced P F := fenced_calm hb hr rfl
  cases e with
  | normal => exact ⟨.normal, a₁, w₁, hq, .head h0 s1 (StepsIn.trans harr (.one (fenced_calm hb hr rfl) s2))⟩
  | exit id =>
    have hx : exitTo id (.inScope c :: k) = exitTo id k := by simp [exitTo]
    exact ⟨.exit id, a₁, w₁, hq, fun k' hk => .head h0 s1 (harr.1 k' (by rw [hx]; exact hk)), fun hr' hk => let ⟨k₁, h1, h2⟩ := harr.2 hr' (by rw [hx]; exact hk); ⟨k₁, h1, .head h0 s1 h2⟩⟩
  | goto l => exact hq.elim
  | ret => exact ⟨_, a₁, w₁, hq, .of_steps (.one h0 s1) harr⟩
  | panic ch => exact ⟨_, a₁, w₁, hq, .of_steps (.one h0 s1) harr⟩
  | outgrown => exact ⟨_, a₁, w₁, hq, .of_steps (.one h0 s1) harr⟩

def codeX (P : Program) (G : List (Nat × Spec)) (X : Ext) (L : List LSpec) : Code → Nat → St → CT
  | .skip, _, s => .leaf (.normal, s)
  | .label _, _, s => .leaf (.normal, s)
  | .region _ ops draw, _, s => match draw with
    | true => (regD P G X ops.toList s).bind fun s => .leaf (.normal, s)
    | false => (regT P G X ops.toList ops.toList s).bind fun s => .leaf (.normal, s)
  | .seq a b, off, s => (codeX P G X L a off s).bind fun p => match p.1 with
    | .normal => codeX P G X L b (off + nloops a) p.2
    | x => .leaf (x, p.2)
  | .cond c a b, off, s => match rho s.σ c with
    | .lit true => codeX P G X L a off s
    | .lit false => codeX P G X L b (off + nloops a) s
    | .x (.bool t) => .branch t (codeX P G X L a off (condS s c true)) (codeX P G X L b (off + nloops a) (condS s c false))
    | _ => .fail
  | .block id c, off, s => (codeX P G X L c off s).bind fun p => match p.1 with
    | .exit i => match Nat.beq i id with
      | true => .leaf (.normal, p.2)
      | false => .leaf (.exit i, p.2)
    | x => .leaf (x, p.2)
  | .scope c, off, s => codeX P G X L c off s
  | .loop _, off, s => match L[off]? with
    | some f => match f s with
      | some t => t
      | none => .fail
    | none => .fail
  | .rangeFunc _ _ _ _, off, s => match L[off]? with
    | some f => match f s with
      | some t => t
      | none => .fail
    | none => .fail
  | .exit id, _, s => .leaf (.exit id, s)
  | .ret, _, s => .leaf (.ret, s)
  | .goto _, _, _ => .fail
  | .refuse _, _, _ => .fail

theorem cond_rel {cx : Cx} {s : St} {a : Act} {w : World} {c : Operand} {b d : Bool} (r : Rel cx s a w) (hc : rho s.σ c = .x (.bool b)) (hb : b = d) : Rel cx (condS s c d) a w := by
  obtain ⟨w0, T, e, hΦ, r⟩ := r
  cases c with
  | tmp t => exact ⟨w0, T, e, hΦ, lit_rel r hc hb⟩
  | _ => exact ⟨w0, T, e, hΦ, r⟩

theorem codeX_sound {P : Program} {G : List (Nat × Spec)} {X : Ext} {cx : Cx} {L : List LSpec} (hG : SoundG P G) (hX : SoundX P X cx) (hmix : P.follows .mixedOrders = true) {ro : Option Nat} {n : Nat} :
    ∀ (c : Code) (off : Nat) (s : St) (Q : AEx × St → Prop) (a : Act) (w : World), (∀ j cj, loopAt c j = some cj → ∀ sp, L[off + j]? = some sp → LSoundC P ro cx cj sp) → (codeX P G X L c off s).sat Q → Rel cx s a w → c.wpIn (fr ro) n P (postOf cx Q) a w := by
  intro c
  induction c with
  | skip => intro off s Q a w _ h r; exact wpIn_skip ⟨.normal, s, rfl, h, r⟩
  | label l => intro off s Q a w _ h r; exact wpIn_label ⟨.normal, s, rfl, h, r⟩
  | region id ops draw =>
    intro off s Q a w _ h r
    unfold codeX at h
    cases draw with
    | true => exact regD_sound hG hX hmix (Tree.sat_bind h) r (fun s' a' w' hs hr => ⟨.normal, s', rfl, hs, hr⟩)
    | false =>
      refine wpIn_region ?_
      have := regT_sound hG hX (ro := ro) (n := n) (ops := ops) (Q := postOf cx Q) (R := fun s => Q (.normal, s)) (fun s' a' w' hs hr => ⟨.normal, s', rfl, hs, hr⟩) ops.toList 0 (by simp) s a w (Tree.sat_bind h) r
      rwa [Nat.sub_zero, ← List.range_eq_range'] at this
  | seq x y ihx ihy =>
    intro off s Q a w hL h r
    unfold codeX at h
    refine wpIn_seq ?_
    have hx := ihx off s _ a w (fun j cj hj sp hsp => hL j cj (by
      unfold loopAt
      have hlt : j < nloops x := by
        rcases Nat.lt_or_ge j (nloops x) with h' | h'
        · exact h'
        · exfalso
          rw [loopAt_none x j h'] at hj; cases hj
      have : Nat.blt j (nloops x) = true := by rw [Nat.blt_eq]; exact hlt
      rw [this]; exact hj) sp hsp) (Tree.sat_bind h) r
    refine wpIn_mono hx ?_
    rintro e a' w' ⟨ex, s', rfl, hq, hr⟩
    cases ex with
    | normal =>
      simp only [AEx.ex, Exit.then]
      refine ihy (off + nloops x) s' Q a' w' (fun j cj hj sp hsp => hL (nloops x + j) cj ?_ sp (by rw [← Nat.add_assoc]; exact hsp)) hq hr
      unfold loopAt
      have : Nat.blt (nloops x + j) (nloops x) = false := by rw [Bool.eq_false_iff, ne_eq, Nat.blt_eq]; omega
      rw [this]
      simpa using hj
    | exit i => exact ⟨.exit i, s', rfl, hq, hr⟩
    | ret => exact ⟨.ret, s', rfl, hq, hr⟩
  | cond t x y ihx ihy =>
    intro off s Q a w hL h r
    have hLx : ∀ j cj, loopAt x j = some cj → ∀ sp, L[off + j]? = some sp → LSoundC P ro cx cj sp := by
      intro j cj hj sp hsp
      refine hL j cj ?_ sp hsp
      unfold loopAt
      split
      · exact hj
      · rename_i hb
        exfalso
        have hge : nloops x ≤ j := by
          rw [Bool.eq_false_iff, ne_eq, Nat.blt_eq] at hb; omega
        rw [loopAt_none x j hge] at hj; cases hj
    have hLy : ∀ j cj, loopAt y j = some cj → ∀ sp, L[off + nloops x + j]? = some sp → LSoundC P ro cx cj sp := by
      intro j cj hj sp hsp
      refine hL (nloops x + j) cj ?_ sp (by rw [← Nat.add_assoc]; exact hsp)
      unfold loopAt
      have : Nat.blt (nloops x + j) (nloops x) = false := by rw [Bool.eq_false_iff, ne_eq, Nat.blt_eq]; omega
      rw [this]
      simpa using hj
    unfold codeX at h
    have r0 := r
    obtain ⟨w0, T, e, hΦ, re⟩ := r
    have hc := rho_rep re.slots t
    split at h
    · rename_i heq; rw [heq] at hc; exact wpIn_cond_true hc.lit_inv (ihx off s Q a w hLx h r0)
    · rename_i heq; rw [heq] at hc; exact wpIn_cond_false hc.lit_inv (ihy _ s Q a w hLy h r0)
    · rename_i b heq
      rw [heq] at hc
      cases b
      · exact wpIn_cond_false hc.x_inv (ihy _ _ Q a w hLy (h.2 rfl) (cond_rel r0 heq rfl))
      · exact wpIn_cond_true hc.x_inv (ihx _ _ Q a w hLx (h.1 rfl) (cond_rel r0 heq rfl))
    · exact h.elim
  | block id c ih =>
    intro off s Q a w hL h r
    unfold codeX at h
    refine wpIn_block (wpIn_mono (ih off s _ a w hL (Tree.sat_bind h) r) ?_)
    rintro e a' w' ⟨ex, s', rfl, hq, hr⟩
    cases ex with
    | normal => exact ⟨.normal, s', rfl, hq, hr⟩
    | ret => exact ⟨.ret, s', rfl, hq, hr⟩
    | exit i =>
      simp only [AEx.ex, Exit.inBlock]
      simp only at hq
      split at hq
      · rename_i hb
        rw [if_pos (Nat.eq_of_beq_eq_true hb)]
        exact ⟨.normal, s', rfl, hq, hr⟩
      · rename_i hb
        rw [if_neg (fun he => by subst he; simp at hb)]
        exact ⟨.exit i, s', rfl, hq, hr⟩
  | scope c ih =>
    intro off s Q a w hL h r
    unfold codeX at h
    refine wpIn_scope (wpIn_mono (ih off s Q a w hL h r) ?_)
    rintro e a' w' ⟨ex, s', rfl, hq, hr⟩
    cases ex with
    | normal => exact ⟨.normal, s', rfl, hq, hr⟩
    | ret => exact ⟨.ret, s', rfl, hq, hr⟩
    | exit i => exact ⟨.exit i, s', rfl, hq, hr⟩
  | loop c ih =>
    intro off s Q a w hL h r
    unfold codeX at h
    split at h
    · rename_i f hf
      split at h
      · rename_i t ht
        exact hL 0 _ rfl f (by simpa using hf) n s t ht Q h a w r
      · exact h.elim
    · exact h.elim
  | rangeFunc f ps x y ihx ihy =>
    intro off s Q a w hL h r
    unfold codeX at h
    split at h
    · rename_i f hf
      split at h
      · rename_i t ht
        exact hL 0 _ rfl f (by simpa using hf) n s t ht Q h a w r
      · exact h.elim
    · exact h.elim
  | exit id => intro off s Q a w _ h r; exact wpIn_exit ⟨.exit id, s, rfl, h, r⟩
  | ret => intro off s Q a w _ h r; exact wpIn_ret ⟨.ret, s, rfl, h, r⟩
  | goto l => intro off s Q a w _ h r; exact h.elim
  | refuse y => intro off s Q a w _ h r; exact h.elim

/-- What a function hands back. -/
def resOne (P : Program) (s : St) : ResultVar → Option AV
  | .tmp t => some (s.σ.getD t .top)
  | .cell t T => match opLoad P s.m T (s.σ.getD t .top) with
    | some ([], v, none) => some v
    | _ => none

def resL (P : Program) (s : St) : List ResultVar → Option (List AV)
  | [] => some []
  | r :: rs => match resOne P s r, resL P s rs with
    | some v, some vs => some (v :: vs)
    | _, _ => none

def resA (P : Program) (s : St) (rs : List ResultVar) : Option AV :=
  match resL P s rs with
  | some [v] => some v
  | some vs => some (.tup vs)
  | none => none

def resSem (tmps : Array Value) : ResultVar → Sem Value
  | .tmp t => pure (tmps.getD t undef)
  | .cell p t => do loadVar t (← asAddr (tmps.getD p undef))

theorem results_eq (fn : Func) (tmps : Array Value) : results fn tmps = (do let vs ← fn.results.mapM (resSem tmps); pure (if h : vs.size = 1 then vs[0] else .tuple vs)) := by
  unfold results
  congr 1

theorem resOne_sound {P : Program} {e : Env} {s : St} {tmps : Array Value} {w : World} (hm : MemOk e s.m w) (hs : RepL e w s.σ tmps.toList) {x : ResultVar} {v : AV} (h : resOne P s x = some v) :
    ∃ u, (resSem tmps x).run P w = .ok u w ∧ Rep e w v u := by
  cases x with
  | tmp t =>
    simp only [resOne, Option.some.injEq] at h
    subst h
    exact ⟨_, rfl, rho_rep (a := { tmps := tmps, defers := [] }) hs (.tmp t)⟩
  | cell p T =>
    simp only [resOne] at h
    split at h
    · rename_i v' hl
      cases h
      have hr := rho_rep (a := { tmps := tmps, defers := [] }) hs (.tmp p)
      simp only [rho, Act.eval] at hr
      obtain ⟨_, ad, u, had, hu, hrep⟩ := opLoad_core (P := P) hl (fun p hp => by cases hp) hm hr
      exact ⟨u, by simp only [resSem, had, asAddr, Sem.run_bind, Sem.run_pure, Result.andThen_ok, hu], hrep⟩
    · cases h

theorem resL_sound {P : Program} {e : Env} {s : St} {tmps : Array Value} {w : World} (hm : MemOk e s.m w) (hs : RepL e w s.σ tmps.toList) : ∀ {rs : List ResultVar} {vs : List AV}, resL P s rs = some vs →
    ∃ us : List Value, (rs.mapM (resSem tmps)).run P w = .ok us w ∧ RepL e w vs us
  | [], vs, h => by simp [resL] at h; subst h; exact ⟨[], by simp, RepL.nil e w⟩
  | x :: rs, vs, h => by
    unfold resL at h
    split at h
    · rename_i v vs' h1 h2
      cases h
      obtain ⟨u, hu, hr⟩ := resOne_sound hm hs h1
      obtain ⟨us, hus, hrs⟩ := resL_sound hm hs h2
      exact ⟨u :: us, by simp only [List.mapM_cons, Sem.run_bind, hu, Result.andThen_ok, hus, Sem.run_pure], RepL.cons hr hrs⟩
    · cases h

theorem resA_soundM {P : Program} {e : Env} {s : St} {tmps : Array Value} {w : World} (hm : MemOk e s.m w) (hs : RepL e w s.σ tmps.toList) {fn : Func} {v : AV} (h : resA P s fn.results.toList = some v) : ∃ u, (results fn tmps).run P w = .ok u w ∧ Rep e w v u := by
  unfold resA at h
  have key : ∀ vs, resL P s fn.results.toList = some vs → ∃ us : List Value, RepL e w vs us ∧ (results fn tmps).run P w = .ok (if h : us.toArray.size = 1 then us.toArray[0] else .tuple us.toArray) w := by
    intro vs hvs
    obtain ⟨us, hus, hrs⟩ := resL_sound hm hs hvs
    refine ⟨us, hrs, ?_⟩
    rw [results_eq, Array.mapM_eq_mapM_toList]
    simp only [Sem.run_bind, Sem.run_map, hus, Result.andThen_ok, Sem.run_pure]
  split at h
  · rename_i v' hv
    cases h
    obtain ⟨us, hrs, hrun⟩ := key _ hv
    obtain ⟨u, us', rfl, hu, hus⟩ := hrs.cons_inv
    cases hus.nil_inv
    exact ⟨u, by simpa using hrun, hu⟩
  · rename_i vs hne hv
    cases h
    obtain ⟨us, hrs, hrun⟩ := key _ hv
    refine ⟨.tuple us.toArray, ?_, Rep.tupL hrs⟩
    have hlen : us.toArray.size ≠ 1 := by
      intro h1
      simp at h1
      have hvl : vs.length = 1 := by rw [hrs.1, h1]
      obtain ⟨x, hx⟩ := List.length_eq_one_iff.1 hvl
      exact hne x hx
    rw [dif_neg hlen] at hrun
    exact hrun
  · cases h

/-- What a result says to the caller. -/
inductive Fits (m : Mem) : AV → AV → Prop
  | top (r : AV) : Fits m r .top
  | x (v : Value) : Fits m (.x v) (.x v)
  | lit (b : Bool) : Fits m (.lit b) (.lit b)
  | litx (b : Bool) : Fits m (.lit b) (.x (.bool b))
  | agg (l l' : List AV) : l.length = l'.length → (∀ (i : Nat) (a b : AV), l[i]? = some a → l'[i]? = some b → Fits m a b) → Fits m (.agg l) (.agg l')
  | tup (l l' : List AV) : l.length = l'.length → (∀ (i : Nat) (a b : AV), l[i]? = some a → l'[i]? = some b → Fits m a b) → Fits m (.tup l) (.tup l')
  | row (id T sz n : Nat) (f f' : Nat → List AV) : getM m id = some (.row T sz n f) → (∀ i, i < n → f i = f' i) → (∀ i, i < n → ∀ a ∈ f' i, ∃ v, a = .x v) → Fits m (.row id) (.lst sz n f')
  | nil (sz : Nat) (f : Nat → List AV) : Fits m (.x (.slice none 0 0)) (.lst sz 0 f)
  | fn0 (f : Fn) : Fits m (.fn f [] []) (.fn f [] [])

theorem Fits.rep {e : Env} {B : Nat} {w0 w : World} {m : Mem} (hE : EnvOk e B w) (hB : w0.heap.size = B) (hm : MemOk e m w) {r res : AV} {v : Value} (h : Fits m r res) (k : Rep e w r v) : Rep (freshE w0 w) w res v := by
  induction h generalizing v with
  | top r => exact .top v
  | x u => cases k.x_inv; exact .x _
  | lit b => cases k.lit_inv; exact .lit _
  | litx b => cases k.lit_inv; exact .x _
  | agg l l' hl hf ih =>
    obtain ⟨vs, rfl, h1, h2⟩ := k.agg_inv
    refine .agg l' vs (by rw [← hl, h1]) (fun i a u ha hu => ?_)
    have hi : i < l.length := by rw [hl]; exact (List.getElem?_eq_some_iff.1 ha).1
    exact ih i _ a (List.getElem?_eq_getElem hi) ha (h2 i _ u (List.getElem?_eq_getElem hi) hu)
  | tup l l' hl hf ih =>
    obtain ⟨vs, rfl, h1, h2⟩ := k.tup_inv
    refine .tup l' vs (by rw [← hl, h1]) (fun i a u ha hu => ?_)
    have hi : i < l.length := by rw [hl]; exact (List.getElem?_eq_some_iff.1 ha).1
    exact ih i _ a (List.getElem?_eq_getElem hi) ha (h2 i _ u (List.getElem?_eq_getElem hi) hu)
  | row id T sz n f f' hg hff hx =>
    obtain ⟨_, hown, hf, xs, ho, hrep⟩ := hm _ (getM_mem hg)
    dsimp only at hown ho
    cases k with
    | row _ a n' c hl hv =>
      rw [hv] at ho hown
      rcases ho.2 with ⟨hv0, hn0⟩ | ⟨g, cap, cur, hv0, _, hgg, hnc, hcm, hcs, htake⟩
      · cases hv0; subst hn0; exact .lstNil _ _
      · cases hv0
        have hob := hown g rfl
        have hbd := hE.owned _ _ hob
        refine .lst sz _ f' g 0 _ (fun i j => xs.getD (i * sz + j) .nilIface) ⟨by rw [hB]; exact hbd.1, hbd.2⟩ hbd.2 (fun i hi a ha => ?_) hnc hcm ?_ (fun i hi => by rw [← hff i hi]; exact (hf i hi).1) ?_
        · obtain ⟨u, rfl⟩ := hx i hi a ha; exact .x u
        · intro i j hi hj
          have hle : i * sz + sz ≤ n * sz := by
            have := Nat.mul_le_mul_right sz (Nat.succ_le_of_lt hi)
            rwa [Nat.succ_mul] at this
          have hlt2 : i * sz + j < xs.length := by rw [ho.1]; omega
          have hc := ho.cells (g := g) rfl (i * sz + j) xs[i * sz + j] (List.getElem?_eq_getElem hlt2)
          rw [addrAdd] at hc
          rw [hc]
          simp [List.getD, List.getElem?_eq_getElem hlt2]
        · intro i j a hi ha
          have hj : j < sz := by rw [← (hf i hi).1, hff i hi]; exact (List.getElem?_eq_some_iff.1 ha).1
          have hle : i * sz + sz ≤ n * sz := by
            have := Nat.mul_le_mul_right sz (Nat.succ_le_of_lt hi)
            rwa [Nat.succ_mul] at this
          have hlt2 : i * sz + j < xs.length := by rw [ho.1]; omega
          obtain ⟨u, rfl⟩ := hx i hi a (List.mem_of_getElem? ha)
          have := hrep i j (.x u) xs[i * sz + j] hi (by rw [hff i hi]; exact ha) (List.getElem?_eq_getElem hlt2)
          simp only [List.getD, List.getElem?_eq_getElem hlt2, Option.getD_some]
          rw [this.x_inv]; exact .x _
  | nil sz f => cases k.x_inv; exact .lstNil sz f
  | fn0 f =>
    obtain ⟨vs, vs', rfl, h1, h2⟩ := k.fn_inv
    cases h1.nil_inv; cases h2.nil_inv
    exact .fn f [] [] [] [] rfl (fun i a v h => by simp at h) rfl (fun i a v h => by simp at h)

/-- The state in which a call begins. -/
def startS (fn : Func) (avs : List AV) : St := { σ := avs ++ List.replicate (fn.ntmps - avs.length) .top, m := [], nx := 0 }

def EndOk (P : Program) (fn : Func) (res : AV) (p : AEx × St) : Prop := (match p.1 with | .exit _ => False | _ => True) ∧ ∃ r, resA P p.2 fn.results.toList = some r ∧ Fits p.2.m r res

def codeT (P : Program) (G : List (Nat × Spec)) (L : List LSpec) (c : Code) (off : Nat) (s : St) : CT := codeX P G {} L c off s

/-- The cells are the same, whatever became of other blocks. -/
theorem Rep.sameCells {e : Env} {w w' : World} (hsz : w'.heap.size = w.heap.size) (hc : ∀ ad, w'.cell? ad = w.cell? ad) {a : AV} {v : Value} (h : Rep e w a v) : Rep e w' a v := by
  induction h with
  | top v => exact .top v
  | lit b => exact .lit b
  | x v => exact .x v
  | agg l vs h1 h2 ih => exact .agg l vs h1 ih
  | tup l vs h1 h2 ih => exact .tup l vs h1 ih
  | fn f l l' vs vs' h1 h2 h3 h4 ih1 ih2 => exact .fn f l l' vs vs' h1 ih1 h3 ih2
  | ptr id off hl => exact .ptr id off hl
  | row id a n c hl hv => exact .row id a n c hl hv
  | elt id sz i j b n cap hl hv => exact .elt id sz i j b n cap hl hv
  | ro l vs b o hr hb hf h1 h2 h3 ih => exact .ro l vs b o hr (by rw [hsz]; exact hb) hf h1 (fun j v hj => by rw [hc]; exact h2 j v hj) ih
  | lstNil sz f => exact .lstNil sz f
  | lst sz n f b o cap g hr hb hf hcap hm h1 h2 h3 ih => exact .lst sz n f b o cap g hr (by rw [hsz]; exact hb) hf hcap hm (fun i j hi hj => by rw [hc]; exact h1 i j hi hj) h2 ih
  | mp id hl => exact .mp id hl

theorem RepL.sameCells {e : Env} {w w' : World} (hsz : w'.heap.size = w.heap.size) (hc : ∀ ad, w'.cell? ad = w.cell? ad) {l : List AV} {vs : List Value} (h : RepL e w l vs) : RepL e w' l vs := ⟨h.1, fun i a v ha hv => (h.2 i a v ha hv).sameCells hsz hc⟩

theorem cell_putObj {w : World} {D : Nat} {o o' : Obj} (h : w.heap[D]? = some o) (ho : o.isCells = false) (ho' : o'.isCells = false) (ad : Addr) : (w.putObj D o').cell? ad = w.cell? ad := by
  have hlt := (Array.getElem?_eq_some_iff.1 h).1
  unfold World.cell?
  by_cases hb : ad.block = D
  · rw [hb, World.putObj_heap_same hlt, h]
    cases o <;> cases o' <;> simp_all [Obj.isCells]
  · rw [World.putObj_heap_other hb]

theorem Holds.putObj {e : Env} {w : World} {D : Nat} {o o' : Obj} (h : w.heap[D]? = some o) (ho : o.isCells = false) (ho' : o'.isCells = false) (hown : e.own D = none) {id : Nat} {r : Res} (k : Holds e w id r) : Holds e (w.putObj D o') id r := by
  have hsz : (w.putObj D o').heap.size = w.heap.size := World.putObj_size
  have hc := cell_putObj h ho ho'
  have hother : ∀ b k, e.own b = some k → (w.putObj D o').heap[b]? = w.heap[b]? := fun b k hb => World.putObj_heap_other (fun he => by rw [he, hown] at hb; cases hb)
  cases r with
  | cells T l =>
    obtain ⟨h1, h2, vs, h3, h4⟩ := k
    exact ⟨h1, h2, vs, (hother _ _ h2).trans h3, h4.sameCells hsz hc⟩
  | row T sz n f =>
    obtain ⟨h1, h2, hf, xs, h3, h4⟩ := k
    refine ⟨h1, h2, hf, xs, ⟨h3.1, h3.2.imp (fun h => h) ?_⟩, fun i j a v hi ha hv => (h4 i j a v hi ha hv).sameCells hsz hc⟩
    rintro ⟨g', cap, cur, hv, hg, hh, rest⟩
    exact ⟨g', cap, cur, hv, hg, (hother g' id (h2 g' (by rw [hv]; rfl))).trans hh, rest⟩
  | memo h' f =>
    obtain ⟨h1, h2, es, c, h3, h4⟩ := k
    exact ⟨h1, h2, es, c, (hother _ _ h2).trans h3, h4⟩

/-- A function's end: the marks of loops over functions are come to, one behind the other. -/
theorem leaves_marks {P : Program} {fn : Func} {R : Ending → World → Prop} {M : Nat → Prop} {w0 : World} {e : Env} {s : St} {tmps : Array Value} {n : Nat} (hB : ∀ D, M D → w0.heap.size ≤ D)
    (fin : ∀ w', EnvOk e w0.heap.size w' → Below w0.heap.size w0 w' → MemOk e s.m w' → RepL e w' s.σ tmps.toList → ∃ v, (results fn tmps).run P w' = .ok v w' ∧ R (.returned v) w') :
    ∀ (ds : List Deferred) (w : World), DefOk M e w ds → EnvOk e w0.heap.size w → Below w0.heap.size w0 w → MemOk e s.m w → RepL e w s.σ tmps.toList → LeavesInM (fr none) n P fn tmps R ds .returning w
  | [], w, _, hE, hb, hm, hs => fin w hE hb hm hs
  | d :: ds, w, hd, hE, hb, hm, hs => by
    obtain ⟨D, h1, h2, h3, h4, h5⟩ := hd.1 d List.mem_cons_self
    refine ⟨by simp, .inl ⟨D, _, by rw [h1], run_takeDeferred h4, ?_⟩⟩
    have hown := (hE.apart D h2).1
    have hsz : (w.putObj D (.deferred none)).heap.size = w.heap.size := World.putObj_size
    refine leaves_marks hB fin ds _ ⟨fun d' hd' => ?_, (List.nodup_cons.1 hd.2).2⟩ ⟨fun b hb => by rw [hsz]; exact hE.apart b hb, fun b k hk => by rw [hsz]; exact hE.owned b k hk⟩ ?_ (fun p hp => (hm p hp).putObj h4 rfl rfl hown) (hs.sameCells hsz (cell_putObj h4 rfl rfl))
    · obtain ⟨D', k1, k2, k3, k4, k5⟩ := hd.1 d' (List.mem_cons_of_mem _ hd')
      have hne : D' ≠ D := by
        rintro rfl
        exact (List.nodup_cons.1 hd.2).1 (by rw [h1, ← k1]; exact hd')
      exact ⟨D', k1, k2, by rw [hsz]; exact k3, (World.putObj_heap_other hne).trans k4, k5⟩
    · exact hb.trans ((Below.refl w0.heap.size w).grown (grownBy_putObj' w D _) (by have := hb.size; have := hB D h5; omega) (fun k he => by cases he; exact hB D h5))

/-- The run of a function that is called at w. -/
def cxOf (w : World) (T : Nat → Prop) : Cx := { M := fun D => w.heap.size ≤ D, Φ := fun _ T' w0 => w0 = w ∧ T' = T, K := fun _ _ => False, saved := [] }

theorem calls_ofG {P : Program} {G : List (Nat × Spec)} {X : Ext} {L : List LSpec} {f : FuncId} {fn : Func} {c : Code} {avs : List AV} (hG : SoundG P G) (hmix : P.follows .mixedOrders = true) (hf : P.funcs[f]? = some fn) (hb : fn.body = some c)
    {cx : Cx} {gh : Option Nat} {w : World} {T : Nat → Prop} {e : Env} {args : List Value} (hX : SoundX P X cx) (hK : ∀ b o, ¬ cx.K b o) (hsv : cx.saved = []) (hsz0 : cx.sz = 0) (hM : ∀ g T w0 D, cx.Φ g T w0 → cx.M D → w0.heap.size ≤ D) (hΦ : cx.Φ gh T w)
    (hT : ∀ b, T b → b < w.heap.size ∧ ¬ e.ro b) (hro : ∀ b, e.ro b → b < w.heap.size) (hidf : ∀ a ∈ avs, Idf a) (hr : RepL e w avs args)
    (hL : ∀ j cj, loopAt c j = some cj → ∀ sp, L[j]? = some sp → LSoundC P none cx cj sp) {E : AEx × St → Prop} (h : (codeX P G X L c 0 { startS fn avs with gh := gh }).sat E) {R : Ending → World → Prop}
    (fin : ∀ x s w0 T' e' tmps w', E (x, s) → cx.Φ s.gh T' w0 → EnvOk e' w0.heap.size w' → Below w0.heap.size w0 w' → MemOk e' s.m w' → (∀ b, T' b → ¬ e'.ro b) → RepL e' w' s.σ tmps.toList → ∃ v, (results fn tmps).run P w' = .ok v w' ∧ R (.returned v) w')
    (hex : ∀ x s, E (x, s) → ∀ i, x ≠ .exit i) : Calls P f args.toArray w R := by
  let e0 : Env := { ro := e.ro, own := fun _ => none, live := fun _ => False, blk := fun _ => 0, val := fun _ => .nilIface }
  have hr0 : RepL e0 w avs args := ⟨hr.1, fun i a v ha hv => Rep.idf (e := e) (e' := e0) (fun _ h => h) (hr.2 i a v ha hv) (hidf a (List.mem_of_getElem? ha))⟩
  have hrel : Rel cx { startS fn avs with gh := gh } { tmps := args.toArray ++ Array.replicate (fn.ntmps - args.toArray.size) undef, defers := [] } w := by
    refine ⟨w, T, e0, hΦ, ⟨fun b hb => ⟨rfl, hro b hb⟩, (fun b k hk => by cases hk)⟩, Below.refl _ _, (fun p hp => by cases hp), (fun k hk => False.elim hk), hT, ⟨⟨(fun d hd => by cases hd), List.nodup_nil⟩, (fun b o h => (hK b o h).elim), ⟨by rw [hsv]; rfl, (fun i a v h => by cases h)⟩, by rw [hsz0]; exact Nat.zero_le _⟩, ?_⟩
    have htop : RepL e0 w (List.replicate (fn.ntmps - avs.length) .top) (List.replicate (fn.ntmps - avs.length) undef) := by
      refine ⟨by simp, fun i a v ha _ => ?_⟩
      have := List.mem_of_getElem? ha
      rw [List.mem_replicate] at this
      rw [this.2]; exact .top v
    have := hr0.append htop
    simpa [startS, hr.1] using this
  refine callsIn_wide (n := 0).1 (callsIn_of_wp_marks (F := fr none) hf hb trivial (wpIn_mono (codeX_sound hG hX hmix c 0 _ _ _ w (fun j cj hj sp hsp => hL j cj hj sp (by simpa using hsp)) h hrel) ?_) rfl)
  rintro ex a' w' ⟨x, s', rfl, hE, w0, T', e', hΦ', re⟩
  have hx := hex x s' hE
  have hfin : LeavesInM (fr none) 0 P fn a'.tmps R a'.defers .returning w' :=
    leaves_marks (M := cx.M) (s := s') (fun D hD => hM _ _ _ D hΦ' hD) (fun w2 q1 q2 q3 q4 => fin x s' w0 T' e' a'.tmps w2 hE hΦ' q1 q2 q3 (fun b hb => (re.foe b hb).2) q4) a'.defers w' re.xt.defers re.env re.below re.mem re.slots
  cases x with
  | normal => exact hfin
  | ret => exact hfin
  | exit i => exact (hx i rfl).elim

/-- A run in which loops over functions may leave their marks. -/
def Cx.fun (cx : Cx) : Prop := ∀ g T w0 D, cx.Φ g T w0 → w0.heap.size ≤ D → cx.M D
theorem cxOf_fun (w : World) (T : Nat → Prop) : (cxOf w T).fun := by
  rintro g T' w0 D ⟨rfl, _⟩ h
  exact h

/-- A FUNCTION: its contract, from the tree of its ways. -/
theorem soundAt_ofX {P : Program} {G : List (Nat × Spec)} {X : Ext} {L : List LSpec} {f : FuncId} {fn : Func} {c : Code} {avs : List AV} {res : AV} (hG : SoundG P G) (hX : ∀ cx, SoundX P X cx) (hmix : P.follows .mixedOrders = true) (hf : P.funcs[f]? = some fn) (hb : fn.body = some c)
    (hL : ∀ j cj, loopAt c j = some cj → ∀ sp, L[j]? = some sp → ∀ cx : Cx, cx.fun → LSoundC P none cx cj sp) (h : (codeX P G X L c 0 (startS fn avs)).sat (EndOk P fn res)) : SoundAt P f avs res := by
  intro e w args hro hidf hr
  refine calls_ofG hG hmix hf hb (cx := cxOf w (fun _ => False)) (gh := none) (T := fun _ => False) (e := e) (hX _) (fun _ _ h => h) rfl rfl (by rintro g T w0 D ⟨rfl, _⟩ h; exact h) ⟨rfl, rfl⟩ (fun b h => h.elim) hro hidf hr (fun j cj hj sp hsp => hL j cj hj sp hsp _ (cxOf_fun _ _)) h ?_ ?_
  · rintro x s w0 T' e' tmps w' ⟨hx, r, hres, hfit⟩ ⟨rfl, _⟩ q1 q2 q3 _ q4
    obtain ⟨u, hu, hrep⟩ := resA_soundM (P := P) q3 q4 hres
    exact ⟨u, hu, u, rfl, q2, hfit.rep q1 rfl q3 hrep⟩
  · rintro x s ⟨hx, _⟩ i rfl
    exact hx

theorem soundAt_of {P : Program} {G : List (Nat × Spec)} {L : List LSpec} {f : FuncId} {fn : Func} {c : Code} {avs : List AV} {res : AV} (hG : SoundG P G) (hmix : P.follows .mixedOrders = true) (hf : P.funcs[f]? = some fn) (hb : fn.body = some c)
    (hL : ∀ j cj, loopAt c j = some cj → ∀ sp, L[j]? = some sp → LSound P cj sp) (h : (codeT P G L c 0 (startS fn avs)).sat (EndOk P fn res)) : SoundAt P f avs res :=
  soundAt_ofX hG (SoundX.nil P) hmix hf hb (fun j cj hj sp hsp cx _ => hL j cj hj sp hsp none cx) h
end Go.Sx
