/- Texts of this claim, put together: SxO, SxP, SxQ, SxR, SxS, SxT, SxU, SxV -/
import Derived.Test.YtlinbkmpkcmniaaMh
import Derived.Scope
set_option linter.unusedSimpArgs false
set_option linter.unusedVariables false
namespace Go.Sx
open Go Go.RowKit
inductive AEx where
 | normal
 | exit (id : Nat)
 | ret
def AEx.ex : AEx → Exit
 | .normal => .normal
 | .exit id => .exit id
 | .ret => .ret
abbrev CT := Tree (AEx × St)
def postOf (cx : Cx) (Q : AEx × St → Prop) : Exit → Act → World → Prop := fun e a w => ∃ x s, e = AEx.ex x ∧ Q (x, s) ∧ Rel cx s a w
abbrev LSpec := St → Option CT
def LSoundC (P : Program) (ro : Option Nat) (cx : Cx) (c : Code) (sp : LSpec) : Prop := ∀ (n : Nat) (s : St) (t : CT), sp s = some t → ∀ Q : AEx × St → Prop, t.sat Q → ∀ (a : Act) (w : World), Rel cx s a w → c.wpIn (fr ro) n P (postOf cx Q) a w
def LSound (P : Program) (c : Code) (sp : LSpec) : Prop := ∀ (ro : Option Nat) (cx : Cx), LSoundC P ro cx c sp
def nloops : Code → Nat
 | .seq a b => nloops a + nloops b
 | .cond _ a b => nloops a + nloops b
 | .block _ c => nloops c
 | .scope c => nloops c
 | .loop _ => 1
 | .rangeFunc .. => 1
 | _ => 0
def loopAt : Code → Nat → Option Code
 | .seq a b, j => match Nat.blt j (nloops a) with
  | true => loopAt a j
  | false => loopAt b (j - nloops a)
 | .cond _ a b, j => match Nat.blt j (nloops a) with
  | true => loopAt a j
  | false => loopAt b (j - nloops a)
 | .block _ c, j => loopAt c j
 | .scope c, j => loopAt c j
 | .loop c, j => match j with
  | 0 => some (.loop c)
  | _ + 1 => none
 | .rangeFunc f ps a b, j => match j with
  | 0 => some (.rangeFunc f ps a b)
  | _ + 1 => none
 | _, _ => none
theorem loopAt_none : ∀ (c : Code) (j : Nat), nloops c ≤ j → loopAt c j = none := by
 intro c
 induction c with
 | seq a b iha ihb =>
  intro j hj
  simp only [nloops] at hj
  unfold loopAt
  have : Nat.blt j (nloops a) = false := by
   rw [Bool.eq_false_iff, ne_eq, Nat.blt_eq]; omega
  rw [this]
  exact ihb _ (by omega)
 | cond t a b iha ihb =>
  intro j hj
  simp only [nloops] at hj
  unfold loopAt
  have : Nat.blt j (nloops a) = false := by
   rw [Bool.eq_false_iff, ne_eq, Nat.blt_eq]; omega
  rw [this]
  exact ihb _ (by omega)
 | block id c ih => intro j hj; exact ih j hj
 | scope c ih => intro j hj; exact ih j hj
 | loop c ih => intro j hj; simp only [nloops] at hj; cases j with | zero => omega | succ j => rfl
 | rangeFunc f ps a b iha ihb => intro j hj; simp only [nloops] at hj; cases j with | zero => omega | succ j => rfl
 | _ => intro j _; rfl
def condS (s : St) : Operand → Bool → St
 | .tmp t, b => litS s t b
 | _, _ => s
theorem wpIn_scope {F : Fence} {n : Nat} {P : Program} {Q : Exit → Act → World → Prop} {a : Act} {w : World} {c : Code} (h : c.wpIn F n P (Exit.noGoto Q) a w) : (Code.scope c).wpIn F n P Q a w := by
 intro b k cs hro hb hr
 obtain ⟨e, a₁, w₁, hq, harr⟩ := h b (.inScope c :: k) cs hro hb hr
 have s1 : step P (lone (b.atR a (.code (.scope c) :: k)) cs w) = .next (lone (b.atR a (.code c :: .inScope c :: k)) cs w) := step_lone_go (by simp [stepG, stepG.exec, Frame.atR])
 have s2 : step P (lone (b.atR a₁ (.inScope c :: k)) cs w₁) = .next (lone (b.atR a₁ k) cs w₁) := step_lone_go (by simp [stepG, stepG.exec, Frame.atR])
 have h0 : (lone (b.atR a (.code (.scope c) :: k)) cs w).fenced P F := fenced_calm hb hr rfl
 cases e with
 | normal => exact ⟨.normal, a₁, w₁, hq, .head h0 s1 (StepsIn.trans harr (.one (fenced_calm hb hr rfl) s2))⟩
 | exit id =>
  have hx : exitTo id (.inScope c :: k) = exitTo id k := by simp [exitTo]
  exact ⟨.exit id, a₁, w₁, hq, fun k' hk => .head h0 s1 (harr.1 k' (by rw [hx]; exact hk)), fun hr' hk => let ⟨k₁, h1, h2⟩ := harr.2 hr' (by rw [hx]; exact hk); ⟨k₁, h1, .head h0 s1 h2⟩⟩
 | goto l => exact hq.elim
 | ret => exact ⟨_, a₁, w₁, hq, .of_steps (.one h0 s1) harr⟩
 | panic ch => exact ⟨_, a₁, w₁, hq, .of_steps (.one h0 s1) harr⟩
 | outgrown => exact ⟨_, a₁, w₁, hq, .of_steps (.one h0 s1) harr⟩
def codeX (P : Program) (G : List (Nat × Spec)) (X : Ext) (L : List LSpec) : Code → Nat → St → CT
 | .skip, _, s => .leaf (.normal, s)
 | .label _, _, s => .leaf (.normal, s)
 | .region _ ops draw, _, s => match draw with
  | true => (regF P G X ops.toList s).bind fun s => .leaf (.normal, s)
  | false => (regT P G X ops.toList ops.toList s).bind fun s => .leaf (.normal, s)
 | .seq a b, off, s => (codeX P G X L a off s).bind fun p => match p.1 with
  | .normal => codeX P G X L b (off + nloops a) p.2
  | x => .leaf (x, p.2)
 | .cond c a b, off, s => match rho s.σ c with
  | .lit true => codeX P G X L a off s
  | .lit false => codeX P G X L b (off + nloops a) s
  | .x (.bool t) => .branch t (codeX P G X L a off (condS s c true)) (codeX P G X L b (off + nloops a) (condS s c false))
  | _ => .fail
 | .block id c, off, s => (codeX P G X L c off s).bind fun p => match p.1 with
  | .exit i => match Nat.beq i id with
   | true => .leaf (.normal, p.2)
   | false => .leaf (.exit i, p.2)
  | x => .leaf (x, p.2)
 | .scope c, off, s => codeX P G X L c off s
 | .loop _, off, s => match L[off]? with
  | some f => match f s with
   | some t => t
   | none => .fail
  | none => .fail
 | .rangeFunc _ _ _ _, off, s => match L[off]? with
  | some f => match f s with
   | some t => t
   | none => .fail
  | none => .fail
 | .exit id, _, s => .leaf (.exit id, s)
 | .ret, _, s => .leaf (.ret, s)
 | .goto _, _, _ => .fail
 | .refuse _, _, _ => .fail
theorem cond_rel {cx : Cx} {s : St} {a : Act} {w : World} {c : Operand} {b d : Bool} (r : Rel cx s a w) (hc : rho s.σ c = .x (.bool b)) (hb : b = d) : Rel cx (condS s c d) a w := by
 obtain ⟨w0, T, e, hΦ, r⟩ := r
 cases c with
 | tmp t => exact ⟨w0, T, e, hΦ, lit_rel r hc hb⟩
 | _ => exact ⟨w0, T, e, hΦ, r⟩
theorem codeX_sound {P : Program} {G : List (Nat × Spec)} {X : Ext} {cx : Cx} {L : List LSpec} (hG : SoundG P G) (hX : SoundX P X cx) (hmix : P.follows .mixedOrders = true) {ro : Option Nat} {n : Nat} :
  ∀ (c : Code) (off : Nat) (s : St) (Q : AEx × St → Prop) (a : Act) (w : World), (∀ j cj, loopAt c j = some cj → ∀ sp, L[off + j]? = some sp → LSoundC P ro cx cj sp) → (codeX P G X L c off s).sat Q → Rel cx s a w → c.wpIn (fr ro) n P (postOf cx Q) a w := by
 intro c
 induction c with
 | skip => intro off s Q a w _ h r; exact wpIn_skip ⟨.normal, s, rfl, h, r⟩
 | label l => intro off s Q a w _ h r; exact wpIn_label ⟨.normal, s, rfl, h, r⟩
 | region id ops draw =>
  intro off s Q a w _ h r
  unfold codeX at h
  cases draw with
  | true => exact regF_sound hG hX hmix (Tree.sat_bind h) r (fun s' a' w' hs hr => ⟨.normal, s', rfl, hs, hr⟩)
  | false =>
   refine wpIn_region ?_
   have := regT_sound hG hX (ro := ro) (n := n) (ops := ops) (Q := postOf cx Q) (R := fun s => Q (.normal, s)) (fun s' a' w' hs hr => ⟨.normal, s', rfl, hs, hr⟩) ops.toList 0 (by simp) s a w (Tree.sat_bind h) r
   rwa [Nat.sub_zero, ← List.range_eq_range'] at this
 | seq x y ihx ihy =>
  intro off s Q a w hL h r
  unfold codeX at h
  refine wpIn_seq ?_
  have hx := ihx off s _ a w (fun j cj hj sp hsp => hL j cj (by
   unfold loopAt
   have hlt : j < nloops x := by
    rcases Nat.lt_or_ge j (nloops x) with h' | h'
    ·exact h'
    ·exfalso
     rw [loopAt_none x j h'] at hj; cases hj
   have : Nat.blt j (nloops x) = true := by rw [Nat.blt_eq]; exact hlt
   rw [this]; exact hj) sp hsp) (Tree.sat_bind h) r
  refine wpIn_mono hx ?_
  rintro e a' w' ⟨ex, s', rfl, hq, hr⟩
  cases ex with
  | normal =>
   simp only [AEx.ex, Exit.then]
   refine ihy (off + nloops x) s' Q a' w' (fun j cj hj sp hsp => hL (nloops x + j) cj ?_ sp (by rw [← Nat.add_assoc]; exact hsp)) hq hr
   unfold loopAt
   have : Nat.blt (nloops x + j) (nloops x) = false := by rw [Bool.eq_false_iff, ne_eq, Nat.blt_eq]; omega
   rw [this]
   simpa using hj
  | exit i => exact ⟨.exit i, s', rfl, hq, hr⟩
  | ret => exact ⟨.ret, s', rfl, hq, hr⟩
 | cond t x y ihx ihy =>
  intro off s Q a w hL h r
  have hLx : ∀ j cj, loopAt x j = some cj → ∀ sp, L[off + j]? = some sp → LSoundC P ro cx cj sp := by
   intro j cj hj sp hsp
   refine hL j cj ?_ sp hsp
   unfold loopAt
   split
   ·exact hj
   ·rename_i hb
    exfalso
    have hge : nloops x ≤ j := by
     rw [Bool.eq_false_iff, ne_eq, Nat.blt_eq] at hb; omega
    rw [loopAt_none x j hge] at hj; cases hj
  have hLy : ∀ j cj, loopAt y j = some cj → ∀ sp, L[off + nloops x + j]? = some sp → LSoundC P ro cx cj sp := by
   intro j cj hj sp hsp
   refine hL (nloops x + j) cj ?_ sp (by rw [← Nat.add_assoc]; exact hsp)
   unfold loopAt
   have : Nat.blt (nloops x + j) (nloops x) = false := by rw [Bool.eq_false_iff, ne_eq, Nat.blt_eq]; omega
   rw [this]
   simpa using hj
  unfold codeX at h
  have r0 := r
  obtain ⟨w0, T, e, hΦ, re⟩ := r
  have hc := rho_rep re.slots t
  split at h
  ·rename_i heq; rw [heq] at hc; exact wpIn_cond_true hc.lit_inv (ihx off s Q a w hLx h r0)
  ·rename_i heq; rw [heq] at hc; exact wpIn_cond_false hc.lit_inv (ihy _ s Q a w hLy h r0)
  ·rename_i b heq
   rw [heq] at hc
   cases b
   ·exact wpIn_cond_false hc.x_inv (ihy _ _ Q a w hLy (h.2 rfl) (cond_rel r0 heq rfl))
   ·exact wpIn_cond_true hc.x_inv (ihx _ _ Q a w hLx (h.1 rfl) (cond_rel r0 heq rfl))
  ·exact h.elim
 | block id c ih =>
  intro off s Q a w hL h r
  unfold codeX at h
  refine wpIn_block (wpIn_mono (ih off s _ a w hL (Tree.sat_bind h) r) ?_)
  rintro e a' w' ⟨ex, s', rfl, hq, hr⟩
  cases ex with
  | normal => exact ⟨.normal, s', rfl, hq, hr⟩
  | ret => exact ⟨.ret, s', rfl, hq, hr⟩
  | exit i =>
   simp only [AEx.ex, Exit.inBlock]
   simp only at hq
   split at hq
   ·rename_i hb
    rw [if_pos (Nat.eq_of_beq_eq_true hb)]
    exact ⟨.normal, s', rfl, hq, hr⟩
   ·rename_i hb
    rw [if_neg (fun he => by subst he; simp at hb)]
    exact ⟨.exit i, s', rfl, hq, hr⟩
 | scope c ih =>
  intro off s Q a w hL h r
  unfold codeX at h
  refine wpIn_scope (wpIn_mono (ih off s Q a w hL h r) ?_)
  rintro e a' w' ⟨ex, s', rfl, hq, hr⟩
  cases ex with
  | normal => exact ⟨.normal, s', rfl, hq, hr⟩
  | ret => exact ⟨.ret, s', rfl, hq, hr⟩
  | exit i => exact ⟨.exit i, s', rfl, hq, hr⟩
 | loop c ih =>
  intro off s Q a w hL h r
  unfold codeX at h
  split at h
  ·rename_i f hf
   split at h
   ·rename_i t ht
    exact hL 0 _ rfl f (by simpa using hf) n s t ht Q h a w r
   ·exact h.elim
  ·exact h.elim
 | rangeFunc f ps x y ihx ihy =>
  intro off s Q a w hL h r
  unfold codeX at h
  split at h
  ·rename_i f hf
   split at h
   ·rename_i t ht
    exact hL 0 _ rfl f (by simpa using hf) n s t ht Q h a w r
   ·exact h.elim
  ·exact h.elim
 | exit id => intro off s Q a w _ h r; exact wpIn_exit ⟨.exit id, s, rfl, h, r⟩
 | ret => intro off s Q a w _ h r; exact wpIn_ret ⟨.ret, s, rfl, h, r⟩
 | goto l => intro off s Q a w _ h r; exact h.elim
 | refuse y => intro off s Q a w _ h r; exact h.elim
def fullB (P : Program) (m : Mem) (t : TypeId) : AV → Bool
 | .ptr id off => match Nat.beq off 0 with
  | true => match getM m id with
   | some (.ints _ pre n _) => match pre with
    | [] => match P.info? t with
     | some i => Nat.ble i.size n && Nat.blt 0 n
     | none => false
    | _ :: _ => false
   | _ => false
  | false => false
 | _ => false
theorem fullB_need {P : Program} {m : Mem} {t : TypeId} {a : AV} {ns : List Prop} {v : AV} {add : Option Res} (h : fullB P m t a = true) (hl : opLoad P m t a = some (ns, v, add)) : ∀ p ∈ ns, p := by
 unfold fullB at h
 split at h
 ·rename_i id off
  split at h
  ·rename_i hoff
   have hoff := Nat.eq_of_beq_eq_true hoff
   subst hoff
   split at h
   ·rename_i T pre n f hg
    split at h
    ·split at h
     ·rename_i i hi
      simp only [Bool.and_eq_true] at h
      have h1 := Nat.le_of_ble_eq_true h.1
      have h2 : 0 < n := by have := h.2; simp [Nat.blt] at this; omega
      simp only [opLoad, hg] at hl
      unfold ldI at hl
      split at hl
      ·rename_i hb
       simp at hb
      ·split at hl
       ·rename_i fs i' hu hi'
        rw [hi] at hi'
        cases hi'
        simp only [Option.some.injEq, Prod.mk.injEq] at hl
        obtain ⟨rfl, _, _⟩ := hl
        intro p hp
        rw [List.mem_singleton.1 hp, subN_eq]
        simpa using h1
       ·rename_i fs i' hu hi'
        rw [hi] at hi'
        cases hi'
        simp only [Option.some.injEq, Prod.mk.injEq] at hl
        obtain ⟨rfl, _, _⟩ := hl
        intro p hp
        rw [List.mem_singleton.1 hp, subN_eq]
        simpa using h1
       ·simp only [Option.some.injEq, Prod.mk.injEq] at hl
        obtain ⟨rfl, _, _⟩ := hl
        intro p hp
        rw [List.mem_singleton.1 hp, subN_eq]
        simpa using h2
       ·cases hl
     ·cases h
    ·cases h
   ·cases h
  ·cases h
 ·cases h
def resOne (P : Program) (s : St) : ResultVar → Option AV
 | .tmp t => some (s.σ.getD t .top)
 | .cell t T => match opLoad P s.m T (s.σ.getD t .top) with
  | some ([], v, none) => some v
  | some (_ :: _, v, none) => match fullB P s.m T (s.σ.getD t .top) with
   | true => some v
   | false => none
  | _ => none
def resL (P : Program) (s : St) : List ResultVar → Option (List AV)
 | [] => some []
 | r :: rs => match resOne P s r, resL P s rs with
  | some v, some vs => some (v :: vs)
  | _, _ => none
def resA (P : Program) (s : St) (rs : List ResultVar) : Option AV :=
 match resL P s rs with
 | some [v] => some v
 | some vs => some (.tup vs)
 | none => none
def resSem (tmps : Array Value) : ResultVar → Sem Value
 | .tmp t => pure (tmps.getD t undef)
 | .cell p t => do loadVar t (← asAddr (tmps.getD p undef))
theorem results_eq (fn : Func) (tmps : Array Value) : results fn tmps = (do let vs ← fn.results.mapM (resSem tmps); pure (if h : vs.size = 1 then vs[0] else .tuple vs)) := by
 unfold results
 congr 1
theorem resOne_sound {P : Program} {e : Env} {s : St} {tmps : Array Value} {w : World} (hm : MemOk e s.m w) (hs : RepL e w s.σ tmps.toList) {x : ResultVar} {v : AV} (h : resOne P s x = some v) :
  ∃ u, (resSem tmps x).run P w = .ok u w ∧ Rep e w v u := by
 cases x with
 | tmp t =>
  simp only [resOne, Option.some.injEq] at h
  subst h
  exact ⟨_, rfl, rho_rep (a := { tmps := tmps, defers := [] }) hs (.tmp t)⟩
 | cell p T =>
  simp only [resOne] at h
  have fin : ∀ (ns : List Prop) (v' : AV), opLoad P s.m T (s.σ.getD p .top) = some (ns, v', none) → (∀ p ∈ ns, p) → v' = v → ∃ u, (resSem tmps (.cell p T)).run P w = .ok u w ∧ Rep e w v u := by
   rintro ns v' hl hn rfl
   have hr := rho_rep (a := { tmps := tmps, defers := [] }) hs (.tmp p)
   simp only [rho, Act.eval] at hr
   obtain ⟨_, ad, u, had, hu, hrep⟩ := opLoad_core (P := P) hl hn hm hr
   exact ⟨u, by simp only [resSem, had, asAddr, Sem.run_bind, Sem.run_pure, Result.andThen_ok, hu], hrep⟩
  split at h
  ·rename_i v' hl
   cases h
   exact fin _ _ hl (fun p hp => by cases hp) rfl
  ·rename_i q qs v' hl
   split at h
   ·rename_i hf
    cases h
    exact fin _ _ hl (fullB_need hf hl) rfl
   ·cases h
  ·cases h
theorem resL_sound {P : Program} {e : Env} {s : St} {tmps : Array Value} {w : World} (hm : MemOk e s.m w) (hs : RepL e w s.σ tmps.toList) : ∀ {rs : List ResultVar} {vs : List AV}, resL P s rs = some vs →
  ∃ us : List Value, (rs.mapM (resSem tmps)).run P w = .ok us w ∧ RepL e w vs us
 | [], vs, h => by simp [resL] at h; subst h; exact ⟨[], by simp, RepL.nil e w⟩
 | x :: rs, vs, h => by
  unfold resL at h
  split at h
  ·rename_i v vs' h1 h2
   cases h
   obtain ⟨u, hu, hr⟩ := resOne_sound hm hs h1
   obtain ⟨us, hus, hrs⟩ := resL_sound hm hs h2
   exact ⟨u :: us, by simp only [List.mapM_cons, Sem.run_bind, hu, Result.andThen_ok, hus, Sem.run_pure], RepL.cons hr hrs⟩
  ·cases h
theorem resA_soundM {P : Program} {e : Env} {s : St} {tmps : Array Value} {w : World} (hm : MemOk e s.m w) (hs : RepL e w s.σ tmps.toList) {fn : Func} {v : AV} (h : resA P s fn.results.toList = some v) : ∃ u, (results fn tmps).run P w = .ok u w ∧ Rep e w v u := by
 unfold resA at h
 have key : ∀ vs, resL P s fn.results.toList = some vs → ∃ us : List Value, RepL e w vs us ∧ (results fn tmps).run P w = .ok (if h : us.toArray.size = 1 then us.toArray[0] else .tuple us.toArray) w := by
  intro vs hvs
  obtain ⟨us, hus, hrs⟩ := resL_sound hm hs hvs
  refine ⟨us, hrs, ?_⟩
  rw [results_eq, Array.mapM_eq_mapM_toList]
  simp only [Sem.run_bind, Sem.run_map, hus, Result.andThen_ok, Sem.run_pure]
 split at h
 ·rename_i v' hv
  cases h
  obtain ⟨us, hrs, hrun⟩ := key _ hv
  obtain ⟨u, us', rfl, hu, hus⟩ := hrs.cons_inv
  cases hus.nil_inv
  exact ⟨u, by simpa using hrun, hu⟩
 ·rename_i vs hne hv
  cases h
  obtain ⟨us, hrs, hrun⟩ := key _ hv
  refine ⟨.tuple us.toArray, ?_, Rep.tupL hrs⟩
  have hlen : us.toArray.size ≠ 1 := by
   intro h1
   simp at h1
   have hvl : vs.length = 1 := by rw [hrs.1, h1]
   obtain ⟨x, hx⟩ := List.length_eq_one_iff.1 hvl
   exact hne x hx
  rw [dif_neg hlen] at hrun
  exact hrun
 ·cases h
inductive Fits (m : Mem) : AV → AV → Prop
 | top (r : AV) : Fits m r .top
 | x (v : Value) : Fits m (.x v) (.x v)
 | lit (b : Bool) : Fits m (.lit b) (.lit b)
 | litx (b : Bool) : Fits m (.lit b) (.x (.bool b))
 | agg (l l' : List AV) : l.length = l'.length → (∀ (i : Nat) (a b : AV), l[i]? = some a → l'[i]? = some b → Fits m a b) → Fits m (.agg l) (.agg l')
 | tup (l l' : List AV) : l.length = l'.length → (∀ (i : Nat) (a b : AV), l[i]? = some a → l'[i]? = some b → Fits m a b) → Fits m (.tup l) (.tup l')
 | row (id T sz n : Nat) (f f' : Nat → List AV) : getM m id = some (.row T sz n f) → (∀ i, i < n → f i = f' i) → (∀ i, i < n → ∀ a ∈ f' i, ∃ v, a = .x v) → Fits m (.row id) (.lst sz n f')
 | nil (sz : Nat) (f : Nat → List AV) : Fits m (.x (.slice none 0 0)) (.lst sz 0 f)
 | fn0 (f : Fn) : Fits m (.fn f [] []) (.fn f [] [])
theorem Fits.rep {e : Env} {B : Nat} {w0 w : World} {m : Mem} (hE : EnvOk e B w) (hB : w0.heap.size = B) (hm : MemOk e m w) {r res : AV} {v : Value} (h : Fits m r res) (k : Rep e w r v) : Rep (freshE w0 w) w res v := by
 induction h generalizing v with
 | top r => exact .top v
 | x u => cases k.x_inv; exact .x _
 | lit b => cases k.lit_inv; exact .lit _
 | litx b => cases k.lit_inv; exact .x _
 | agg l l' hl hf ih =>
  obtain ⟨vs, rfl, h1, h2⟩ := k.agg_inv
  refine .agg l' vs (by rw [← hl, h1]) (fun i a u ha hu => ?_)
  have hi : i < l.length := by rw [hl]; exact (List.getElem?_eq_some_iff.1 ha).1
  exact ih i _ a (List.getElem?_eq_getElem hi) ha (h2 i _ u (List.getElem?_eq_getElem hi) hu)
 | tup l l' hl hf ih =>
  obtain ⟨vs, rfl, h1, h2⟩ := k.tup_inv
  refine .tup l' vs (by rw [← hl, h1]) (fun i a u ha hu => ?_)
  have hi : i < l.length := by rw [hl]; exact (List.getElem?_eq_some_iff.1 ha).1
  exact ih i _ a (List.getElem?_eq_getElem hi) ha (h2 i _ u (List.getElem?_eq_getElem hi) hu)
 | row id T sz n f f' hg hff hx =>
  obtain ⟨_, hown, hf, xs, ho, hrep⟩ := hm _ (getM_mem hg)
  dsimp only at hown ho
  cases k with
  | row _ a n' c hl hv =>
   rw [hv] at ho hown
   rcases ho.2 with ⟨hv0, hn0⟩ | ⟨g, cap, cur, hv0, _, hgg, hnc, hcm, hcs, htake⟩
   ·cases hv0; subst hn0; exact .lstNil _ _
   ·cases hv0
    have hob := hown g rfl
    have hbd := hE.owned _ _ hob
    refine Rep.lst (e := freshE w0 w) (w := w) sz _ f' g 0 _ (fun i j => xs.getD (i * sz + j) .nilIface) (fun _ => ⟨by rw [hB]; exact hbd.1, hbd.2⟩) (fun _ => hbd.2) (fun i hi a ha => ?_) hnc hcm ?_ (fun i hi => by rw [← hff i hi]; exact (hf i hi).1) ?_ _ (fun _ => rfl)
    ·obtain ⟨u, rfl⟩ := hx i hi a ha; exact .x u
    ·intro i j hi hj
     have hle : i * sz + sz ≤ n * sz := by
      have := Nat.mul_le_mul_right sz (Nat.succ_le_of_lt hi)
      rwa [Nat.succ_mul] at this
     have hlt2 : i * sz + j < xs.length := by rw [ho.1]; omega
     have hc := ho.cells (g := g) rfl (i * sz + j) xs[i * sz + j] (List.getElem?_eq_getElem hlt2)
     rw [addrAdd] at hc
     rw [hc]
     simp [List.getD, List.getElem?_eq_getElem hlt2]
    ·intro i j a hi ha
     have hj : j < sz := by rw [← (hf i hi).1, hff i hi]; exact (List.getElem?_eq_some_iff.1 ha).1
     have hle : i * sz + sz ≤ n * sz := by
      have := Nat.mul_le_mul_right sz (Nat.succ_le_of_lt hi)
      rwa [Nat.succ_mul] at this
     have hlt2 : i * sz + j < xs.length := by rw [ho.1]; omega
     obtain ⟨u, rfl⟩ := hx i hi a (List.mem_of_getElem? ha)
     have := hrep i j (.x u) xs[i * sz + j] hi (by rw [hff i hi]; exact ha) (List.getElem?_eq_getElem hlt2)
     simp only [List.getD, List.getElem?_eq_getElem hlt2, Option.getD_some]
     rw [this.x_inv]; exact .x _
 | nil sz f => cases k.x_inv; exact .lstNil sz f
 | fn0 f =>
  obtain ⟨vs, vs', rfl, h1, h2⟩ := k.fn_inv
  cases h1.nil_inv; cases h2.nil_inv
  exact .fn f [] [] [] [] rfl (fun i a v h => by simp at h) rfl (fun i a v h => by simp at h)
def startS (fn : Func) (avs : List AV) : St := { σ := avs ++ List.replicate (fn.ntmps - avs.length) .top, m := [], nx := 0 }
def EndOk (P : Program) (fn : Func) (res : AV) (p : AEx × St) : Prop := (match p.1 with | .exit _ => False | _ => True) ∧ ∃ r, resA P p.2 fn.results.toList = some r ∧ Fits p.2.m r res
def codeT (P : Program) (G : List (Nat × Spec)) (L : List LSpec) (c : Code) (off : Nat) (s : St) : CT := codeX P G {} L c off s
theorem Rep.sameCells {e : Env} {w w' : World} (hsz : w'.heap.size = w.heap.size) (hc : ∀ ad, w'.cell? ad = w.cell? ad) {a : AV} {v : Value} (h : Rep e w a v) : Rep e w' a v := by
 induction h with
 | top v => exact .top v
 | lit b => exact .lit b
 | x v => exact .x v
 | agg l vs h1 h2 ih => exact .agg l vs h1 ih
 | tup l vs h1 h2 ih => exact .tup l vs h1 ih
 | fn f l l' vs vs' h1 h2 h3 h4 ih1 ih2 => exact .fn f l l' vs vs' h1 ih1 h3 ih2
 | ptr id off hl => exact .ptr id off hl
 | row id a n c hl hv => exact .row id a n c hl hv
 | elt id sz i j b n cap hl hv => exact .elt id sz i j b n cap hl hv
 | ro l vs b o hr hb hf h1 h2 h3 ih => exact .ro l vs b o hr (by rw [hsz]; exact hb) hf h1 (fun j v hj => by rw [hc]; exact h2 j v hj) ih
 | lstNil sz f => exact .lstNil sz f
 | lst sz n f b o cap g hr hb hf hcap hm h1 h2 h3 ad had ih => exact .lst sz n f b o cap g hr (fun h => by rw [hsz]; exact hb h) hf hcap hm (fun i j hi hj => by rw [hc]; exact h1 i j hi hj) h2 ih ad had
 | mp id hl => exact .mp id hl
 | roI pre n f off b o h ih => exact .roI pre n f off b o ih
theorem RepL.sameCells {e : Env} {w w' : World} (hsz : w'.heap.size = w.heap.size) (hc : ∀ ad, w'.cell? ad = w.cell? ad) {l : List AV} {vs : List Value} (h : RepL e w l vs) : RepL e w' l vs := ⟨h.1, fun i a v ha hv => (h.2 i a v ha hv).sameCells hsz hc⟩
theorem cell_putObj {w : World} {D : Nat} {o o' : Obj} (h : w.heap[D]? = some o) (ho : o.isCells = false) (ho' : o'.isCells = false) (ad : Addr) : (w.putObj D o').cell? ad = w.cell? ad := by
 have hlt := (Array.getElem?_eq_some_iff.1 h).1
 unfold World.cell?
 by_cases hb : ad.block = D
 ·rw [hb, World.putObj_heap_same hlt, h]
  cases o <;> cases o' <;> simp_all [Obj.isCells]
 ·rw [World.putObj_heap_other hb]
theorem Holds.putObj {e : Env} {w : World} {D : Nat} {o o' : Obj} (h : w.heap[D]? = some o) (ho : o.isCells = false) (ho' : o'.isCells = false) (hown : e.own D = none) {id : Nat} {r : Res} (k : Holds e w id r) : Holds e (w.putObj D o') id r := by
 have hsz : (w.putObj D o').heap.size = w.heap.size := World.putObj_size
 have hc := cell_putObj h ho ho'
 have hother : ∀ b k, e.own b = some k → (w.putObj D o').heap[b]? = w.heap[b]? := fun b k hb => World.putObj_heap_other (fun he => by rw [he, hown] at hb; cases hb)
 cases r with
 | cells T l =>
  obtain ⟨h1, h2, vs, h3, h4⟩ := k
  exact ⟨h1, h2, vs, (hother _ _ h2).trans h3, h4.sameCells hsz hc⟩
 | row T sz n f =>
  obtain ⟨h1, h2, hf, xs, h3, h4⟩ := k
  refine ⟨h1, h2, hf, xs, ⟨h3.1, h3.2.imp (fun h => h) ?_⟩, fun i j a v hi ha hv => (h4 i j a v hi ha hv).sameCells hsz hc⟩
  rintro ⟨g', cap, cur, hv, hg, hh, rest⟩
  exact ⟨g', cap, cur, hv, hg, (hother g' id (h2 g' (by rw [hv]; rfl))).trans hh, rest⟩
 | ints T pre n f =>
  obtain ⟨h1, h2, vs, h3, h4⟩ := k
  exact ⟨h1, h2, vs, (hother _ _ h2).trans h3, h4.sameCells hsz hc⟩
 | memo h' f =>
  obtain ⟨h1, h2, es, c, h3, h4⟩ := k
  exact ⟨h1, h2, es, c, (hother _ _ h2).trans h3, h4⟩
 | aka r T sz n f =>
  obtain ⟨h1, h0, o, hor, h2, hf, xs, h3, h4⟩ := k
  refine ⟨h1, h0, o, hor, h2, hf, xs, ⟨h3.1, h3.2.imp (fun h => h) ?_⟩, fun i j a v hi ha hv => (h4 i j a v hi ha hv).sameCells hsz hc⟩
  rintro ⟨g', cap, cur, hv, hg, hh, rest⟩
  exact ⟨g', cap, cur, hv, hg, (hother g' o (h2 g' (by rw [hv]; rfl))).trans hh, rest⟩
theorem leaves_marks {P : Program} {fn : Func} {R : Ending → World → Prop} {M : Nat → Prop} {w0 : World} {e : Env} {s : St} {tmps : Array Value} {n : Nat} (hB : ∀ D, M D → w0.heap.size ≤ D)
  (fin : ∀ w', EnvOk e w0.heap.size w' → Below w0.heap.size w0 w' → MemOk e s.m w' → RepL e w' s.σ tmps.toList → ∃ v, (results fn tmps).run P w' = .ok v w' ∧ R (.returned v) w') :
  ∀ (ds : List Deferred) (w : World), DefOk M e w ds → EnvOk e w0.heap.size w → Below w0.heap.size w0 w → MemOk e s.m w → RepL e w s.σ tmps.toList → LeavesInM (fr none) n P fn tmps R ds .returning w
 | [], w, _, hE, hb, hm, hs => fin w hE hb hm hs
 | d :: ds, w, hd, hE, hb, hm, hs => by
  obtain ⟨D, h1, h2, h3, h4, h5⟩ := hd.1 d List.mem_cons_self
  refine ⟨by simp, .inl ⟨D, _, by rw [h1], run_takeDeferred h4, ?_⟩⟩
  have hown := (hE.apart D h2).1
  have hsz : (w.putObj D (.deferred none)).heap.size = w.heap.size := World.putObj_size
  refine leaves_marks hB fin ds _ ⟨fun d' hd' => ?_, (List.nodup_cons.1 hd.2).2⟩ ⟨fun b hb => by rw [hsz]; exact hE.apart b hb, fun b k hk => by rw [hsz]; exact hE.owned b k hk⟩ ?_ (fun p hp => (hm p hp).putObj h4 rfl rfl hown) (hs.sameCells hsz (cell_putObj h4 rfl rfl))
  ·obtain ⟨D', k1, k2, k3, k4, k5⟩ := hd.1 d' (List.mem_cons_of_mem _ hd')
   have hne : D' ≠ D := by
    rintro rfl
    exact (List.nodup_cons.1 hd.2).1 (by rw [h1, ← k1]; exact hd')
   exact ⟨D', k1, k2, by rw [hsz]; exact k3, (World.putObj_heap_other hne).trans k4, k5⟩
  ·exact hb.trans ((Below.refl w0.heap.size w).grown (grownBy_putObj' w D _) (by have := hb.size; have := hB D h5; omega) (fun k he => by cases he; exact hB D h5))
def cxOf (w : World) (T : Nat → Prop) : Cx := { M := fun D => w.heap.size ≤ D, Φ := fun _ T' w0 => w0 = w ∧ T' = T, K := fun _ _ => False, saved := [] }
theorem calls_ofG {P : Program} {G : List (Nat × Spec)} {X : Ext} {L : List LSpec} {f : FuncId} {fn : Func} {c : Code} {avs : List AV} (hG : SoundG P G) (hmix : P.follows .mixedOrders = true) (hf : P.funcs[f]? = some fn) (hb : fn.body = some c)
  {cx : Cx} {gh : Option Nat} {w : World} {T : Nat → Prop} {e : Env} {args : List Value} (hX : SoundX P X cx) (hK : ∀ b o, ¬ cx.K b o) (hsv : cx.saved = []) (hsz0 : cx.sz = 0) (hM : ∀ g T w0 D, cx.Φ g T w0 → cx.M D → w0.heap.size ≤ D) (hΦ : cx.Φ gh T w)
  (hT : ∀ b, T b → b < w.heap.size ∧ ¬ e.ro b) (hro : ∀ b, e.ro b → b < w.heap.size) (hidf : ∀ a ∈ avs, Idf a) (hr : RepL e w avs args)
  (hL : ∀ j cj, loopAt c j = some cj → ∀ sp, L[j]? = some sp → LSoundC P none cx cj sp) {E : AEx × St → Prop} (h : (codeX P G X L c 0 { startS fn avs with gh := gh }).sat E) {R : Ending → World → Prop}
  (fin : ∀ x s w0 T' e' tmps w', E (x, s) → cx.Φ s.gh T' w0 → EnvOk e' w0.heap.size w' → Below w0.heap.size w0 w' → MemOk e' s.m w' → (∀ b, T' b → ¬ e'.ro b) → RepL e' w' s.σ tmps.toList → ∃ v, (results fn tmps).run P w' = .ok v w' ∧ R (.returned v) w')
  (hex : ∀ x s, E (x, s) → ∀ i, x ≠ .exit i) : Calls P f args.toArray w R := by
 let e0 : Env := { ro := e.ro, own := fun _ => none, live := fun _ => False, blk := fun _ => 0, val := fun _ => .nilIface }
 have hr0 : RepL e0 w avs args := ⟨hr.1, fun i a v ha hv => Rep.idf (e := e) (e' := e0) (fun _ h => h) (hr.2 i a v ha hv) (hidf a (List.mem_of_getElem? ha))⟩
 have hrel : Rel cx { startS fn avs with gh := gh } { tmps := args.toArray ++ Array.replicate (fn.ntmps - args.toArray.size) undef, defers := [] } w := by
  refine ⟨w, T, e0, hΦ, ⟨fun b hb => ⟨rfl, hro b hb⟩, (fun b k hk => by cases hk)⟩, Below.refl _ _, (fun p hp => by cases hp), (fun k hk => False.elim hk), hT, ⟨⟨(fun d hd => by cases hd), List.nodup_nil⟩, (fun b o h => (hK b o h).elim), ⟨by rw [hsv]; rfl, (fun i a v h => by cases h)⟩, by rw [hsz0]; exact Nat.zero_le _⟩, ?_⟩
  have htop : RepL e0 w (List.replicate (fn.ntmps - avs.length) .top) (List.replicate (fn.ntmps - avs.length) undef) := by
   refine ⟨by simp, fun i a v ha _ => ?_⟩
   have := List.mem_of_getElem? ha
   rw [List.mem_replicate] at this
   rw [this.2]; exact .top v
  have := hr0.append htop
  simpa [startS, hr.1] using this
 refine callsIn_wide (n := 0).1 (callsIn_of_wp_marks (F := fr none) hf hb trivial (wpIn_mono (codeX_sound hG hX hmix c 0 _ _ _ w (fun j cj hj sp hsp => hL j cj hj sp (by simpa using hsp)) h hrel) ?_) rfl)
 rintro ex a' w' ⟨x, s', rfl, hE, w0, T', e', hΦ', re⟩
 have hx := hex x s' hE
 have hfin : LeavesInM (fr none) 0 P fn a'.tmps R a'.defers .returning w' :=
  leaves_marks (M := cx.M) (s := s') (fun D hD => hM _ _ _ D hΦ' hD) (fun w2 q1 q2 q3 q4 => fin x s' w0 T' e' a'.tmps w2 hE hΦ' q1 q2 q3 (fun b hb => (re.foe b hb).2) q4) a'.defers w' re.xt.defers re.env re.below re.mem re.slots
 cases x with
 | normal => exact hfin
 | ret => exact hfin
 | exit i => exact (hx i rfl).elim
def Cx.fun (cx : Cx) : Prop := ∀ g T w0 D, cx.Φ g T w0 → w0.heap.size ≤ D → cx.M D
theorem cxOf_fun (w : World) (T : Nat → Prop) : (cxOf w T).fun := by
 rintro g T' w0 D ⟨rfl, _⟩ h
 exact h
theorem soundAt_ofX {P : Program} {G : List (Nat × Spec)} {X : Ext} {L : List LSpec} {f : FuncId} {fn : Func} {c : Code} {avs : List AV} {res : AV} (hG : SoundG P G) (hX : ∀ cx, SoundX P X cx) (hmix : P.follows .mixedOrders = true) (hf : P.funcs[f]? = some fn) (hb : fn.body = some c)
  (hL : ∀ j cj, loopAt c j = some cj → ∀ sp, L[j]? = some sp → ∀ cx : Cx, cx.fun → LSoundC P none cx cj sp) (h : (codeX P G X L c 0 (startS fn avs)).sat (EndOk P fn res)) : SoundAt P f avs res := by
 intro e w args hro hidf hr
 refine calls_ofG hG hmix hf hb (cx := cxOf w (fun _ => False)) (gh := none) (T := fun _ => False) (e := e) (hX _) (fun _ _ h => h) rfl rfl (by rintro g T w0 D ⟨rfl, _⟩ h; exact h) ⟨rfl, rfl⟩ (fun b h => h.elim) hro hidf hr (fun j cj hj sp hsp => hL j cj hj sp hsp _ (cxOf_fun _ _)) h ?_ ?_
 ·rintro x s w0 T' e' tmps w' ⟨hx, r, hres, hfit⟩ ⟨rfl, _⟩ q1 q2 q3 _ q4
  obtain ⟨u, hu, hrep⟩ := resA_soundM (P := P) q3 q4 hres
  exact ⟨u, hu, u, rfl, q2, hfit.rep q1 rfl q3 hrep⟩
 ·rintro x s ⟨hx, _⟩ i rfl
  exact hx
theorem soundAt_of {P : Program} {G : List (Nat × Spec)} {L : List LSpec} {f : FuncId} {fn : Func} {c : Code} {avs : List AV} {res : AV} (hG : SoundG P G) (hmix : P.follows .mixedOrders = true) (hf : P.funcs[f]? = some fn) (hb : fn.body = some c)
  (hL : ∀ j cj, loopAt c j = some cj → ∀ sp, L[j]? = some sp → LSound P cj sp) (h : (codeT P G L c 0 (startS fn avs)).sat (EndOk P fn res)) : SoundAt P f avs res :=
 soundAt_ofX hG (SoundX.nil P) hmix hf hb (fun j cj hj sp hsp cx _ => hL j cj hj sp hsp none cx) h
end Go.Sx
namespace Go.Sx
open Go Go.RowKit
inductive RV where
 | top
 | x (v : Value)
 | agg (l : List RV)
 | tup (l : List RV)
 | lst (sz n : Nat) (f : Nat → List AV)
 | fn (f : Fn)
def toRV (m : Mem) : Nat → AV → RV
 | 0, a => match a with
  | .lit b => .x (.bool b)
  | .x v => .x v
  | _ => .top
 | d + 1, a => match a with
  | .lit b => .x (.bool b)
  | .x v => .x v
  | .agg l => .agg (l.map (toRV m d))
  | .tup l => .tup (l.map (toRV m d))
  | .row id => match getM m id with
   | some (.row _ sz n f) => .lst sz n f
   | _ => .top
  | .fn f l l' => match l, l' with
   | [], [] => .fn f
   | _, _ => .top
  | _ => .top
def isX : AV → Prop
 | .x _ => True
 | _ => False
def valEq : Value → Value → Prop
 | .int k a, .int k' b => k = k' ∧ a = b
 | .bool a, .bool b => a = b
 | u, v => u = v
theorem valEq_eq {u v : Value} (h : valEq u v) : u = v := by
 cases u <;> cases v <;> simp_all [valEq]
def isNil : Value → Prop
 | .slice none 0 0 => True
 | _ => False
theorem isNil_eq {v : Value} (h : isNil v) : v = .slice none 0 0 := by
 unfold isNil at h
 split at h
 ·rfl
 ·exact h.elim
mutual
def fitP : RV → AV → Prop
 | .top, res => match res with
  | .top => True
  | _ => False
 | .x u, res => match res with
  | .top => True
  | .x v => valEq u v
  | .lst _ n _ => isNil u ∧ n = 0
  | _ => False
 | .agg l, res => match res with
  | .top => True
  | .agg l' => fitL l l'
  | _ => False
 | .tup l, res => match res with
  | .top => True
  | .tup l' => fitL l l'
  | _ => False
 | .lst sz n f, res => match res with
  | .top => True
  | .lst sz' n' f' => sz = sz' ∧ n = n' ∧ ∀ i, i < n' → f i = f' i ∧ ∀ a ∈ f' i, isX a
  | _ => False
 | .fn f, res => match res with
  | .top => True
  | .fn g [] [] => f = g
  | _ => False
def fitL : List RV → List AV → Prop
 | [], l' => match l' with
  | [] => True
  | _ :: _ => False
 | r :: l, l' => match l' with
  | a :: l' => fitP r a ∧ fitL l l'
  | [] => False
end
theorem fitL_get : ∀ {l : List RV} {l' : List AV}, fitL l l' → l.length = l'.length ∧ ∀ (i : Nat) (r : RV) (a : AV), l[i]? = some r → l'[i]? = some a → fitP r a
 | [], [], _ => ⟨rfl, fun i r a h => by simp at h⟩
 | r :: l, a :: l', h => by
  unfold fitL at h
  obtain ⟨h1, h2⟩ := fitL_get h.2
  refine ⟨by simp [h1], fun i r' a' hr ha => ?_⟩
  cases i with
  | zero => simp at hr ha; subst hr; subst ha; exact h.1
  | succ i => simp at hr ha; exact h2 i r' a' hr ha
 | [], _ :: _, h => by simp [fitL] at h
 | _ :: _, [], h => by simp [fitL] at h
theorem isX_x {a : AV} (h : isX a) : ∃ v, a = .x v := by
 cases a <;> first | exact ⟨_, rfl⟩ | exact h.elim
theorem fitP_x {m : Mem} {a : AV} {u : Value} {res : AV} (h : fitP (.x u) res) (ha : ∀ v, u = v → Fits m a (.x v)) (hn : u = .slice none 0 0 → ∀ sz f, Fits m a (.lst sz 0 f)) : Fits m a res := by
 cases res with
 | top => exact .top a
 | x v => exact ha v (valEq_eq h)
 | lst sz n f => obtain ⟨h1, h2⟩ := h; subst h2; exact hn (isNil_eq h1) sz f
 | _ => exact h.elim
theorem fitP_fits {m : Mem} : ∀ (d : Nat) (a res : AV), fitP (toRV m d a) res → Fits m a res
 | 0, a, res, h => by
  cases a with
  | lit b => exact fitP_x h (fun v hv => by subst hv; exact .litx b) (fun hu => by cases hu)
  | x v => exact fitP_x h (fun u hu => by subst hu; exact .x v) (fun hu sz f => by subst hu; exact .nil sz f)
  | _ => cases res <;> first | exact .top _ | exact h.elim
 | d + 1, a, res, h => by
  have ih := fitP_fits (m := m) d
  cases a with
  | lit b => exact fitP_x h (fun v hv => by subst hv; exact .litx b) (fun hu => by cases hu)
  | x v => exact fitP_x h (fun u hu => by subst hu; exact .x v) (fun hu sz f => by subst hu; exact .nil sz f)
  | agg l =>
   cases res with
   | top => exact .top _
   | agg l' =>
    obtain ⟨h1, h2⟩ := fitL_get (show fitL (l.map (toRV m d)) l' from h)
    exact .agg l l' (by simpa using h1) (fun i a b ha hb => ih a b (h2 i _ b (by simp [ha]) hb))
   | _ => exact h.elim
  | tup l =>
   cases res with
   | top => exact .top _
   | tup l' =>
    obtain ⟨h1, h2⟩ := fitL_get (show fitL (l.map (toRV m d)) l' from h)
    exact .tup l l' (by simpa using h1) (fun i a b ha hb => ih a b (h2 i _ b (by simp [ha]) hb))
   | _ => exact h.elim
  | row id =>
   simp only [toRV] at h
   split at h
   ·rename_i T sz n f hg
    cases res with
    | top => exact .top _
    | lst sz' n' f' =>
     obtain ⟨rfl, rfl, h3⟩ := h
     exact .row id T sz n f f' hg (fun i hi => (h3 i hi).1) (fun i hi a ha => isX_x ((h3 i hi).2 a ha))
    | _ => exact h.elim
   ·cases res <;> first | exact .top _ | exact h.elim
  | fn f l l' =>
   simp only [toRV] at h
   split at h
   ·unfold fitP at h
    split at h
    ·exact .top _
    ·subst h; exact .fn0 _
    ·exact h.elim
   ·cases res <;> first | exact .top _ | exact h.elim
  | _ => cases res <;> first | exact .top _ | exact h.elim
def finT (P : Program) (rs : List ResultVar) (t : CT) : Tree RV := t.bind fun p => match p.1 with
 | .exit _ => .fail
 | _ => match resA P p.2 rs with
  | some r => .leaf (toRV p.2.m 6 r)
  | none => .fail
def LSoundN (P : Program) (c : Code) (sp : LSpec) : Prop := ∀ cx : Cx, cx.fun → LSoundC P none cx c sp
theorem LSound.N {P : Program} {c : Code} {sp : LSpec} (h : LSound P c sp) : LSoundN P c sp := fun cx _ => h none cx
theorem endOk_fin {P : Program} {fn : Func} {res : AV} {t : CT} (h : (finT P fn.results.toList t).sat (fun r => fitP r res)) : t.sat (EndOk P fn res) := by
 refine Tree.sat_mono ?_ (Tree.sat_bind h)
 rintro ⟨x, s⟩ hs
 cases x with
 | exit i => exact hs.elim
 | normal =>
  simp only at hs
  split at hs
  ·rename_i r hr; exact ⟨trivial, r, hr, fitP_fits 6 r res hs⟩
  ·exact hs.elim
 | ret =>
  simp only at hs
  split at hs
  ·rename_i r hr; exact ⟨trivial, r, hr, fitP_fits 6 r res hs⟩
  ·exact hs.elim
theorem soundAt_fin {P : Program} {G : List (Nat × Spec)} {L : List LSpec} {f : FuncId} {fn : Func} {c : Code} {avs : List AV} {res : AV} {t : Tree RV} (hG : SoundG P G) (hmix : P.follows .mixedOrders = true) (hf : P.funcs[f]? = some fn) (hb : fn.body = some c)
  (hL : ∀ j cj, loopAt c j = some cj → ∀ sp, L[j]? = some sp → LSound P cj sp) (ht : finT P fn.results.toList (codeT P G L c 0 (startS fn avs)) = t) (h : t.sat (fun r => fitP r res)) : SoundAt P f avs res := by
 subst ht
 exact soundAt_of hG hmix hf hb hL (endOk_fin h)
theorem soundAt_finX {P : Program} {G : List (Nat × Spec)} {X : Ext} {L : List LSpec} {f : FuncId} {fn : Func} {c : Code} {avs : List AV} {res : AV} {t : Tree RV} (hG : SoundG P G) (hX : ∀ cx, SoundX P X cx) (hmix : P.follows .mixedOrders = true) (hf : P.funcs[f]? = some fn) (hb : fn.body = some c)
  (hL : ∀ j cj, loopAt c j = some cj → ∀ sp, L[j]? = some sp → LSoundN P cj sp) (ht : finT P fn.results.toList (codeX P G X L c 0 (startS fn avs)) = t) (h : t.sat (fun r => fitP r res)) : SoundAt P f avs res := by
 subst ht
 exact soundAt_ofX hG hX hmix hf hb hL (endOk_fin h)
theorem noLoops {P : Program} {c : Code} : ∀ j cj, loopAt c j = some cj → ∀ sp, ([] : List LSpec)[j]? = some sp → LSound P cj sp := fun j cj _ sp hsp => by simp at hsp
theorem noLoopsS {S : Code → LSpec → Prop} {c : Code} : ∀ j cj, loopAt c j = some cj → ∀ sp, ([] : List LSpec)[j]? = some sp → S cj sp := fun j cj _ sp hsp => by simp at hsp
def belowB (N : Nat) : Nat → AV → Bool
 | 0, a => a.idf
 | d + 1, a => match a with
  | .ptr id _ => Nat.blt id N
  | .row id => Nat.blt id N
  | .elt id _ _ _ => Nat.blt id N
  | .mp id => Nat.blt id N
  | .agg l => l.all (belowB N d)
  | .tup l => l.all (belowB N d)
  | .fn _ l l' => l.all (belowB N d) && l'.all (belowB N d)
  | a => a.idf
def Env.kill (e : Env) (N : Nat) : Env := { e with live := fun k => e.live k ∧ k < N }
theorem rep_kill {e : Env} {w : World} {N : Nat} : ∀ (d : Nat) (a : AV) (v : Value), belowB N d a = true → Rep e w a v → Rep (e.kill N) w a v
 | 0, a, v, h, r => Rep.idf (e := e) (e' := e.kill N) (fun _ h => h) r (idf_of r h)
 | d + 1, a, v, h, r => by
  have ih := rep_kill (e := e) (w := w) (N := N) d
  have lt : ∀ id, Nat.blt id N = true → id < N := fun id hb => by rw [Nat.blt_eq] at hb; exact hb
  cases r with
  | ptr id off hl => exact .ptr (e := e.kill N) id off ⟨hl, lt id h⟩
  | row id a n c hl hv => exact .row (e := e.kill N) id a n c ⟨hl, lt id h⟩ hv
  | elt id sz i j b n cap hl hv => exact .elt (e := e.kill N) id sz i j b n cap ⟨hl, lt id h⟩ hv
  | mp id hl => exact .mp (e := e.kill N) id ⟨hl, lt id h⟩
  | agg l vs h1 h2 => exact .agg l vs h1 (fun i a v ha hv => ih a v (List.all_eq_true.1 h a (List.mem_of_getElem? ha)) (h2 i a v ha hv))
  | tup l vs h1 h2 => exact .tup l vs h1 (fun i a v ha hv => ih a v (List.all_eq_true.1 h a (List.mem_of_getElem? ha)) (h2 i a v ha hv))
  | fn f l l' vs vs' h1 h2 h3 h4 =>
   simp only [belowB, Bool.and_eq_true] at h
   exact .fn f l l' vs vs' h1 (fun i a v ha hv => ih a v (List.all_eq_true.1 h.1 a (List.mem_of_getElem? ha)) (h2 i a v ha hv)) h3 (fun i a v ha hv => ih a v (List.all_eq_true.1 h.2 a (List.mem_of_getElem? ha)) (h4 i a v ha hv))
  | top v => exact .top v
  | lit b => exact .lit b
  | x v => exact .x v
  | ro l vs b o h1 h2 h3 h4 h5 h6 => exact Rep.idf (e := e) (e' := e.kill N) (fun _ h => h) (.ro l vs b o h1 h2 h3 h4 h5 h6) (.ro l h3)
  | lstNil sz f => exact .lstNil sz f
  | roI pre n f off b o hr => exact Rep.idf (e := e) (e' := e.kill N) (fun _ h => h) (.roI pre n f off b o hr) (idf_of (Rep.roI pre n f off b o hr) rfl)
  | lst sz n f b o cap g h1 h2 h3 h4 h5 h6 h7 h8 ad had => exact Rep.idf (e := e) (e' := e.kill N) (fun _ h => h) (.lst sz n f b o cap g h1 h2 h3 h4 h5 h6 h7 h8 ad had) (.lst sz n f h3)
def neqs : List AV → List AV → List Prop
 | a :: l, b :: l' => match b with
  | .top => neqs l l'
  | .x (.int k y) => match a with
   | .x (.int k' x) => match decide (k = k') with
    | true => (x = y) :: neqs l l'
    | false => [False]
   | _ => [False]
  | .x (.bool y) => match a with
   | .x (.bool x) => (x = y) :: neqs l l'
   | .lit x => (x = y) :: neqs l l'
   | _ => [False]
  | b => (a = b) :: neqs l l'
 | [], [] => []
 | _, _ => [False]
theorem neqs_rep {e : Env} {w : World} : ∀ {l l' : List AV} {vs : List Value}, (∀ p ∈ neqs l l', p) → RepL e w l vs → RepL e w l' vs
 | [], [], vs, _, r => r
 | a :: l, b :: l', vs, h, r => by
  obtain ⟨v, vs', rfl, hv, hvs⟩ := r.cons_inv
  unfold neqs at h
  split at h
  ·exact RepL.cons (.top v) (neqs_rep h hvs)
  ·split at h
   ·split at h
    ·rename_i hk
     have hk' := of_decide_eq_true hk
     subst hk'
     have : _ = _ := h _ List.mem_cons_self
     subst this
     exact RepL.cons hv (neqs_rep (fun p hp => h p (List.mem_cons_of_mem _ hp)) hvs)
    ·exact (h False (by simp)).elim
   ·exact (h False (by simp)).elim
  ·split at h
   ·have : _ = _ := h _ List.mem_cons_self
    subst this
    exact RepL.cons hv (neqs_rep (fun p hp => h p (List.mem_cons_of_mem _ hp)) hvs)
   ·have : _ = _ := h _ List.mem_cons_self
    subst this
    cases hv
    exact RepL.cons (.x _) (neqs_rep (fun p hp => h p (List.mem_cons_of_mem _ hp)) hvs)
   ·exact (h False (by simp)).elim
  ·have : _ = _ := h _ List.mem_cons_self
   subst this
   exact RepL.cons hv (neqs_rep (fun p hp => h p (List.mem_cons_of_mem _ hp)) hvs)
 | [], _ :: _, _, h, _ => (h False (by simp [neqs])).elim
 | _ :: _, [], _, h, _ => (h False (by simp [neqs])).elim
def resEq : Res → Res → List Prop
 | .cells T l, .cells T' l' => match Nat.beq T T' with
  | true => neqs l l'
  | false => [False]
 | .row T sz n f, .row T' sz' n' f' => match Nat.beq T T' && Nat.beq sz sz' with
  | true => [n = n', ∀ i, i < n' → f i = f' i]
  | false => [False]
 | .memo h f, .memo h' f' => [∀ k, h k → h' k ∧ f k = f' k]
 | .ints T pre n f, .ints T' pre' n' f' => match Nat.beq T T' with
  | true => neqs pre pre' ++ [n = n', ∀ k, k < n' → f k = f' k]
  | false => [False]
 | _, _ => [False]
theorem resEq_holds {e : Env} {w : World} {id : Nat} {r r' : Res} (h : ∀ p ∈ resEq r r', p) (k : Holds e w id r) : Holds e w id r' := by
 cases r with
 | cells T l =>
  cases r' with
  | cells T' l' =>
   simp only [resEq] at h
   split at h
   ·rename_i hb
    have : T = T' := Nat.eq_of_beq_eq_true hb
    subst this
    obtain ⟨h1, h2, vs, h3, h4⟩ := k
    exact ⟨h1, h2, vs, h3, neqs_rep h h4⟩
   ·exact (h False (by simp)).elim
  | row _ _ _ _ => exact (h False (by simp [resEq])).elim
  | memo _ _ => exact (h False (by simp [resEq])).elim
  | ints _ _ _ _ => exact (h False (by simp [resEq])).elim
  | aka _ _ _ _ _ => exact (h False (by simp [resEq])).elim
 | aka _ _ _ _ _ => cases r' <;> exact (h False (by simp [resEq])).elim
 | ints T pre n f =>
  cases r' with
  | cells _ _ => exact (h False (by simp [resEq])).elim
  | row _ _ _ _ => exact (h False (by simp [resEq])).elim
  | memo _ _ => exact (h False (by simp [resEq])).elim
  | aka _ _ _ _ _ => exact (h False (by simp [resEq])).elim
  | ints T' pre' n' f' =>
   simp only [resEq] at h
   split at h
   ·rename_i hb
    have : T = T' := Nat.eq_of_beq_eq_true hb
    subst this
    obtain ⟨h1, h2, vs, h3, h4⟩ := k
    have hn : n = n' := h _ (by simp)
    subst hn
    have hf : ∀ k, k < n → f k = f' k := h _ (by simp)
    have hL : intsL n f = intsL n f' := List.map_congr_left (fun k hk => by rw [hf k (List.mem_range.1 hk)])
    refine ⟨h1, h2, vs, h3, ?_⟩
    rw [hL] at h4
    have h5 := h4.take pre.length
    have h6 := h4.drop pre.length
    rw [List.take_left] at h5
    rw [List.drop_left] at h6
    have h7 := (neqs_rep (fun p hp => h p (List.mem_append_left _ hp)) h5).append h6
    rwa [List.take_append_drop] at h7
   ·exact (h False (by simp)).elim
 | memo g f =>
  cases r' with
  | cells _ _ => exact (h False (by simp [resEq])).elim
  | row _ _ _ _ => exact (h False (by simp [resEq])).elim
  | ints _ _ _ _ => exact (h False (by simp [resEq])).elim
  | aka _ _ _ _ _ => exact (h False (by simp [resEq])).elim
  | memo g' f' =>
   have hh : ∀ k, g k → g' k ∧ f k = f' k := h _ (by simp [resEq])
   obtain ⟨h1, h2, es, c, h3, h4⟩ := k
   exact ⟨h1, h2, es, c, h3, fun x hx => ⟨(hh _ (h4 x hx).1).1, (h4 x hx).2.trans (hh _ (h4 x hx).1).2⟩⟩
 | row T sz n f =>
  cases r' with
  | memo _ _ => exact (h False (by simp [resEq])).elim
  | cells _ _ => exact (h False (by simp [resEq])).elim
  | ints _ _ _ _ => exact (h False (by simp [resEq])).elim
  | aka _ _ _ _ _ => exact (h False (by simp [resEq])).elim
  | row T' sz' n' f' =>
   simp only [resEq] at h
   split at h
   ·rename_i hb
    simp only [Bool.and_eq_true] at hb
    have h1 : T = T' := Nat.eq_of_beq_eq_true hb.1
    have h2 : sz = sz' := Nat.eq_of_beq_eq_true hb.2
    subst h1; subst h2
    have h3 : n = n' := h _ (by simp)
    subst h3
    have h4 : ∀ i, i < n → f i = f' i := h _ (by simp)
    obtain ⟨q1, q2, q3, xs, q4, q5⟩ := k
    exact ⟨q1, q2, fun i hi => by rw [← h4 i hi]; exact q3 i hi, xs, q4, fun i j a v hi ha hv => q5 i j a v hi (by rw [h4 i hi]; exact ha) hv⟩
   ·exact (h False (by simp)).elim
def exactB : Res → Bool
 | .cells _ [.x _] => true
 | .cells _ (_ :: _ :: _ :: _ :: .x (.slice _ _ _) :: .x (.slice _ _ _) :: _) => true
 | _ => false
def getE : Mem → Nat → Option Res
 | [], _ => none
 | (k, r) :: t, id => match Nat.beq k id && exactB r with
  | true => some r
  | false => getE t id
theorem getE_mem {id : Nat} {r : Res} : ∀ {m : Mem}, getE m id = some r → (id, r) ∈ m
 | [], h => by simp [getE] at h
 | (k, q) :: t, h => by
  unfold getE at h
  split at h
  ·rename_i hk
   rw [Bool.and_eq_true] at hk
   have : k = id := Nat.eq_of_beq_eq_true hk.1
   subst this
   cases h
   exact List.mem_cons_self
  ·exact List.mem_cons_of_mem _ (getE_mem h)
def pickM (sm : Mem) (id : Nat) (r : Res) : Option Res := match exactB r with
 | true => match getE sm id with
  | some r' => some r'
  | none => getM sm id
 | false => getM sm id
theorem pickM_mem {sm : Mem} {id : Nat} {r r' : Res} (h : pickM sm id r = some r') : (id, r') ∈ sm := by
 unfold pickM at h
 split at h
 ·split at h
  ·rename_i hg
   cases h
   exact getE_mem hg
  ·exact getM_mem h
 ·exact getM_mem h
def memP (sm : Mem) : Mem → List Prop
 | [] => []
 | (id, r) :: t => (match pickM sm id r with
  | some r' => resEq r' r
  | none => [False]) ++ memP sm t
def svP : List (List AV) → List (List AV) → List Prop
 | [], [] => []
 | a :: l, b :: l' => neqs a b ++ svP l l'
 | _, _ => [False]
def ghP : Option Nat → Option Nat → List Prop
 | none, none => []
 | some a, some b => [a = b]
 | _, _ => [False]
theorem svP_rep {e : Env} {w : World} : ∀ {l l' : List (List AV)} {vs : List (List Value)}, (∀ p ∈ svP l l', p) → RepLL e w l vs → RepLL e w l' vs
 | [], [], _, _, r => r
 | a :: l, b :: l', vs, h, r => by
  cases vs with
  | nil => have := r.1; simp at this
  | cons v vs =>
   obtain ⟨a', l'', he, h1, h2⟩ := r.cons_inv
   cases he
   exact RepLL.cons (neqs_rep (fun p hp => h p (List.mem_append_left _ hp)) h1) (svP_rep (fun p hp => h p (List.mem_append_right _ hp)) h2)
 | [], _ :: _, _, h, _ => (h False (by simp [svP])).elim
 | _ :: _, [], _, h, _ => (h False (by simp [svP])).elim
theorem ghP_eq {a b : Option Nat} (h : ∀ p ∈ ghP a b, p) : a = b := by
 cases a <;> cases b
 ·rfl
 ·exact (h False (by simp [ghP])).elim
 ·exact (h False (by simp [ghP])).elim
 ·rename_i x y
  have : x = y := h _ (by simp [ghP])
  rw [this]
def subP (s E : St) : List Prop := neqs s.σ E.σ ++ (memP s.m E.m ++ (svP s.sv E.sv ++ ghP s.gh E.gh))
def resBelow (N : Nat) : Res → Bool
 | .cells _ l => l.all (belowB N 6)
 | .row _ _ _ _ => true
 | .memo _ _ => true
 | .ints _ pre _ _ => pre.all (belowB N 6)
 | .aka _ _ _ _ _ => false
def okB (E : St) : Bool := E.σ.all (belowB E.nx 6) && (E.m.all (fun p => Nat.blt p.1 E.nx && resBelow E.nx p.2) && E.sv.all (fun l => l.all (belowB E.nx 6)))
theorem memP_holds {e : Env} {w : World} {sm : Mem} (hm : MemOk e sm w) : ∀ {m : Mem}, (∀ p ∈ memP sm m, p) → MemOk e m w
 | [], _ => fun p hp => by cases hp
 | (id, r) :: t, h => by
  intro p hp
  rcases List.mem_cons.1 hp with rfl | hp
  ·unfold memP at h
   cases hg : pickM sm id r with
   | none => rw [hg] at h; exact (h False (by simp)).elim
   | some r' =>
    rw [hg] at h
    exact resEq_holds (fun p hp => h p (List.mem_append_left _ hp)) (hm _ (pickM_mem hg))
  ·exact memP_holds hm (m := t) (fun q hq => h q (by unfold memP; exact List.mem_append_right _ hq)) p hp
theorem sub_rel {cx : Cx} {s E : St} {a : Act} {w : World} (h : ∀ p ∈ subP s E, p) (hok : okB E = true) (r : Rel cx s a w) : Rel cx E a w := by
 obtain ⟨w0, T, e, hΦ, r⟩ := r
 simp only [okB, Bool.and_eq_true] at hok
 obtain ⟨ok1, ok2, ok3⟩ := hok
 have hσ := neqs_rep (fun p hp => h p (List.mem_append_left _ hp)) r.slots
 have hm := memP_holds r.mem (fun p hp => h p (List.mem_append_right _ (List.mem_append_left _ hp)))
 have hsv := svP_rep (fun p hp => h p (List.mem_append_right _ (List.mem_append_right _ (List.mem_append_left _ hp)))) r.xt.saved
 have hgh := ghP_eq (fun p hp => h p (List.mem_append_right _ (List.mem_append_right _ (List.mem_append_right _ hp))))
 rw [hgh] at hΦ
 refine ⟨w0, T, e.kill E.nx, hΦ, ⟨r.env.apart, r.env.owned⟩, r.below, ?_, fun k hk => hk.2, r.foe, ⟨r.xt.defers, r.xt.kept, ⟨hsv.1, fun i a v ha hv => ⟨(hsv.2 i a v ha hv).1, fun j b u hb hu => rep_kill 6 b u (List.all_eq_true.1 (List.all_eq_true.1 ok3 a (List.mem_of_getElem? ha)) b (List.mem_of_getElem? hb)) ((hsv.2 i a v ha hv).2 j b u hb hu)⟩⟩, r.xt.size⟩, ⟨hσ.1, fun i a v ha hv => rep_kill 6 a v (List.all_eq_true.1 ok1 a (List.mem_of_getElem? ha)) (hσ.2 i a v ha hv)⟩⟩
 intro p hp
 have hk := hm p hp
 have hb := List.all_eq_true.1 ok2 p hp
 simp only [Bool.and_eq_true] at hb
 have hlt : p.1 < E.nx := by have := hb.1; rw [Nat.blt_eq] at this; exact this
 obtain ⟨id, res⟩ := p
 cases res with
 | cells T l =>
  obtain ⟨h1, h2, vs, h3, h4⟩ := hk
  exact ⟨⟨h1, hlt⟩, h2, vs, h3, h4.1, fun i a v ha hv => rep_kill 6 a v (List.all_eq_true.1 hb.2 a (List.mem_of_getElem? ha)) (h4.2 i a v ha hv)⟩
 | memo g f =>
  obtain ⟨h1, h2, es, c, h3, h4⟩ := hk
  exact ⟨⟨h1, hlt⟩, h2, es, c, h3, h4⟩
 | aka _ _ _ _ _ => simp [resBelow] at hb
 | ints T pre n f =>
  obtain ⟨h1, h2, vs, h3, h4⟩ := hk
  refine ⟨⟨h1, hlt⟩, h2, vs, h3, h4.1, fun i a v ha hv => rep_kill 6 a v ?_ (h4.2 i a v ha hv)⟩
  rcases List.mem_append.1 (List.mem_of_getElem? ha) with hm | hm
  ·exact List.all_eq_true.1 hb.2 a hm
  ·obtain ⟨k, _, rfl⟩ := List.mem_map.1 hm
   rfl
 | row T sz n f =>
  obtain ⟨h1, h2, h3, xs, h4, h5⟩ := hk
  exact ⟨⟨h1, hlt⟩, h2, h3, xs, h4, fun i j a v hi ha hv => Rep.idf (e := e) (e' := e.kill E.nx) (fun _ h => h) (h5 i j a v hi ha hv) ((h3 i hi).2 a (List.mem_of_getElem? ha))⟩
theorem loopIn {F : Fence} {n : Nat} {P : Program} {Q : Exit → Act → World → Prop} {body : Code} {X : Type} (μ : X → Nat) (Inv : X → Act → World → Prop)
  (round : ∀ x a w, Inv x a w → body.wpIn F n P (Exit.then (fun a' w' => ∃ x', μ x' < μ x ∧ Inv x' a' w') Q) a w) {x : X} {a : Act} {w : World} (h : Inv x a w) : (Code.loop body).wpIn F n P Q a w := by
 intro b k cs hro hb hr
 have key : ∀ j x a w, μ x = j → Inv x a w →
   ∃ e a' w', Q e a' w' ∧ ArrivesIn (Machine.fenced P F) P (lone (b.atR a (.code body :: .inLoop body :: k)) cs w) b k cs e a' w' := by
  intro j
  induction j using Nat.strongRecOn with
  | _ j ih =>
   intro x a w hn hI
   obtain ⟨e, a₁, w₁, hq, harr⟩ := round x a w hI b (.inLoop body :: k) cs hro hb hr
   cases e with
   | normal =>
    obtain ⟨x', hlt, hI₁⟩ := hq
    obtain ⟨e₂, a₂, w₂, hq₂, harr₂⟩ := ih (μ x') (hn ▸ hlt) x' a₁ w₁ rfl hI₁
    exact ⟨e₂, a₂, w₂, hq₂, .of_steps (StepsIn.trans harr (.one (fenced_calm hb hr rfl) stepR_inLoop)) harr₂⟩
   | exit id => exact ⟨_, a₁, w₁, hq, .pass (x := .inLoop body) rfl (fun _ _ => .inl (by simp)) harr⟩
   | goto l => exact ⟨_, a₁, w₁, hq, .pass (x := .inLoop body) rfl (fun _ _ => .inl (by simp)) harr⟩
   | ret => exact ⟨_, a₁, w₁, hq, .pass (x := .inLoop body) rfl (fun _ _ => .inl (by simp)) harr⟩
   | panic ch => exact ⟨_, a₁, w₁, hq, .pass (x := .inLoop body) rfl (fun _ _ => .inl (by simp)) harr⟩
   | outgrown => exact ⟨_, a₁, w₁, hq, .pass (x := .inLoop body) rfl (fun _ _ => .inl (by simp)) harr⟩
 obtain ⟨e, a', w', hq, harr⟩ := key _ x a w rfl h
 exact ⟨e, a', w', hq, .of_steps (.one (fenced_calm hb hr rfl) stepR_loop) harr⟩
def sumL (E : St) (t : CT) : LSpec := fun s => some (.needT (subP s E) t)
theorem sumL_soundC {P : Program} {ro : Option Nat} {cx : Cx} {c : Code} {E : St} {t : CT} (hok : okB E = true) (h : ∀ (n : Nat) (Q : AEx × St → Prop), t.sat Q → ∀ (a : Act) (w : World), Rel cx E a w → c.wpIn (fr ro) n P (postOf cx Q) a w) : LSoundC P ro cx c (sumL E t) := by
 intro n s t' ht Q hsat a w r
 simp only [sumL, Option.some.injEq] at ht
 subst ht
 replace hsat := Tree.sat_needT hsat
 exact h n Q hsat.2 a w (sub_rel (allP_mem hsat.1) hok r)
def unrollX (P : Program) (G : List (Nat × Spec)) (X : Ext) (L : List LSpec) (body : Code) : Nat → St → CT
 | 0, _ => .fail
 | k + 1, s => (codeX P G X L body 0 s).bind fun p => match p.1 with
  | .normal => unrollX P G X L body k p.2
  | x => .leaf (x, p.2)
def unrollT (P : Program) (G : List (Nat × Spec)) (L : List LSpec) (body : Code) (n : Nat) (s : St) : CT := unrollX P G {} L body n s
theorem unroll_soundC {P : Program} {G : List (Nat × Spec)} {X : Ext} {L : List LSpec} {ro : Option Nat} {cx : Cx} (hG : SoundG P G) (hX : SoundX P X cx) (hmix : P.follows .mixedOrders = true) {body : Code} (hL : ∀ j cj, loopAt body j = some cj → ∀ sp, L[j]? = some sp → LSoundC P ro cx cj sp) (m : Nat) :
  LSoundC P ro cx (.loop body) (fun s => some (unrollX P G X L body m s)) := by
 intro n s t ht Q hsat a w r
 simp only [Option.some.injEq] at ht
 subst ht
 refine loopIn (X := Nat × St) (fun p => p.1) (fun p a w => (unrollX P G X L body p.1 p.2).sat Q ∧ Rel cx p.2 a w) ?_ (x := (m, s)) ⟨hsat, r⟩
 rintro ⟨k, s⟩ a w ⟨h, hr⟩
 cases k with
 | zero => exact h.elim
 | succ k =>
  refine wpIn_mono (codeX_sound hG hX hmix body 0 s _ a w (fun j cj hj sp hsp => hL j cj hj sp (by simpa using hsp)) (Tree.sat_bind h) hr) ?_
  rintro ex a₁ w₁ ⟨y, s', rfl, hq, hr'⟩
  cases y with
  | normal => exact ⟨(k, s'), Nat.lt_succ_self _, hq, hr'⟩
  | exit id => exact ⟨.exit id, s', rfl, hq, hr'⟩
  | ret => exact ⟨.ret, s', rfl, hq, hr'⟩
theorem unroll_sound {P : Program} {G : List (Nat × Spec)} {L : List LSpec} (hG : SoundG P G) (hmix : P.follows .mixedOrders = true) {body : Code} (hL : ∀ j cj, loopAt body j = some cj → ∀ sp, L[j]? = some sp → LSound P cj sp) (n : Nat) :
  LSound P (.loop body) (fun s => some (unrollT P G L body n s)) := fun ro cx => unroll_soundC hG (SoundX.nil P cx) hmix (fun j cj hj sp hsp => hL j cj hj sp hsp ro cx) n
def loopBody : Option Code → Code
 | some (.loop c) => c
 | _ => .skip
def bodyOf (f : Func) : Code := match f.body with
 | some c => c
 | none => .skip
theorem one_loop {S : Code → LSpec → Prop} {c : Code} {sp : LSpec} (h : ∀ cj, loopAt c 0 = some cj → S cj sp) : ∀ j cj, loopAt c j = some cj → ∀ s, [sp][j]? = some s → S cj s := by
 intro j cj hj s hs
 cases j with
 | zero => simp at hs; subst hs; exact h cj hj
 | succ j => simp at hs
theorem two_loops {S : Code → LSpec → Prop} {c : Code} {sp sp2 : LSpec} (h : ∀ cj, loopAt c 0 = some cj → S cj sp) (h2 : ∀ cj, loopAt c 1 = some cj → S cj sp2) : ∀ j cj, loopAt c j = some cj → ∀ s, [sp, sp2][j]? = some s → S cj s := by
 intro j cj hj s hs
 match j with
 | 0 => simp at hs; subst hs; exact h cj hj
 | 1 => simp at hs; subst hs; exact h2 cj hj
 | j + 2 => simp at hs
def lookA : List (Nat × AV) → Nat → AV
 | [], _ => .top
 | (k, a) :: t, i => match Nat.beq k i with
  | true => a
  | false => lookA t i
def mkS (n : Nat) (l : List (Nat × AV)) : List AV := (List.range n).map (lookA l)
end Go.Sx
namespace Go.Sx
open Go Go.RowKit
def intAt (l : List AV) (j : Nat) : Int := match l[j]? with
 | some (.x (.int _ n)) => n
 | _ => 0
def recL : Nat → (Nat → Int) → List AV
 | 0, _ => []
 | k + 1, g => .x (.int .i64 (g 0)) :: recL k (fun j => g (j + 1))
def isRec (sz n : Nat) (f : Nat → List AV) : Prop := ∀ k, k < n → f k = recL sz (intAt (f k))
theorem SoundAt.args {P : Program} {f : FuncId} {avs avs' : List AV} {res : AV} (h : SoundAt P f avs' res) (hr : ∀ e w vs, RepL e w avs vs → RepL e w avs' vs) (hi : (∀ a ∈ avs, Idf a) → ∀ a ∈ avs', Idf a) : SoundAt P f avs res :=
 fun e w args hro hidf hrep => h e w args hro (hi hidf) (hr e w args hrep)
inductive Same : AV → AV → Prop
 | refl (a : AV) : Same a a
 | lst (sz n : Nat) (f g : Nat → List AV) : (∀ k, k < n → f k = g k) → Same (.lst sz n f) (.lst sz n g)
 | nil (sz : Nat) (g : Nat → List AV) : Same (.x (.slice none 0 0)) (.lst sz 0 g)
 | agg (l l' : List AV) : l.length = l'.length → (∀ (j : Nat) (a b : AV), l[j]? = some a → l'[j]? = some b → Same a b) → Same (.agg l) (.agg l')
theorem Same.rep {e : Env} {w : World} {a b : AV} {v : Value} (h : Same a b) (r : Rep e w a v) : Rep e w b v := by
 induction h generalizing v with
 | refl => exact r
 | lst sz n f g hfg =>
  cases r with
  | lstNil sz f => exact .lstNil sz g
  | lst sz n f b o cap gg h1 h2 h3 h4 h5 h6 h7 h8 ad had =>
   exact .lst sz n g b o cap gg h1 h2 (fun i hi a ha => h3 i hi a (by rw [hfg i hi]; exact ha)) h4 h5 h6 (fun i hi => by rw [← hfg i hi]; exact h7 i hi) (fun i j a hi ha => h8 i j a hi (by rw [hfg i hi]; exact ha)) ad had
 | nil sz g => cases r.x_inv; exact .lstNil sz g
 | agg l l' hl _ ih =>
  obtain ⟨vs, rfl, hr⟩ := r.agg_inv
  refine Rep.aggL ⟨by rw [← hl]; exact hr.1, fun j b v hb hv => ?_⟩
  have hj : j < l.length := by rw [hl]; exact (List.getElem?_eq_some_iff.1 hb).1
  exact ih j l[j] b (List.getElem?_eq_getElem hj) hb (hr.2 j _ v (List.getElem?_eq_getElem hj) hv)
theorem Same.idf {a b : AV} (h : Same a b) (k : Idf a) : Idf b := by
 induction h with
 | refl => exact k
 | lst sz n f g hfg => cases k with | lst _ _ _ k => exact .lst sz n g (fun i hi a ha => k i hi a (by rw [hfg i hi]; exact ha))
 | nil sz g => exact .lst sz 0 g (fun i hi => by omega)
 | agg l l' hl _ ih =>
  cases k with
  | agg _ k =>
   refine .agg l' fun b hb => ?_
   obtain ⟨j, hj⟩ := List.mem_iff_getElem?.1 hb
   have hjl : j < l.length := by rw [hl]; exact (List.getElem?_eq_some_iff.1 hj).1
   exact ih j l[j] b (List.getElem?_eq_getElem hjl) hj (k _ (List.getElem_mem hjl))
inductive Sames : List AV → List AV → Prop
 | nil : Sames [] []
 | cons {a b : AV} {l l' : List AV} : Same a b → Sames l l' → Sames (a :: l) (b :: l')
theorem Sames.same {l l' : List AV} (h : Sames l l') : Same (.agg l) (.agg l') := by
 have key : l.length = l'.length ∧ ∀ (j : Nat) (a b : AV), l[j]? = some a → l'[j]? = some b → Same a b := by
  induction h with
  | nil => exact ⟨rfl, fun j a b h => by simp at h⟩
  | cons h1 _ ih =>
   refine ⟨by simp [ih.1], fun j a b ha hb => ?_⟩
   cases j with
   | zero => simp at ha hb; subst ha; subst hb; exact h1
   | succ j => exact ih.2 j a b (by simpa using ha) (by simpa using hb)
 exact .agg l l' key.1 key.2
theorem Sames.rep {e : Env} {w : World} {l l' : List AV} (h : Sames l l') : ∀ {vs : List Value}, RepL e w l vs → RepL e w l' vs := by
 induction h with
 | nil => exact fun r => r
 | cons h1 _ ih =>
  intro vs r
  obtain ⟨v, vs', rfl, hv, hvs⟩ := r.cons_inv
  exact RepL.cons (h1.rep hv) (ih hvs)
theorem Sames.idf {l l' : List AV} (h : Sames l l') : (∀ a ∈ l, Idf a) → ∀ a ∈ l', Idf a := by
 induction h with
 | nil => exact fun _ a ha => by cases ha
 | cons h1 _ ih =>
  intro k a ha
  rcases List.mem_cons.1 ha with rfl | ha
  ·exact h1.idf (k _ List.mem_cons_self)
  ·exact ih (fun a ha => k a (List.mem_cons_of_mem _ ha)) a ha
theorem SoundAt.same {P : Program} {f : FuncId} {avs avs' : List AV} {res : AV} (h : SoundAt P f avs' res) (k : Sames avs avs') : SoundAt P f avs res := h.args (fun _ _ _ r => k.rep r) k.idf
end Go.Sx
namespace Go.Sx
open Go Go.RowKit
def ovrS : List (Nat × AV) → List AV → List AV
 | [], σ => σ
 | (k, a) :: t, σ => (ovrS t σ).set k a
def roundT (P : Program) (G : List (Nat × Spec)) (L : List LSpec) (body : Code) (s nxt : St) (out : AEx → Option St) : Tree AEx :=
 (codeT P G L body 0 s).bind fun p => match p.1 with
  | .normal => .needT (subP p.2 nxt) (.leaf .normal)
  | .exit id => match out (.exit id) with
   | some E => .needT (subP p.2 E) (.leaf (.exit id))
   | none => .fail
  | .ret => match out .ret with
   | some E => .needT (subP p.2 E) (.leaf .ret)
   | none => .fail
theorem roundT_sat {P : Program} {G : List (Nat × Spec)} {L : List LSpec} {body : Code} {s nxt : St} {out : AEx → Option St} {R : AEx → Prop} (h : (roundT P G L body s nxt out).sat R) :
  (codeT P G L body 0 s).sat (fun p => match p.1 with
   | .normal => R .normal ∧ allP (subP p.2 nxt)
   | y => ∃ E, out y = some E ∧ R y ∧ allP (subP p.2 E)) := by
 refine Tree.sat_mono ?_ (Tree.sat_bind h)
 rintro ⟨y, s'⟩ hp
 cases y with
 | normal => exact ⟨(Tree.sat_needT hp).2, (Tree.sat_needT hp).1⟩
 | exit id =>
  dsimp only at hp ⊢
  split at hp
  ·rename_i E hE
   exact ⟨E, hE, (Tree.sat_needT hp).2, (Tree.sat_needT hp).1⟩
  ·exact hp.elim
 | ret =>
  dsimp only at hp ⊢
  split at hp
  ·rename_i E hE
   exact ⟨E, hE, (Tree.sat_needT hp).2, (Tree.sat_needT hp).1⟩
  ·exact hp.elim
theorem loop_rounds {P : Program} {G : List (Nat × Spec)} {L : List LSpec} (hG : SoundG P G) (hmix : P.follows .mixedOrders = true) {body : Code} (hL : ∀ j cj, loopAt body j = some cj → ∀ sp, L[j]? = some sp → LSound P cj sp)
  {X : Type} (inv : X → St) (I : X → Prop) (μ : X → Nat) (out : X → AEx → Option St) {t : CT} {x0 : X} (h0 : I x0)
  (hok : ∀ x, okB (inv x) = true) (hokO : ∀ x y E, out x y = some E → okB E = true)
  (round : ∀ (Q : AEx × St → Prop), t.sat Q → ∀ x, I x → ∃ x', (roundT P G L body (inv x) (inv x') (out x)).sat (fun y => match y with
   | .normal => I x' ∧ μ x' < μ x
   | y => ∀ E, out x y = some E → Q (y, E))) : LSound P (.loop body) (sumL (inv x0) t) := by
 intro ro cx
 refine sumL_soundC (hok x0) ?_
 intro n Q hQ a w r
 refine loopIn μ (fun x a w => I x ∧ Rel cx (inv x) a w) ?_ ⟨h0, r⟩
 rintro x a w ⟨hx, hr⟩
 obtain ⟨x', hround⟩ := round Q hQ x hx
 refine wpIn_mono (codeX_sound hG (SoundX.nil P cx) hmix body 0 (inv x) _ a w (fun j cj hj sp hsp => hL j cj hj sp (by simpa using hsp) ro cx) (roundT_sat hround) hr) ?_
 rintro ex a₁ w₁ ⟨y, s', rfl, hq, hr'⟩
 cases y with
 | normal =>
  obtain ⟨⟨h1, h2⟩, h3⟩ := hq
  exact ⟨x', h2, h1, sub_rel (allP_mem h3) (hok x') hr'⟩
 | exit id =>
  obtain ⟨E, hE, h1, h3⟩ := hq
  exact ⟨.exit id, E, rfl, h1 E hE, sub_rel (allP_mem h3) (hokO x _ E hE) hr'⟩
 | ret =>
  obtain ⟨E, hE, h1, h3⟩ := hq
  exact ⟨.ret, E, rfl, h1 E hE, sub_rel (allP_mem h3) (hokO x _ E hE) hr'⟩
def fstI (p : Nat → Bool) : Nat → Nat
 | 0 => 0
 | n + 1 => match Nat.blt (fstI p n) n with
  | true => fstI p n
  | false => match p n with
   | true => n
   | false => n + 1
theorem fstI_spec (p : Nat → Bool) : ∀ n, fstI p n ≤ n ∧ (∀ j, j < fstI p n → p j = false) ∧ (fstI p n < n → p (fstI p n) = true)
 | 0 => by simp [fstI]
 | n + 1 => by
  obtain ⟨h1, h2, h3⟩ := fstI_spec p n
  unfold fstI
  split
  ·rename_i hb
   rw [Nat.blt_eq] at hb
   exact ⟨by omega, h2, fun _ => h3 hb⟩
  ·rename_i hb
   rw [← Bool.not_eq_true, Nat.blt_eq] at hb
   have : fstI p n = n := by omega
   rw [this] at h2
   split
   ·rename_i hp
    exact ⟨by omega, h2, fun _ => hp⟩
   ·rename_i hp
    refine ⟨by omega, fun j hj => ?_, fun h => by omega⟩
    rcases (show j < n ∨ j = n by omega) with h | rfl
    ·exact h2 j h
    ·exact hp
theorem fstI_eq {p : Nat → Bool} {n k : Nat} (hk : k < n) (hp : p k = true) (hb : ∀ j, j < k → p j = false) : fstI p n = k := by
 obtain ⟨h1, h2, h3⟩ := fstI_spec p n
 rcases Nat.lt_trichotomy (fstI p n) k with h | h | h
 ·have := h3 (by omega)
  rw [hb _ h] at this
  cases this
 ·exact h
 ·rw [h2 k h] at hp
  cases hp
theorem fstI_none {p : Nat → Bool} {n : Nat} (hb : ∀ j, j < n → p j = false) : fstI p n = n := by
 obtain ⟨h1, h2, h3⟩ := fstI_spec p n
 rcases Nat.lt_or_ge (fstI p n) n with h | h
 ·have := h3 h
  rw [hb _ h] at this
  cases this
 ·omega
def allI (p : Nat → Bool) : Nat → Bool
 | 0 => true
 | n + 1 => allI p n && p n
theorem allI_iff {p : Nat → Bool} : ∀ {n : Nat}, allI p n = true ↔ ∀ j, j < n → p j = true
 | 0 => by simp [allI]
 | n + 1 => by
  rw [allI, Bool.and_eq_true, allI_iff]
  constructor
  ·rintro ⟨h1, h2⟩ j hj
   rcases (show j < n ∨ j = n by omega) with h | rfl
   ·exact h1 j h
   ·exact h2
  ·exact fun h => ⟨fun j hj => h j (by omega), h n (by omega)⟩
theorem allI_fst {p : Nat → Bool} {n : Nat} : allI p n = decide (fstI (fun k => !p k) n = n) := by
 obtain ⟨h1, h2, h3⟩ := fstI_spec (fun k => !p k) n
 rw [Bool.eq_iff_iff, allI_iff, decide_eq_true_eq]
 constructor
 ·intro h
  exact fstI_none (fun j hj => by simp [h j hj])
 ·intro h j hj
  have := h2 j (by omega)
  simpa using this
end Go.Sx
namespace Go.Sx
open Go Go.RowKit
def renA (i R : Nat) : Nat → AV → AV
 | 0, a => match a with
  | .lit b => .lit b
  | .x v => .x v
  | .ro l => .ro l
  | .lst a b c => .lst a b c
  | .roI a b c d => .roI a b c d
  | _ => .top
 | d + 1, a => match a with
  | .row k => match Nat.beq k i with
   | true => .row R
   | false => match Nat.beq k R with
    | true => .top
    | false => .row k
  | .ptr k o => match Nat.beq k i || Nat.beq k R with
   | true => .top
   | false => .ptr k o
  | .elt k x y z => match Nat.beq k i || Nat.beq k R with
   | true => .top
   | false => .elt k x y z
  | .mp k => match Nat.beq k i || Nat.beq k R with
   | true => .top
   | false => .mp k
  | .agg l => .agg (l.map (renA i R d))
  | .tup l => .tup (l.map (renA i R d))
  | .fn f l l' => .fn f (l.map (renA i R d)) (l'.map (renA i R d))
  | a => a
def Env.ren (e : Env) (i R : Nat) : Env :=
 {ro := e.ro, own := fun b => match e.own b with | some k => if k = i then some R else if k = R then none else some k | none => none,
  live := fun k => (k = R ∧ e.live i) ∨ (e.live k ∧ k ≠ i ∧ k ≠ R), blk := e.blk, val := fun k => if k = R then e.val i else e.val k }
theorem beq_ne {k i : Nat} (h : Nat.beq k i = false) : k ≠ i := by
 rintro rfl
 rw [Nat.beq_refl] at h
 cases h
theorem or_ne {k i R : Nat} (h : (Nat.beq k i || Nat.beq k R) = false) : k ≠ i ∧ k ≠ R := by
 rw [Bool.or_eq_false_iff] at h
 exact ⟨beq_ne h.1, beq_ne h.2⟩
theorem rep_ren {e : Env} {w : World} {i R : Nat} : ∀ (d : Nat) (a : AV) (v : Value), Rep e w a v → Rep (e.ren i R) w (renA i R d a) v
 | 0, a, v, r => by
  cases r with
  | lit b => exact .lit b
  | x v => exact .x v
  | roI pre n f off b o hr => exact Rep.idf (e := e) (e' := e.ren i R) (fun _ h => h) (.roI pre n f off b o hr) (idf_of (Rep.roI pre n f off b o hr) rfl)
  | ro l vs b o h1 h2 h3 h4 h5 h6 => exact Rep.idf (e := e) (e' := e.ren i R) (fun _ h => h) (.ro l vs b o h1 h2 h3 h4 h5 h6) (.ro l h3)
  | lstNil sz f => exact .lstNil sz f
  | lst sz n f b o cap g h1 h2 h3 h4 h5 h6 h7 h8 ad had => exact Rep.idf (e := e) (e' := e.ren i R) (fun _ h => h) (.lst sz n f b o cap g h1 h2 h3 h4 h5 h6 h7 h8 ad had) (.lst sz n f h3)
  | _ => exact .top _
 | d + 1, a, v, r => by
  have ih := rep_ren (e := e) (w := w) (i := i) (R := R) d
  cases r with
  | top v => exact .top v
  | lit b => exact .lit b
  | x v => exact .x v
  | roI pre n f off b o hr => exact Rep.idf (e := e) (e' := e.ren i R) (fun _ h => h) (.roI pre n f off b o hr) (idf_of (Rep.roI pre n f off b o hr) rfl)
  | ptr id off hl =>
   simp only [renA]
   split
   ·exact .top _
   ·rename_i hb
    exact .ptr (e := e.ren i R) id off (.inr ⟨hl, or_ne hb⟩)
  | row id a n c hl hv =>
   simp only [renA]
   split
   ·rename_i hb
    have := Nat.eq_of_beq_eq_true hb
    subst this
    exact .row R a n c (.inl ⟨rfl, hl⟩) (by simp [Env.ren, hv])
   ·rename_i hb
    split
    ·exact .top _
    ·rename_i hb2
     exact .row id a n c (.inr ⟨hl, beq_ne hb, beq_ne hb2⟩) (by simp [Env.ren, beq_ne hb2, hv])
  | elt id sz x y b n cap hl hv =>
   simp only [renA]
   split
   ·exact .top _
   ·rename_i hb
    exact .elt (e := e.ren i R) id sz x y b n cap (.inr ⟨hl, or_ne hb⟩) (by simp [Env.ren, (or_ne hb).2, hv])
  | mp id hl =>
   simp only [renA]
   split
   ·exact .top _
   ·rename_i hb
    exact .mp (e := e.ren i R) id (.inr ⟨hl, or_ne hb⟩)
  | agg l vs h1 h2 => exact Rep.aggL (RepL.map _ ih ⟨h1, h2⟩)
  | tup l vs h1 h2 => exact Rep.tupL (RepL.map _ ih ⟨h1, h2⟩)
  | fn f l l' vs vs' h1 h2 h3 h4 =>
   have k1 : RepL e w l vs := ⟨h1, h2⟩
   have k2 : RepL e w l' vs' := ⟨h3, h4⟩
   exact .fn f _ _ vs vs' (RepL.map _ ih k1).1 (RepL.map _ ih k1).2 (RepL.map _ ih k2).1 (RepL.map _ ih k2).2
  | ro l vs b o h1 h2 h3 h4 h5 h6 => exact Rep.idf (e := e) (e' := e.ren i R) (fun _ h => h) (.ro l vs b o h1 h2 h3 h4 h5 h6) (.ro l h3)
  | lstNil sz f => exact .lstNil sz f
  | lst sz n f b o cap g h1 h2 h3 h4 h5 h6 h7 h8 ad had => exact Rep.idf (e := e) (e' := e.ren i R) (fun _ h => h) (.lst sz n f b o cap g h1 h2 h3 h4 h5 h6 h7 h8 ad had) (.lst sz n f h3)
def renM (i R : Nat) : Mem → Mem
 | [] => []
 | (k, .row T sz n f) :: t => match Nat.beq k i with
  | true => (R, .row T sz n f) :: renM i R t
  | false => match Nat.beq k R with
   | true => renM i R t
   | false => (k, .row T sz n f) :: renM i R t
 | (k, .cells T l) :: t => match Nat.beq k i || Nat.beq k R with
  | true => renM i R t
  | false => (k, .cells T (l.map (renA i R 6))) :: renM i R t
 | (k, .ints T pre n f) :: t => match Nat.beq k i || Nat.beq k R with
  | true => renM i R t
  | false => (k, .ints T (pre.map (renA i R 6)) n f) :: renM i R t
 | (k, .memo h f) :: t => match Nat.beq k i || Nat.beq k R with
  | true => renM i R t
  | false => (k, .memo h f) :: renM i R t
 | (_, .aka _ _ _ _ _) :: t => renM i R t
theorem mem_ren {e : Env} {w : World} {i R : Nat} : ∀ {m : Mem}, MemOk e m w → MemOk (e.ren i R) (renM i R m) w
 | [], _ => fun p hp => by cases hp
 | (k, .row T sz n f) :: t, h => by
  have ih := mem_ren (i := i) (R := R) (m := t) (fun p hp => h p (List.mem_cons_of_mem _ hp))
  obtain ⟨h1, h2, hf, xs, h3, h4⟩ := h _ List.mem_cons_self
  have h4' : ∀ (i' j : Nat) (a : AV) (v : Value), i' < n → (f i')[j]? = some a → xs[i' * sz + j]? = some v → Rep (e.ren i R) w a v :=
   fun i' j a v hi ha hv => Rep.idf (e := e) (e' := e.ren i R) (fun _ h => h) (h4 i' j a v hi ha hv) ((hf i' hi).2 a (List.mem_of_getElem? ha))
  unfold renM
  split
  ·rename_i hb
   have := Nat.eq_of_beq_eq_true hb
   subst this
   intro p hp
   rcases List.mem_cons.1 hp with rfl | hp
   ·refine ⟨.inl ⟨rfl, h1⟩, fun b hb' => ?_, hf, xs, ?_, h4'⟩
    ·simp only [Env.ren, if_true] at hb' ⊢
     rw [h2 b hb']
     simp
    ·simp only [Env.ren, if_true]
     exact h3
   ·exact ih p hp
  ·rename_i hb
   split
   ·exact ih
   ·rename_i hb2
    intro p hp
    rcases List.mem_cons.1 hp with rfl | hp
    ·refine ⟨.inr ⟨h1, beq_ne hb, beq_ne hb2⟩, fun b hb' => ?_, hf, xs, ?_, h4'⟩
     ·simp only [Env.ren, beq_ne hb2, if_false] at hb' ⊢
      rw [h2 b hb']
      simp [beq_ne hb, beq_ne hb2]
     ·simp only [Env.ren, beq_ne hb2, if_false]
      exact h3
    ·exact ih p hp
 | (k, .cells T l) :: t, h => by
  have ih := mem_ren (i := i) (R := R) (m := t) (fun p hp => h p (List.mem_cons_of_mem _ hp))
  obtain ⟨h1, h2, vs, h3, h4⟩ := h _ List.mem_cons_self
  unfold renM
  split
  ·exact ih
  ·rename_i hb
   obtain ⟨n1, n2⟩ := or_ne hb
   intro p hp
   rcases List.mem_cons.1 hp with rfl | hp
   ·refine ⟨.inr ⟨h1, n1, n2⟩, ?_, vs, h3, RepL.map _ (rep_ren 6) h4⟩
    simp only [Env.ren]
    rw [h2]
    simp [n1, n2]
   ·exact ih p hp
 | (k, .ints T pre n f) :: t, h => by
  have ih := mem_ren (i := i) (R := R) (m := t) (fun p hp => h p (List.mem_cons_of_mem _ hp))
  obtain ⟨h1, h2, vs, h3, h4⟩ := h _ List.mem_cons_self
  unfold renM
  split
  ·exact ih
  ·rename_i hb
   obtain ⟨n1, n2⟩ := or_ne hb
   intro p hp
   rcases List.mem_cons.1 hp with rfl | hp
   ·refine ⟨.inr ⟨h1, n1, n2⟩, ?_, vs, h3, ?_⟩
    ·simp only [Env.ren]
     rw [h2]
     simp [n1, n2]
    ·have := RepL.map _ (rep_ren (i := i) (R := R) 6) h4
     rw [List.map_append] at this
     have hL : (intsL n f).map (renA i R 6) = intsL n f := by
      unfold intsL
      rw [List.map_map]
      rfl
     rw [hL] at this
     exact this
   ·exact ih p hp
 | (k, .memo g f) :: t, h => by
  have ih := mem_ren (i := i) (R := R) (m := t) (fun p hp => h p (List.mem_cons_of_mem _ hp))
  obtain ⟨h1, h2, es, c, h3, h4⟩ := h _ List.mem_cons_self
  unfold renM
  split
  ·exact ih
  ·rename_i hb
   obtain ⟨n1, n2⟩ := or_ne hb
   intro p hp
   rcases List.mem_cons.1 hp with rfl | hp
   ·refine ⟨.inr ⟨h1, n1, n2⟩, ?_, es, c, h3, h4⟩
    simp only [Env.ren]
    rw [h2]
    simp [n1, n2]
   ·exact ih p hp
 | (k, .aka _ _ _ _ _) :: t, h => mem_ren (i := i) (R := R) (m := t) (fun p hp => h p (List.mem_cons_of_mem _ hp))
def renS (i R : Nat) (s : St) : St := { s with σ := s.σ.map (renA i R 6), m := renM i R s.m, nx := match Nat.blt R s.nx with | true => s.nx | false => R + 1, sv := s.sv.map (·.map (renA i R 6)) }
theorem ren_relE {cx : Cx} {w0 : World} {F : Nat → Prop} {e : Env} {i R : Nat} {s : St} {a : Act} {w : World} (r : RelE cx w0 F e s a w) : RelE cx w0 F (e.ren i R) (renS i R s) a w := by
 refine ⟨⟨fun b hb => ?_, fun b k hk => ?_⟩, r.below, mem_ren r.mem, fun k hk => ?_, r.foe, ⟨r.xt.defers, r.xt.kept, RepLL.map _ (rep_ren 6) r.xt.saved, r.xt.size⟩, RepL.map _ (rep_ren 6) r.slots⟩
 ·obtain ⟨h1, h2⟩ := r.env.apart b hb
  exact ⟨by simp [Env.ren, h1], h2⟩
 ·simp only [Env.ren] at hk
  cases ho : e.own b with
  | none => rw [ho] at hk; cases hk
  | some j => exact r.env.owned b j ho
 ·have hk' : k = R ∨ k < s.nx := by
   rcases hk with ⟨rfl, _⟩ | ⟨h, _⟩
   ·exact .inl rfl
   ·exact .inr (r.live k h)
  simp only [renS]
  split
  ·rename_i hb
   rw [Nat.blt_eq] at hb
   omega
  ·rename_i hb
   rw [← Bool.not_eq_true, Nat.blt_eq] at hb
   omega
inductive Pl where
 | slot (k : Nat)
 | cell (id off : Nat)
def getPl (s : St) : Pl → AV
 | .slot k => s.σ.getD k .top
 | .cell id off => match getM s.m id with
  | some (.cells _ l) => l.getD off .top
  | _ => .top
def setPl (s : St) (p : Pl) (v : AV) : St := match p with
 | .slot k => { s with σ := s.σ.set k v }
 | .cell id off => match getM s.m id with
  | some (.cells T l) => { s with m := setM s.m id (.cells T (l.set off v)) }
  | _ => s
theorem RepL.swap {e : Env} {w : World} {l : List AV} {vs : List Value} {k : Nat} {b : AV} (h : RepL e w l vs) (hb : ∀ v, Rep e w (l.getD k .top) v → vs[k]? = some v → Rep e w b v) : RepL e w (l.set k b) vs := by
 refine ⟨by simp [h.1], fun i a v ha hv => ?_⟩
 rw [List.getElem?_set] at ha
 by_cases hk : k = i
 ·subst hk
  simp only [if_true] at ha
  split at ha
  ·rename_i hlt
   cases ha
   exact hb v (by simpa [List.getD, List.getElem?_eq_getElem hlt] using h.2 k _ v (List.getElem?_eq_getElem hlt) hv) hv
  ·cases ha
 ·rw [if_neg hk] at ha
  exact h.2 i a v ha hv
def Env.nil (e : Env) (R : Nat) : Env := { e with live := fun k => k = R ∨ e.live k, val := fun k => if k = R then .slice none 0 0 else e.val k }
theorem Step.nil {e : Env} {w : World} {R : Nat} (h : ¬ e.live R) : Step e (e.nil R) w w := by
 refine ⟨fun _ _ h => ⟨h, rfl⟩, fun k hk => ⟨.inr hk, rfl, ?_⟩, Nat.le_refl _⟩
 have : k ≠ R := fun h' => h (h' ▸ hk)
 simp [Env.nil, this]
def nilS (p : Pl) (R : Nat) (T : TypeId) (sz : Nat) (s : St) : St := match getPl s p with
 | .x (.slice none 0 0) => { s with σ := (setPl s p (.row R)).σ, m := (R, .row T sz 0 (fun _ => [])) :: (setPl s p (.row R)).m }
 | _ => s
theorem nil_relE {cx : Cx} {w0 : World} {F : Nat → Prop} {e : Env} {p : Pl} {R : Nat} {T : TypeId} {sz : Nat} {s : St} {a : Act} {w : World} (hΦ : cx.Φ s.gh F w0) (r : RelE cx w0 F e s a w) (hd : ¬ e.live R) (hR : R < s.nx) : Rel cx (nilS p R T sz s) a w := by
 unfold nilS
 split
 ·rename_i hp
  have st : Step e (e.nil R) w w := Step.nil hd
  have hmem : MemOk (e.nil R) s.m w := fun q hq => (r.mem q hq).ext (Below.refl _ _) st (fun _ _ h => h)
  have hrow : Holds (e.nil R) w R (.row T sz 0 (fun _ => [])) := by
   refine ⟨.inl rfl, fun b hb => ?_, fun i hi => by omega, [], ?_, fun i j a v hi => by omega⟩
   ·simp [Env.nil, Value.ownBlock] at hb
   ·simp only [Env.nil, if_true]
    exact World.ownsRow_nil w 0 T sz
  have hrep : ∀ v, Rep e w (.x (.slice none 0 0)) v → Rep (e.nil R) w (.row R) v := by
   intro v hv
   rw [hv.x_inv]
   exact .row R none 0 0 (.inl rfl) (by simp [Env.nil])
  refine ⟨w0, F, e.nil R, hΦ, ⟨r.env.apart, r.env.owned⟩, r.below, ?_, fun k hk => ?_, r.foe, r.xt.step st, ?_⟩
  ·intro q hq
   rcases List.mem_cons.1 hq with rfl | hq
   ·exact hrow
   ·cases p with
    | slot k => exact hmem q hq
    | cell id off =>
     simp only [setPl] at hq
     split at hq
     ·rename_i T' l hg
      rcases setM_mem hq with rfl | ⟨hq, _⟩
      ·obtain ⟨h1, h2, vs, h3, h4⟩ := r.mem _ (getM_mem hg)
       obtain ⟨l1, l2, l3⟩ := st.live id h1
       refine ⟨l1, by rw [l2]; exact h2, vs, by rw [l2]; exact h3, ?_⟩
       refine RepL.swap (h4.step st) ?_
       intro v hv hv'
       simp only [getPl, hg] at hp
       have hlt : off < l.length := by
        rcases Nat.lt_or_ge off l.length with h | h
        ·exact h
        ·rw [List.getD, List.getElem?_eq_none h] at hp; cases hp
       have := h4.2 off _ v (List.getElem?_eq_getElem hlt) hv'
       rw [List.getD, List.getElem?_eq_getElem hlt] at hp
       simp only [Option.getD_some] at hp
       rw [hp] at this
       exact hrep v this
      ·exact hmem q hq
     ·exact hmem q hq
  ·rcases hk with rfl | hk
   ·exact hR
   ·exact r.live k hk
  ·cases p with
   | slot k =>
    simp only [setPl]
    refine RepL.swap (r.slots.step st) ?_
    intro v hv hv'
    simp only [getPl] at hp
    have hlt : k < s.σ.length := by
     rcases Nat.lt_or_ge k s.σ.length with h | h
     ·exact h
     ·rw [List.getD, List.getElem?_eq_none h] at hp; cases hp
    have := r.slots.2 k _ v (List.getElem?_eq_getElem hlt) hv'
    rw [List.getD, List.getElem?_eq_getElem hlt] at hp
    simp only [Option.getD_some] at hp
    rw [hp] at this
    exact hrep v this
   | cell id off =>
    simp only [setPl]
    split
    ·exact r.slots.step st
    ·exact r.slots.step st
 ·exact ⟨w0, F, e, hΦ, r⟩
def normR (p : Pl) (R : Nat) (T : TypeId) (sz : Nat) (s : St) : St := match getPl s p with
 | .row i => match sz with
  | 0 => frzS i s
  | _ + 1 => renS i R s
 | .x (.slice none 0 0) => nilS p R T sz (renS s.nx R s)
 | _ => s
theorem norm_rel {cx : Cx} {p : Pl} {R : Nat} {T : TypeId} {sz : Nat} {s : St} {a : Act} {w : World} (r : Rel cx s a w) : Rel cx (normR p R T sz s) a w := by
 obtain ⟨w0, F, e, hΦ, r⟩ := r
 unfold normR
 split
 ·split
  ·rename_i i _ _
   obtain ⟨e', r'⟩ := frz_relE (i := i) r
   exact ⟨w0, F, e', by rw [frzS_gh]; exact hΦ, r'⟩
  ·exact ⟨w0, F, _, hΦ, ren_relE r⟩
 ·refine nil_relE hΦ (ren_relE r) ?_ ?_
  ·rintro (⟨_, h⟩ | ⟨_, _, h⟩)
   ·exact Nat.lt_irrefl _ (r.live _ h)
   ·exact h rfl
  ·simp only [renS]
   split
   ·rename_i hb
    rw [Nat.blt_eq] at hb
    exact hb
   ·exact Nat.lt_succ_self _
 ·exact ⟨w0, F, e, hΦ, r⟩
def normL : List (Pl × Nat × TypeId × Nat) → St → St
 | [], s => s
 | (p, R, T, sz) :: t, s => normL t (normR p R T sz s)
theorem normL_rel {cx : Cx} {a : Act} {w : World} : ∀ {l : List (Pl × Nat × TypeId × Nat)} {s : St}, Rel cx s a w → Rel cx (normL l s) a w
 | [], _, r => r
 | (p, R, T, sz) :: t, s, r => normL_rel (l := t) (s := normR p R T sz s) (norm_rel r)
def normSp (l : List (Pl × Nat × TypeId × Nat)) (sp : LSpec) : LSpec := fun s => sp (normL l s)
theorem normSp_soundC {P : Program} {ro : Option Nat} {cx : Cx} {c : Code} {l : List (Pl × Nat × TypeId × Nat)} {sp : LSpec} (h : LSoundC P ro cx c sp) : LSoundC P ro cx c (normSp l sp) :=
 fun n s t ht Q hQ a w r => h n (normL l s) t ht Q hQ a w (normL_rel r)
def endR (N : List (Pl × Nat × TypeId × Nat)) (nxt : St) (out : AEx → Option St) (p : AEx × St) : Tree AEx := match p.1 with
 | .normal => .needT (subP (normL N p.2) nxt) (.leaf .normal)
 | .exit id => match out (.exit id) with
  | some E => .needT (subP (normL N p.2) E) (.leaf (.exit id))
  | none => .fail
 | .ret => match out .ret with
  | some E => .needT (subP (normL N p.2) E) (.leaf .ret)
  | none => .fail
theorem endR_sat {N : List (Pl × Nat × TypeId × Nat)} {t : CT} {nxt : St} {out : AEx → Option St} {R : AEx → Prop} (h : (t.bind (endR N nxt out)).sat R) :
  t.sat (fun p => match p.1 with
   | .normal => R .normal ∧ allP (subP (normL N p.2) nxt)
   | y => ∃ E, out y = some E ∧ R y ∧ allP (subP (normL N p.2) E)) := by
 refine Tree.sat_mono ?_ (Tree.sat_bind h)
 rintro ⟨y, s'⟩ hp
 cases y with
 | normal => exact ⟨(Tree.sat_needT hp).2, (Tree.sat_needT hp).1⟩
 | exit id =>
  dsimp only [endR] at hp ⊢
  split at hp
  ·rename_i E hE
   exact ⟨E, hE, (Tree.sat_needT hp).2, (Tree.sat_needT hp).1⟩
  ·exact hp.elim
 | ret =>
  dsimp only [endR] at hp ⊢
  split at hp
  ·rename_i E hE
   exact ⟨E, hE, (Tree.sat_needT hp).2, (Tree.sat_needT hp).1⟩
  ·exact hp.elim
def roundX (P : Program) (G : List (Nat × Spec)) (X : Ext) (L : List LSpec) (N : List (Pl × Nat × TypeId × Nat)) (body : Code) (s nxt : St) (out : AEx → Option St) : Tree AEx := (codeX P G X L body 0 s).bind (endR N nxt out)
def roundN (P : Program) (G : List (Nat × Spec)) (L : List LSpec) (N : List (Pl × Nat × TypeId × Nat)) (body : Code) (s nxt : St) (out : AEx → Option St) : Tree AEx := roundX P G {} L N body s nxt out
theorem loop_roundsC {P : Program} {G : List (Nat × Spec)} {X : Ext} {L : List LSpec} {ro : Option Nat} {cx : Cx} (N : List (Pl × Nat × TypeId × Nat)) (hG : SoundG P G) (hX : SoundX P X cx) (hmix : P.follows .mixedOrders = true) {body : Code} (hL : ∀ j cj, loopAt body j = some cj → ∀ sp, L[j]? = some sp → LSoundC P ro cx cj sp)
  {V : Type} (inv : V → St) (I : V → Prop) (μ : V → Nat) (out : V → AEx → Option St) {t : CT} {x0 : V} (h0 : I x0)
  (hok : ∀ x, okB (inv x) = true) (hokO : ∀ x y E, out x y = some E → okB E = true)
  (round : ∀ (Q : AEx × St → Prop), t.sat Q → ∀ x, I x → ∃ x', (roundX P G X L N body (inv x) (inv x') (out x)).sat (fun y => match y with
   | .normal => I x' ∧ μ x' < μ x
   | y => ∀ E, out x y = some E → Q (y, E))) : LSoundC P ro cx (.loop body) (normSp N (sumL (inv x0) t)) := by
 refine normSp_soundC (sumL_soundC (hok x0) ?_)
 intro n Q hQ a w r
 refine loopIn μ (fun x a w => I x ∧ Rel cx (inv x) a w) ?_ ⟨h0, r⟩
 rintro x a w ⟨hx, hr⟩
 obtain ⟨x', hround⟩ := round Q hQ x hx
 refine wpIn_mono (codeX_sound hG hX hmix body 0 (inv x) _ a w (fun j cj hj sp hsp => hL j cj hj sp (by simpa using hsp)) (endR_sat hround) hr) ?_
 rintro ex a₁ w₁ ⟨y, s', rfl, hq, hr'⟩
 cases y with
 | normal =>
  obtain ⟨⟨h1, h2⟩, h3⟩ := hq
  exact ⟨x', h2, h1, sub_rel (allP_mem h3) (hok x') (normL_rel hr')⟩
 | exit id =>
  obtain ⟨E, hE, h1, h3⟩ := hq
  exact ⟨.exit id, E, rfl, h1 E hE, sub_rel (allP_mem h3) (hokO x _ E hE) (normL_rel hr')⟩
 | ret =>
  obtain ⟨E, hE, h1, h3⟩ := hq
  exact ⟨.ret, E, rfl, h1 E hE, sub_rel (allP_mem h3) (hokO x _ E hE) (normL_rel hr')⟩
theorem loop_roundsN {P : Program} {G : List (Nat × Spec)} {L : List LSpec} (N : List (Pl × Nat × TypeId × Nat)) (hG : SoundG P G) (hmix : P.follows .mixedOrders = true) {body : Code} (hL : ∀ j cj, loopAt body j = some cj → ∀ sp, L[j]? = some sp → LSound P cj sp)
  {X : Type} (inv : X → St) (I : X → Prop) (μ : X → Nat) (out : X → AEx → Option St) {t : CT} {x0 : X} (h0 : I x0)
  (hok : ∀ x, okB (inv x) = true) (hokO : ∀ x y E, out x y = some E → okB E = true)
  (round : ∀ (Q : AEx × St → Prop), t.sat Q → ∀ x, I x → ∃ x', (roundN P G L N body (inv x) (inv x') (out x)).sat (fun y => match y with
   | .normal => I x' ∧ μ x' < μ x
   | y => ∀ E, out x y = some E → Q (y, E))) : LSound P (.loop body) (normSp N (sumL (inv x0) t)) :=
 fun ro cx => loop_roundsC N hG (SoundX.nil P cx) hmix (fun j cj hj sp hsp => hL j cj hj sp hsp ro cx) inv I μ out h0 hok hokO round
end Go.Sx
namespace Go.Sx
open Go Go.RowKit
def needSp (ps : List Prop) (sp : LSpec) : LSpec := fun s => match sp s with
 | some t => some (.need ps t)
 | none => none
theorem needSp_soundC {P : Program} {ro : Option Nat} {cx : Cx} {c : Code} {ps : List Prop} {sp : LSpec} (h : allP ps → LSoundC P ro cx c sp) : LSoundC P ro cx c (needSp ps sp) := by
 intro n s t ht Q hQ a w r
 unfold needSp at ht
 split at ht
 ·rename_i t' ht'
  cases ht
  exact h hQ.1 n s t' ht' Q hQ.2 a w r
 ·cases ht
theorem needSp_sound {P : Program} {c : Code} {ps : List Prop} {sp : LSpec} (h : allP ps → LSound P c sp) : LSound P c (needSp ps sp) := fun ro cx => needSp_soundC (fun hp => h hp ro cx)
end Go.Sx
namespace Go.Sx
open Go Go.RowKit
section
variable {P : Program}
def finR (P : Program) (rs : List ResultVar) (t : CT) : Tree AV := t.bind fun p => match p.1 with
 | .exit _ => .fail
 | _ => match resA P p.2 rs with
  | some r => .leaf (viewA p.2.m 40 r)
  | none => .fail
mutual
def repP : AV → AV → Prop
 | .x u, b => match b with
  | .top => True
  | .x v => valEq u v
  | .lst _ n _ => isNil u ∧ n = 0
  | b => AV.x u = b
 | .lit c, b => match b with
  | .top => True
  | .x (.bool d) => c = d
  | b => AV.lit c = b
 | .lst sz n f, b => match b with
  | .top => True
  | .lst sz' n' f' => sz = sz' ∧ n = n' ∧ ∀ i, i < n' → f i = f' i
  | b => AV.lst sz n f = b
 | .agg l, b => match b with
  | .top => True
  | .agg l' => repPL l l'
  | b => AV.agg l = b
 | .tup l, b => match b with
  | .top => True
  | .tup l' => repPL l l'
  | b => AV.tup l = b
 | .roI pre n f off, b => match b with
  | .top => True
  | .roI pre' n' f' off' => pre = pre' ∧ n = n' ∧ (∀ k, k < n' → f k = f' k) ∧ off = off'
  | b => AV.roI pre n f off = b
 | a, b => match b with
  | .top => True
  | b => a = b
def repPL : List AV → List AV → Prop
 | [], l' => match l' with
  | [] => True
  | _ :: _ => False
 | r :: l, l' => match l' with
  | a :: l' => repP r a ∧ repPL l l'
  | [] => False
end
mutual
theorem repP_rep {e : Env} {w : World} : ∀ {a b : AV} {v : Value}, repP a b → Rep e w a v → Rep e w b v
 | .x u, b, v, h, r => by
  unfold repP at h
  split at h
  ·exact .top v
  ·rw [valEq_eq h] at r; exact r
  ·obtain ⟨h1, rfl⟩ := h
   cases r.x_inv
   rw [isNil_eq h1]
   exact .lstNil _ _
  ·rw [← h]; exact r
 | .lit c, b, v, h, r => by
  unfold repP at h
  split at h
  ·exact .top v
  ·subst h; cases r.lit_inv; exact .x _
  ·rw [← h]; exact r
 | .lst sz n f, b, v, h, r => by
  unfold repP at h
  split at h
  ·exact .top v
  ·obtain ⟨rfl, rfl, h3⟩ := h
   exact Same.rep (.lst _ _ _ _ h3) r
  ·rw [← h]; exact r
 | .agg l, b, v, h, r => by
  unfold repP at h
  split at h
  ·exact .top v
  ·obtain ⟨vs, rfl, hr⟩ := r.agg_inv
   exact Rep.aggL (repPL_rep h hr)
  ·rw [← h]; exact r
 | .tup l, b, v, h, r => by
  unfold repP at h
  split at h
  ·exact .top v
  ·obtain ⟨vs, rfl, hr⟩ := r.tup_inv
   exact Rep.tupL (repPL_rep h hr)
  ·rw [← h]; exact r
 | .top, b, v, h, r => by
  unfold repP at h
  split at h
  ·exact .top v
  ·rw [← h]; exact r
 | .fn _ _ _, b, v, h, r => by
  unfold repP at h
  split at h
  ·exact .top v
  ·rw [← h]; exact r
 | .ptr _ _, b, v, h, r => by
  unfold repP at h
  split at h
  ·exact .top v
  ·rw [← h]; exact r
 | .row _, b, v, h, r => by
  unfold repP at h
  split at h
  ·exact .top v
  ·rw [← h]; exact r
 | .elt _ _ _ _, b, v, h, r => by
  unfold repP at h
  split at h
  ·exact .top v
  ·rw [← h]; exact r
 | .ro _, b, v, h, r => by
  unfold repP at h
  split at h
  ·exact .top v
  ·rw [← h]; exact r
 | .mp _, b, v, h, r => by
  unfold repP at h
  split at h
  ·exact .top v
  ·rw [← h]; exact r
 | .roI pre n f off, b, v, h, r => by
  unfold repP at h
  split at h
  ·exact .top v
  ·obtain ⟨rfl, rfl, h3, rfl⟩ := h
   cases r with
   | roI _ _ _ _ b o hr =>
    have hL : intsL n f = intsL n _ := List.map_congr_left (fun k hk => by rw [h3 k (List.mem_range.1 hk)])
    rw [hL] at hr
    exact .roI _ _ _ _ b o hr
  ·rw [← h]; exact r
theorem repPL_rep {e : Env} {w : World} : ∀ {l l' : List AV} {vs : List Value}, repPL l l' → RepL e w l vs → RepL e w l' vs
 | [], [], _, _, r => r
 | [], _ :: _, _, h, _ => by simp [repPL] at h
 | a :: l, [], _, h, _ => by simp [repPL] at h
 | a :: l, b :: l', vs, h, r => by
  unfold repPL at h
  obtain ⟨v, vs', rfl, hv, hvs⟩ := r.cons_inv
  exact RepL.cons (repP_rep h.1 hv) (repPL_rep h.2 hvs)
end
def EndR (P : Program) (fn : Func) (res : AV) (p : AEx × St) : Prop := (match p.1 with | .exit _ => False | _ => True) ∧ ∃ r, resA P p.2 fn.results.toList = some r ∧ repP (viewA p.2.m 40 r) res
theorem endR_fin {fn : Func} {res : AV} {t : CT} (h : (finR P fn.results.toList t).sat (fun r => repP r res)) : t.sat (EndR P fn res) := by
 refine Tree.sat_mono ?_ (Tree.sat_bind h)
 rintro ⟨x, s⟩ hs
 cases x with
 | exit i => exact hs.elim
 | normal =>
  simp only at hs
  split at hs
  ·rename_i r hr; exact ⟨trivial, r, hr, hs⟩
  ·exact hs.elim
 | ret =>
  simp only at hs
  split at hs
  ·rename_i r hr; exact ⟨trivial, r, hr, hs⟩
  ·exact hs.elim
def EndC (P : Program) (fn : Func) (Q : AV → Prop) (p : AEx × St) : Prop := (match p.1 with | .exit _ => False | _ => True) ∧ ∃ r, resA P p.2 fn.results.toList = some r ∧ ∃ r', repP (viewA p.2.m 40 r) r' ∧ Q r'
theorem endC_fin {fn : Func} {Q : AV → Prop} {t : CT} (h : (finR P fn.results.toList t).sat (fun r => ∃ r', repP r r' ∧ Q r')) : t.sat (EndC P fn Q) := by
 refine Tree.sat_mono ?_ (Tree.sat_bind h)
 rintro ⟨x, s⟩ hs
 cases x with
 | exit i => exact hs.elim
 | normal =>
  simp only at hs
  split at hs
  ·rename_i r hr; exact ⟨trivial, r, hr, hs⟩
  ·exact hs.elim
 | ret =>
  simp only at hs
  split at hs
  ·rename_i r hr; exact ⟨trivial, r, hr, hs⟩
  ·exact hs.elim
theorem soundCAt_fin {G : List (Nat × Spec)} {X : Ext} {L : List LSpec} {f : FuncId} {fn : Func} {c : Code} {avs : List AV} {sp t : Tree AV} (hG : SoundG P G) (hX : ∀ cx, SoundX P X cx) (hmix : P.follows .mixedOrders = true) (hf : P.funcs[f]? = some fn) (hb : fn.body = some c)
  (hL : ∀ j cj, loopAt c j = some cj → ∀ sp, L[j]? = some sp → LSoundN P cj sp) (ht : finR P fn.results.toList (codeX P G X L c 0 (startS fn avs)) = t) (h : ∀ Q : AV → Prop, sp.sat Q → t.sat (fun r => ∃ r', repP r r' ∧ Q r')) : SoundCAt P f avs sp := by
 subst ht
 intro Q hQ e w args hro hidf hr
 refine calls_ofG hG hmix hf hb (cx := cxOf w (fun b => b < w.heap.size ∧ ¬ e.ro b)) (gh := none) (T := fun b => b < w.heap.size ∧ ¬ e.ro b) (e := e) (hX _) (fun _ _ h => h) rfl rfl (by rintro g T w0 D ⟨rfl, _⟩ h; exact h) ⟨rfl, rfl⟩ (fun b h => h) hro hidf hr (fun j cj hj sp hsp => hL j cj hj sp hsp _ (cxOf_fun _ _)) (endC_fin (h Q hQ)) ?_ ?_
 ·rintro x s w0 T' e' tmps w' ⟨hx, r, hres, r', hfit, hQr⟩ ⟨rfl, rfl⟩ q1 q2 q3 q5 q4
  obtain ⟨u, hu, hrep⟩ := resA_soundM (P := P) q3 q4 hres
  refine ⟨u, hu, u, r', rfl, hQr, q2, ?_⟩
  refine repP_rep hfit (Rep.idf (e := e'.view) ?_ (viewA_rep q1 q3 40 r u hrep) (viewA_idf q3 40 r u hrep))
  rintro b (hb | ⟨k, hb⟩)
  ·rcases Nat.lt_or_ge b w0.heap.size with h1 | h1
   ·refine .inl ?_
    rcases Classical.em (e.ro b) with h2 | h2
    ·exact h2
    ·exact (q5 b ⟨h1, h2⟩ hb).elim
   ·exact .inr ⟨h1, (q1.apart b hb).2⟩
  ·exact .inr ⟨(q1.owned b k hb).1, (q1.owned b k hb).2⟩
 ·rintro x s ⟨hx, _⟩ i rfl
  exact hx
theorem soundAtR_fin {G : List (Nat × Spec)} {X : Ext} {L : List LSpec} {f : FuncId} {fn : Func} {c : Code} {avs : List AV} {res : AV} {t : Tree AV} (hG : SoundG P G) (hX : ∀ cx, SoundX P X cx) (hmix : P.follows .mixedOrders = true) (hf : P.funcs[f]? = some fn) (hb : fn.body = some c)
  (hL : ∀ j cj, loopAt c j = some cj → ∀ sp, L[j]? = some sp → LSoundN P cj sp) (ht : finR P fn.results.toList (codeX P G X L c 0 (startS fn avs)) = t) (h : t.sat (fun r => repP r res)) : SoundAtR P f avs res := by
 subst ht
 intro e w args hro hidf hr
 refine calls_ofG hG hmix hf hb (cx := cxOf w (fun b => b < w.heap.size ∧ ¬ e.ro b)) (gh := none) (T := fun b => b < w.heap.size ∧ ¬ e.ro b) (e := e) (hX _) (fun _ _ h => h) rfl rfl (by rintro g T w0 D ⟨rfl, _⟩ h; exact h) ⟨rfl, rfl⟩ (fun b h => h) hro hidf hr (fun j cj hj sp hsp => hL j cj hj sp hsp _ (cxOf_fun _ _)) (endR_fin h) ?_ ?_
 ·rintro x s w0 T' e' tmps w' ⟨hx, r, hres, hfit⟩ ⟨rfl, rfl⟩ q1 q2 q3 q5 q4
  obtain ⟨u, hu, hrep⟩ := resA_soundM (P := P) q3 q4 hres
  refine ⟨u, hu, u, rfl, q2, ?_⟩
  refine repP_rep hfit (Rep.idf (e := e'.view) ?_ (viewA_rep q1 q3 40 r u hrep) (viewA_idf q3 40 r u hrep))
  rintro b (hb | ⟨k, hb⟩)
  ·rcases Nat.lt_or_ge b w0.heap.size with h1 | h1
   ·refine .inl ?_
    rcases Classical.em (e.ro b) with h2 | h2
    ·exact h2
    ·exact (q5 b ⟨h1, h2⟩ hb).elim
   ·exact .inr ⟨h1, (q1.apart b hb).2⟩
  ·exact .inr ⟨(q1.owned b k hb).1, (q1.owned b k hb).2⟩
 ·rintro x s ⟨hx, _⟩ i rfl
  exact hx
def finF (P : Program) (rs : List ResultVar) (t : CT) : Tree (Option (TypeId × Nat × Nat × (Nat → List AV))) := t.bind fun p => match p.1 with
 | .exit _ => .fail
 | _ => match resA P p.2 rs with
  | some (.row id) => match getM p.2.m id with
   | some (.row T sz n f) => .leaf (some (T, sz, n, f))
   | _ => .fail
  | some (.x (.slice none 0 0)) => .leaf none
  | _ => .fail
def fitF (T : TypeId) (sz n : Nat) (g : Nat → List AV) : Option (TypeId × Nat × Nat × (Nat → List AV)) → Prop
 | none => n = 0
 | some (T', sz', n', f) => T' = T ∧ sz' = sz ∧ n' = n ∧ ∀ i, i < n → f i = g i ∧ ∀ a ∈ g i, isX a
def EndF (P : Program) (fn : Func) (T : TypeId) (sz n : Nat) (g : Nat → List AV) (p : AEx × St) : Prop := (match p.1 with | .exit _ => False | _ => True) ∧
 ((∃ id f, resA P p.2 fn.results.toList = some (.row id) ∧ getM p.2.m id = some (.row T sz n f) ∧ ∀ i, i < n → f i = g i ∧ ∀ a ∈ g i, isX a) ∨ (resA P p.2 fn.results.toList = some (.x (.slice none 0 0)) ∧ n = 0))
theorem endF_fin {fn : Func} {T : TypeId} {sz n : Nat} {g : Nat → List AV} {t : CT} (h : (finF P fn.results.toList t).sat (fitF T sz n g)) : t.sat (EndF P fn T sz n g) := by
 refine Tree.sat_mono ?_ (Tree.sat_bind h)
 rintro ⟨x, s⟩ hs
 have key : (match resA P s fn.results.toList with
  | some (.row id) => match getM s.m id with
   | some (.row T sz n f) => (.leaf (some (T, sz, n, f)) : Tree (Option (TypeId × Nat × Nat × (Nat → List AV))))
   | _ => .fail
  | some (.x (.slice none 0 0)) => .leaf none
  | _ => .fail).sat (fitF T sz n g) → (∃ id f, resA P s fn.results.toList = some (.row id) ∧ getM s.m id = some (.row T sz n f) ∧ ∀ i, i < n → f i = g i ∧ ∀ a ∈ g i, isX a) ∨ (resA P s fn.results.toList = some (.x (.slice none 0 0)) ∧ n = 0) := by
  intro h
  split at h
  ·rename_i id hid
   split at h
   ·rename_i T' sz' n' f hm
    obtain ⟨rfl, rfl, rfl, h⟩ := h
    exact .inl ⟨id, f, hid, hm, h⟩
   ·exact h.elim
  ·rename_i hid
   exact .inr ⟨hid, h⟩
  ·exact h.elim
 cases x with
 | exit i => exact hs.elim
 | normal => exact ⟨trivial, key hs⟩
 | ret => exact ⟨trivial, key hs⟩
theorem soundFAt_fin {G : List (Nat × Spec)} {X : Ext} {L : List LSpec} {f : FuncId} {fn : Func} {c : Code} {avs : List AV} {T : TypeId} {sz n : Nat} {g : Nat → List AV} {t : Tree (Option (TypeId × Nat × Nat × (Nat → List AV)))} (hG : SoundG P G) (hX : ∀ cx, SoundX P X cx) (hmix : P.follows .mixedOrders = true) (hf : P.funcs[f]? = some fn) (hb : fn.body = some c)
  (hL : ∀ j cj, loopAt c j = some cj → ∀ sp, L[j]? = some sp → LSoundN P cj sp) (ht : finF P fn.results.toList (codeX P G X L c 0 (startS fn avs)) = t) (h : t.sat (fitF T sz n g)) (hlen : ∀ i, i < n → (g i).length = sz) : SoundFAt P f avs T sz n g := by
 subst ht
 intro e w args hro hidf hr
 refine calls_ofG hG hmix hf hb (cx := cxOf w (fun b => b < w.heap.size ∧ ¬ e.ro b)) (gh := none) (T := fun b => b < w.heap.size ∧ ¬ e.ro b) (e := e) (hX _) (fun _ _ h => h) rfl rfl (by rintro g T w0 D ⟨rfl, _⟩ h; exact h) ⟨rfl, rfl⟩ (fun b h => h) hro hidf hr (fun j cj hj sp hsp => hL j cj hj sp hsp _ (cxOf_fun _ _)) (endF_fin h) ?_ ?_
 ·rintro x s w0 T' e' tmps w' ⟨hx, hend⟩ ⟨rfl, rfl⟩ q1 q2 q3 q5 q4
  rcases hend with ⟨id, ff, hres, hm, hfg⟩ | ⟨hres, rfl⟩
  ·obtain ⟨u, hu, hrep⟩ := resA_soundM (P := P) q3 q4 hres
   obtain ⟨h1, h2, h3, xs, h4, h5⟩ := q3 _ (getM_mem hm)
   cases hrep with
   | row _ a n' c' hl hv =>
    refine ⟨_, hu, _, xs, rfl, q2, ?_, ?_, fun i hi => ⟨hlen i hi, fun a ha => isX_x ((hfg i hi).2 a ha)⟩, fun i j a u hi ha hu => ?_⟩
    ·rw [← hv]; exact h4
    ·intro b hbv
     rw [← hv] at hbv
     exact q1.owned b id (h2 b hbv)
    ·have hx' := isX_x ((hfg i hi).2 a (List.mem_of_getElem? ha))
     obtain ⟨z, rfl⟩ := hx'
     have := h5 i j (.x z) u hi (by rw [(hfg i hi).1]; exact ha) hu
     rw [this.x_inv]
  ·obtain ⟨u, hu, hrep⟩ := resA_soundM (P := P) q3 q4 hres
   obtain rfl := hrep.x_inv
   exact ⟨_, hu, _, [], rfl, q2, World.ownsRow_nil _ _ _ _, (fun b (hb : none = some b) => by cases hb), fun i hi => absurd hi (Nat.not_lt_zero _), fun i j a u hi => absurd hi (Nat.not_lt_zero _)⟩
 ·rintro x s ⟨hx, _⟩ i rfl
  exact hx
def SoundSeq (P : Program) (g : FuncId) (caps : List AV) (N : Nat) (vals : Nat → List Value) : Prop :=
 Enters P g ∧ ∀ (e : Env) (lb : List Value) (w : World) (l : Nat) (Φ : Option Nat → (Nat → Prop) → World → Prop) (T : Nat → Prop),
  (∀ b, e.ro b → b < w.heap.size ∧ ¬ T b) → (∀ b, T b → b < w.heap.size) → (∀ a ∈ caps, Idf a) → RepL e w caps lb →
  (∀ g T w w', Φ g T w → Below w.heap.size w w' → Φ g T w') →
  (∀ k T w n, Φ (some k) T w → k < N → YieldAt (fr none) n P l (vals k).toArray w fun en w' => w.heap.size ≤ w'.heap.size ∧ (∀ b, b < w.heap.size → ¬ T b → w'.heap[b]? = w.heap[b]?) ∧
   ∃ T', (∀ b, T' b → b < w'.heap.size ∧ (T b ∨ w.heap.size ≤ b)) ∧ ((en = .returned (.bool true) ∧ Φ (some (k + 1)) T' w') ∨ (en = .returned (.bool false) ∧ Φ none T' w'))) →
  Φ (some 0) T w →
  Calls P g (.func (.yield l) #[] #[] :: lb).toArray w fun en w' => (∃ v, en = .returned v) ∧ ((∃ T', Φ (some N) T' w') ∨ (∃ T', Φ none T' w'))
def finQ (N : Nat) (t : CT) : Tree Unit := t.bind fun p => match p.1 with
 | .exit _ => .fail
 | _ => match p.2.gh with
  | none => .leaf ()
  | some k => .need [k = N] (.leaf ())
theorem finQ_sat {N : Nat} {t : CT} (h : (finQ N t).sat (fun _ => True)) : t.sat (fun p => (∀ i, p.1 ≠ .exit i) ∧ (p.2.gh = none ∨ p.2.gh = some N)) := by
 refine Tree.sat_mono ?_ (Tree.sat_bind h)
 rintro ⟨x, s⟩ hs
 have key : (match s.gh with | none => (.leaf () : Tree Unit) | some k => .need [k = N] (.leaf ())).sat (fun _ => True) → s.gh = none ∨ s.gh = some N := by
  cases hg : s.gh with
  | none => exact fun _ => .inl rfl
  | some k =>
   intro h
   have : k = N := h.1
   exact .inr (by rw [this])
 cases x with
 | exit i => exact hs.elim
 | normal => exact ⟨fun i h => (by cases h), key hs⟩
 | ret => exact ⟨fun i h => (by cases h), key hs⟩
def cxY (w : World) (Φ : Option Nat → (Nat → Prop) → World → Prop) : Cx := { M := fun _ => False, Φ := fun g T w' => w.heap.size ≤ w'.heap.size ∧ Φ g T w', K := fun _ _ => False, saved := [] }
theorem soundSeq_fin {G : List (Nat × Spec)} {L : Nat → List LSpec} {g : FuncId} {fn : Func} {c : Code} {caps : List AV} {N : Nat} {vals : Nat → List Value} {t : Nat → Tree Unit} (hG : SoundG P G) (hmix : P.follows .mixedOrders = true) (hent : Enters P g) (hf : P.funcs[g]? = some fn) (hb : fn.body = some c) (hrs : fn.results = #[])
  (hL : ∀ l cx, SoundX P { Y := some (l, N, vals) } cx → ∀ j cj, loopAt c j = some cj → ∀ sp, (L l)[j]? = some sp → LSoundC P none cx cj sp)
  (ht : ∀ l, finQ N (codeX P G { Y := some (l, N, vals) } (L l) c 0 { startS fn (.fn (.yield l) [] [] :: caps) with gh := some 0 }) = t l) (h : ∀ l, (t l).sat (fun _ => True)) : SoundSeq P g caps N vals := by
 refine ⟨hent, ?_⟩
 intro e lb w l Φ T hro hT hidf hr hst hy h0
 have hX : SoundX P { Y := some (l, N, vals) } (cxY w Φ) := by
  refine ⟨?_, (fun _ h => by cases h), (fun _ h => by cases h), (fun _ h => by cases h), (fun _ h => by cases h), (fun _ h => by cases h)⟩
  intro l' N' vals' hY
  cases hY
  refine ⟨fun k T w1 w2 h hb => ⟨Nat.le_trans h.1 hb.size, hst _ T w1 w2 h.2 hb⟩, fun k T w1 n h hk => ?_⟩
  obtain ⟨fn, tmps, assign, body, h1, h2⟩ := hy k T w1 n h.2 hk
  refine ⟨fn, tmps, assign, body, h1, h2.mono ?_⟩
  rintro en w2 ⟨q1, q2, T', q3, q4⟩
  refine ⟨q1, q2, T', q3, q4.imp (fun q => ⟨q.1, ?_, q.2⟩) (fun q => ⟨q.1, ?_, q.2⟩)⟩
  ·exact Nat.le_trans h.1 q1
  ·exact Nat.le_trans h.1 q1
 have hs := h l
 rw [← ht l] at hs
 refine calls_ofG hG hmix hf hb (cx := cxY w Φ) (gh := some 0) (T := T) (e := e) (avs := .fn (.yield l) [] [] :: caps) hX (fun _ _ h => h) rfl rfl (fun _ _ _ _ _ h => h.elim) ⟨Nat.le_refl _, h0⟩ (fun b hb => ⟨hT b hb, fun hr => (hro b hr).2 hb⟩) (fun b hb => (hro b hb).1) ?_ (RepL.cons (.fn (.yield l) [] [] [] [] rfl (fun i a v h => by simp at h) rfl (fun i a v h => by simp at h)) hr) (hL l _ hX) (finQ_sat hs) ?_ ?_
 ·intro a ha
  rcases List.mem_cons.1 ha with rfl | ha
  ·exact .fn _ [] [] (fun a h => by cases h) (fun a h => by cases h)
  ·exact hidf a ha
 ·rintro x s w0 T' e' tmps w' ⟨_, hgh⟩ ⟨_, hΦ⟩ _ q2 _ _ _
  refine ⟨.tuple #[], ?_, ⟨_, rfl⟩, ?_⟩
  ·simp [results, hrs]
  ·have hΦ' := hst _ T' w0 w' hΦ q2
   rcases hgh with hgh | hgh
   ·rw [hgh] at hΦ'; exact .inr ⟨T', hΦ'⟩
   ·rw [hgh] at hΦ'; exact .inl ⟨T', hΦ'⟩
 ·exact fun x s h => h.1
end
end Go.Sx
namespace Go.Sx
open Go Go.RowKit
section
variable {P : Program} {cx : Cx} {w0 : World} {T : Nat → Prop} {e : Env} {s : St} {a : Act} {w : World}
theorem RelE.grow (r : RelE cx w0 T e s a w) {w' : World} (hb : Below w.heap.size w w') : RelE cx w0 T e s a w' := by
 have st : Step e e w w' := ⟨fun b hlt hr => ⟨hr, hb.block b hlt⟩, fun _ h => ⟨h, rfl, rfl⟩, hb.size⟩
 refine ⟨⟨fun b hb' => ⟨(r.env.apart b hb').1, ?_⟩, fun b k hk => ⟨(r.env.owned b k hk).1, ?_⟩⟩, r.below.trans (hb.mono r.hB), r.mem.ext hb st (fun _ _ h => h), r.live, r.foe, r.xt.step st, r.slots.step st⟩
 ·have := (r.env.apart b hb').2; have := hb.size; omega
 ·have := (r.env.owned b k hk).2; have := hb.size; omega
theorem RelE.moreRo (r : RelE cx w0 T e s a w) (ro' : Nat → Prop) (h1 : ∀ b, e.ro b → ro' b) (h2 : ∀ b, ro' b → e.own b = none ∧ b < w.heap.size) (h3 : ∀ b, ro' b → ¬ T b) : RelE cx w0 T { e with ro := ro' } s a w := by
 have st : Step e { e with ro := ro' } w w := ⟨fun b _ hr => ⟨h1 b hr, rfl⟩, fun _ h => ⟨h, rfl, rfl⟩, Nat.le_refl _⟩
 exact ⟨⟨h2, r.env.owned⟩, r.below, r.mem.ext (Below.refl _ _) st (fun _ _ h => h), r.live, fun b hb => ⟨(r.foe b hb).1, fun h => h3 b h hb⟩, r.xt.step st, r.slots.step st⟩
theorem RelE.turn (r : RelE cx w0 T e s a w) {l : Nat} {o o' : Obj} (hl : w.heap[l]? = some o) (ho : o.isCells = false) (ho' : o'.isCells = false) (hown : e.own l = none) (hB : w0.heap.size ≤ l) (hd : ∀ x, o ≠ .deferred x) {K' : Nat → Obj → Prop}
  (hK' : ∀ b q, K' b q → (b ≠ l ∧ cx.K b q) ∨ (b = l ∧ q = o' ∧ e.ro l)) : RelE { cx with K := K' } w0 T e s a (w.putObj l o') := by
 have hlt := (Array.getElem?_eq_some_iff.1 hl).1
 have hsz : (w.putObj l o').heap.size = w.heap.size := World.putObj_size
 have hc := cell_putObj (o' := o') hl ho ho'
 refine ⟨⟨fun b hb => by rw [hsz]; exact r.env.apart b hb, fun b k hk => by rw [hsz]; exact r.env.owned b k hk⟩, ?_, fun p hp => (r.mem p hp).putObj hl ho ho' hown, r.live, r.foe, ⟨⟨fun d hd' => ?_, r.xt.defers.2⟩, fun b q hq => ?_, ⟨r.xt.saved.1, fun i x v hx hv => (r.xt.saved.2 i x v hx hv).sameCells hsz hc⟩, by rw [hsz]; exact r.xt.size⟩, r.slots.sameCells hsz hc⟩
 ·exact r.below.trans ((Below.refl w0.heap.size w).grown (grownBy_putObj' w l _) (by have := r.hB; omega) (fun k he => by cases he; exact hB))
 ·obtain ⟨D, k1, k2, k3, k4, k5⟩ := r.xt.defers.1 d hd'
  refine ⟨D, k1, k2, by rw [hsz]; exact k3, ?_, k5⟩
  rw [World.putObj_heap_other (fun he => by subst he; rw [hl] at k4; exact hd _ (Option.some.inj k4))]
  exact k4
 ·rcases hK' b q hq with ⟨hne, hk⟩ | ⟨rfl, rfl, hro⟩
  ·obtain ⟨q1, q2, q3⟩ := r.xt.kept b q hk
   exact ⟨q1, by rw [hsz]; exact q2, (World.putObj_heap_other hne).trans q3⟩
  ·exact ⟨hro, by rw [hsz]; exact hlt, World.putObj_heap_same hlt⟩
def setPs : List Nat → List Value → List AV → List AV
 | p :: ps, v :: vs, σ => setPs ps vs (σ.set p (.x v))
 | _, _, σ => σ
theorem setPs_rep : ∀ (ps : List Nat) (vs : List Value) (σ : List AV) (us : List Value), RepL e w σ us → RepL e w (setPs ps vs σ) ((ps.zip vs).foldl (fun t (p : Nat × Value) => t.set p.1 p.2) us)
 | [], _, _, _, h => h
 | _ :: _, [], _, _, h => h
 | p :: ps, v :: vs, _, _, h => setPs_rep ps vs _ _ (h.set (.x v) p)
theorem foldl_setPs : ∀ (l : List (Nat × Value)) (t : Array Value), (l.foldl (fun t (p : Nat × Value) => t.setIfInBounds p.1 p.2) t).toList = l.foldl (fun t (p : Nat × Value) => t.set p.1 p.2) t.toList
 | [], _ => rfl
 | p :: l, t => by simp only [List.foldl_cons]; rw [foldl_setPs l]; simp
def startR (s : St) (ps : List Nat) (vs : List Value) : St := { s with σ := setPs ps vs s.σ, sv := s.σ :: s.sv }
def popS (s : St) : St := match s.sv with
 | σ :: t => { s with σ := σ, sv := t }
 | [] => s
def roundR (P : Program) (G : List (Nat × Spec)) (X : Ext) (L : List LSpec) (N : List (Pl × Nat × TypeId × Nat)) (ps : List Nat) (vs : List Value) (assign body : Code) (s nxt : St) (out : AEx → Option St) : Tree AEx :=
 (codeX P G X [] assign 0 (startR s ps vs)).bind fun p => match p.1 with
  | .normal => (codeX P G X L body 0 p.2).bind fun q => endR N nxt out (q.1, popS q.2)
  | _ => .fail
def AEx.code : AEx → Code
 | .normal => .skip
 | .exit id => .exit id
 | .ret => .ret
end
theorem roundR_sat {P : Program} {G : List (Nat × Spec)} {X : Ext} {L : List LSpec} {N : List (Pl × Nat × TypeId × Nat)} {ps : List Nat} {vs : List Value} {assign body : Code} {s nxt : St} {out : AEx → Option St} {R : AEx → Prop} (h : (roundR P G X L N ps vs assign body s nxt out).sat R) :
  (codeX P G X [] assign 0 (startR s ps vs)).sat (fun p => p.1 = .normal ∧ (codeX P G X L body 0 p.2).sat (fun q => match q.1 with
   | .normal => R .normal ∧ allP (subP (normL N (popS q.2)) nxt)
   | y => ∃ E, out y = some E ∧ R y ∧ allP (subP (normL N (popS q.2)) E))) := by
 refine Tree.sat_mono ?_ (Tree.sat_bind h)
 rintro ⟨y, s1⟩ h1
 cases y with
 | normal =>
  refine ⟨rfl, Tree.sat_mono ?_ (Tree.sat_bind h1)⟩
  rintro ⟨y, s'⟩ hp
  cases y with
  | normal => exact ⟨(Tree.sat_needT hp).2, (Tree.sat_needT hp).1⟩
  | exit id =>
   dsimp only [endR] at hp ⊢
   split at hp
   ·rename_i E hE
    exact ⟨E, hE, (Tree.sat_needT hp).2, (Tree.sat_needT hp).1⟩
   ·exact hp.elim
  | ret =>
   dsimp only [endR] at hp ⊢
   split at hp
   ·rename_i E hE
    exact ⟨E, hE, (Tree.sat_needT hp).2, (Tree.sat_needT hp).1⟩
   ·exact hp.elim
 | exit id => exact h1.elim
 | ret => exact h1.elim
theorem range_rounds {P : Program} {G : List (Nat × Spec)} {X : Ext} {L : List LSpec} (N : List (Pl × Nat × TypeId × Nat)) (hG : SoundG P G) (hX : ∀ cx, SoundX P X cx) (hmix : P.follows .mixedOrders = true) {f : Operand} {ps : Array Nat} {assign body : Code}
  (hL : ∀ j cj, loopAt body j = some cj → ∀ sp, L[j]? = some sp → LSound P cj sp)
  {V : Type} (inv : V → St) (I : V → Prop) (idx : V → Nat) (out : V → AEx → Option St) {t : CT} {x0 : V} (h0 : I x0) (hi0 : idx x0 = 0)
  (hok : ∀ x, okB (inv x) = true) (hokO : ∀ x y E, out x y = some E → okB E = true) (hgh : ∀ x, (inv x).gh = none) (hghO : ∀ x y E, out x y = some E → E.gh = none)
  {g : FuncId} {caps : List AV} (hfv : rho (inv x0).σ f = .fn (.func g) [] caps) (hcaps : caps.all (idfD 6) = true) {M : Nat} {vals : Nat → List Value} (hseq : SoundSeq P g caps M vals) (hps : ∀ k, (vals k).length = ps.size)
  (round : ∀ (Q : AEx × St → Prop), t.sat Q → ∀ x, I x → (idx x < M → ∃ x', idx x' = idx x + 1 ∧ (roundR P G X L N ps.toList (vals (idx x)) assign body (inv x) (inv x') (out x)).sat (fun y => match y with
   | .normal => I x'
   | y => ∀ E, out x y = some E → Q (y, E))) ∧ (idx x = M → Q (.normal, inv x))) : LSoundN P (.rangeFunc f ps assign body) (normSp N (sumL (inv x0) t)) := by
 intro cx hfun
 refine normSp_soundC (sumL_soundC (hok x0) ?_)
 intro n Q hQ a w r
 obtain ⟨w0, T0, e, hΦ0, r⟩ := r
 rw [hgh] at hΦ0
 refine wpIn_rangeFunc ?_
 intro fn hfn
 obtain ⟨rec, hrec⟩ : ∃ rec : LoopState → Option Code → Loop, rec = fun st pe => { state := st, pending := pe, fn, tmps := a.tmps, params := ps, assign, body, defers := w.heap.size } := ⟨_, rfl⟩
 obtain ⟨W1, hW1⟩ : ∃ W1, (w.alloc (.deferred (some []))).alloc (.loop (rec .ready none)) = W1 := ⟨_, rfl⟩
 have hfe := rho_rep r.slots f
 rw [hfv] at hfe
 obtain ⟨us, lb, hv, ru, rl⟩ := hfe.fn_inv
 cases ru.nil_inv
 have hL1 : W1.heap[w.heap.size + 1]? = some (.loop (rec .ready none)) := by
  rw [← hW1]; have := World.alloc_heap_new (w.alloc (.deferred (some []))) (.loop (rec .ready none)); rwa [World.size_alloc] at this
 have hD1 : W1.heap[w.heap.size]? = some (.deferred (some [])) := by
  rw [← hW1]; exact (Below.heap_alloc _ _ _ (by simp)).trans (World.alloc_heap_new w _)
 have hS1 : W1.heap.size = w.heap.size + 2 := by rw [← hW1]; simp
 have hb1 : Below w.heap.size w W1 := by
  rw [← hW1]; exact ((Below.refl _ w).alloc (Nat.le_refl _) _).alloc (by simp) _
 have hw0 := r.hB
 -- the frame that waits
 obtain ⟨a', ha'⟩ : ∃ a' : Act, a' = { tmps := a.tmps, defers := { target := .collected w.heap.size, args := #[] } :: a.defers } := ⟨_, rfl⟩
 -- what is so between two calls of yield
 let own' : Env → Nat → Prop := fun e b => (∃ id, e.own b = some id) ∨ b = w.heap.size + 1
 let Φi : Option Nat → (Nat → Prop) → World → Prop := fun k T W => match k with
  | some k => ∃ x e, I x ∧ idx x = k ∧ T = own' e ∧ RelE cx w0 T0 e (inv x) a' W ∧ e.own (w.heap.size + 1) = none ∧ W.heap[w.heap.size + 1]? = some (.loop (rec .ready none))
  | none => ∃ y E e, y ≠ AEx.normal ∧ Q (y, E) ∧ E.gh = none ∧ T = own' e ∧ RelE cx w0 T0 e E a' W ∧ e.own (w.heap.size + 1) = none ∧ W.heap[w.heap.size + 1]? = some (.loop (rec .done (some y.code)))
 have hst : ∀ g T w w', Φi g T w → Below w.heap.size w w' → Φi g T w' := by
  intro k T w1 w2 h hb
  cases k with
  | some k =>
   obtain ⟨x, e, h1, h2, h3, h4, h5, h6⟩ := h
   exact ⟨x, e, h1, h2, h3, h4.grow hb, h5, (hb.block _ (Array.getElem?_eq_some_iff.1 h6).1).trans h6⟩
  | none =>
   obtain ⟨y, E, e, h1, h2, h2', h3, h4, h5, h6⟩ := h
   exact ⟨y, E, e, h1, h2, h2', h3, h4.grow hb, h5, (hb.block _ (Array.getElem?_eq_some_iff.1 h6).1).trans h6⟩
 -- the start
 have r1 := r.grow hb1
 have hns : ∀ d ∈ a.defers, d ≠ { target := .collected w.heap.size, args := #[] } := by
  intro d hd he
  obtain ⟨D, k1, k2, k3, k4, k5⟩ := r.xt.defers.1 d hd
  rw [k1] at he
  simp only [Deferred.mk.injEq, Target.collected.injEq, and_true] at he
  omega
 let e1 : Env := { e with ro := fun b => e.ro b ∨ b = w.heap.size }
 have r2 : RelE cx w0 T0 e1 (inv x0) a W1 := by
  refine r1.moreRo _ (fun b h => .inl h) ?_ ?_
  ·rintro b (h | rfl)
   ·exact r1.env.apart b h
   ·refine ⟨?_, by omega⟩
    cases ho : e.own w.heap.size with
    | none => rfl
    | some k => have := (r.env.owned _ k ho).2; omega
  ·rintro b (h | rfl) hT
   ·exact (r.foe b hT).2 h
   ·have := (r.foe _ hT).1; omega
 have r3 : RelE cx w0 T0 e1 (inv x0) a' W1 := by
  rw [ha']
  refine ⟨r2.env, r2.below, r2.mem, r2.live, r2.foe, ⟨⟨fun d hd => ?_, List.nodup_cons.2 ⟨fun h => hns _ h rfl, r2.xt.defers.2⟩⟩, r2.xt.kept, r2.xt.saved, r2.xt.size⟩, r2.slots⟩
  rcases List.mem_cons.1 hd with rfl | hd
  ·exact ⟨w.heap.size, rfl, .inr rfl, by omega, hD1, hfun _ _ _ _ hΦ0 hw0⟩
  ·exact r2.xt.defers.1 d hd
 have hownl : e.own (w.heap.size + 1) = none := by
  cases ho : e.own (w.heap.size + 1) with
  | none => rfl
  | some k => have := (r.env.owned _ k ho).2; omega
 refine ⟨w.heap.size + 1, [{ target := .collected w.heap.size, args := #[] }], W1, { target := .fn (.func g) lb.toArray, args := #[.func (.yield (w.heap.size + 1)) #[] #[]] }, W1, g,
  #[.func (.yield (w.heap.size + 1)) #[] #[]] ++ lb.toArray, W1, ?_, ?_, (fun _ _ => trivial), ?_, (fun h => by cases h), ?_⟩
 ·rw [← hW1, hrec]; exact run_enterLoop_outer _ _ _ _ _
 ·simp only [resolve, hv]
  simp [go_sem]
 ·simp only [invoke]
  exact run_callFunc hseq.1 _ W1
 have hargs : #[.func (.yield (w.heap.size + 1)) #[] #[]] ++ lb.toArray = (Value.func (.yield (w.heap.size + 1)) #[] #[] :: lb).toArray := Array.ext' (by simp)
 rw [hargs]
 have hcidf : ∀ x ∈ caps, Idf x := by
  intro x hx
  obtain ⟨i, hi⟩ := List.mem_iff_getElem?.1 hx
  obtain ⟨v, _, rv⟩ := rl.get hi
  exact idfD_idf 6 x v rv (List.all_eq_true.1 hcaps x hx)
 have stw : Step e e1 w W1 := ⟨fun b hlt hr => ⟨.inl hr, hb1.block b hlt⟩, fun _ h => ⟨h, rfl, rfl⟩, hb1.size⟩
 have hcall := hseq.2 e1 lb W1 (w.heap.size + 1) Φi (own' e1) ?_ ?_ hcidf (rl.step stw) hst ?_ ⟨x0, e1, h0, hi0, rfl, r3, hownl, hL1⟩
 ·refine callsIn_fr (hcall.mono ?_)
  have hw4 : ∀ {W : World} {s : St} {e : Env} {o : Loop} {o' : Loop}, RelE cx w0 T0 e s a' W → e.own (w.heap.size + 1) = none → W.heap[w.heap.size + 1]? = some (.loop o) → s.gh = none → Rel cx s a' (W.putObj (w.heap.size + 1) (.loop o')) := by
   intro W s e o o' hr ho hl hg
   have hne : ∀ b q, cx.K b q → b ≠ w.heap.size + 1 := by
    rintro b q hk rfl
    have h1 := r.xt.kept _ q hk
    omega
   have := hr.turn (K' := cx.K) hl rfl (o' := .loop o') rfl ho (by omega) (fun x h => by cases h) (fun b q hk => .inl ⟨hne b q hk, hk⟩)
   exact ⟨w0, T0, e, by rw [hg]; exact hΦ0, this⟩
  rintro en W ⟨⟨v, rfl⟩, h⟩
  rcases h with ⟨T', x, e', q1, q2, q3, q4, q5, q6⟩ | ⟨T', y, E, e', q1, q2, q2', q3, q4, q5, q6⟩
  ·refine ⟨none, _, by have := run_endLoop (P := P) q6 (by rw [hrec]; simp); rw [hrec] at this; exact this, ?_⟩
   have := hw4 (o' := { rec .ready none with state := .exhausted }) q4 q5 q6 (hgh x)
   rw [ha', hrec] at this
   exact ⟨.normal, inv x, rfl, (round Q hQ x q1).2 q2, this⟩
  ·have hend : (Instr.endLoop (w.heap.size + 1)).run P W = .ok (some y.code) (W.putObj (w.heap.size + 1) (.loop { rec .done (some y.code) with state := .exhausted })) := by
    have := run_endLoop (P := P) q6 (by rw [hrec]; simp)
    rw [hrec] at this ⊢
    exact this
   refine ⟨some y.code, _, hend, ?_⟩
   have := hw4 (o' := { rec .done (some y.code) with state := .exhausted }) q4 q5 q6 q2'
   rw [ha'] at this
   cases y with
   | normal => exact (q1 rfl).elim
   | exit id => exact wpIn_exit ⟨.exit id, E, rfl, q2, this⟩
   | ret => exact wpIn_ret ⟨.ret, E, rfl, q2, this⟩
 ·rintro b (h | rfl)
  ·refine ⟨by have := (r.env.apart b h).2; omega, ?_⟩
   rintro (⟨id, h2⟩ | rfl)
   ·have h2' : e.own b = some id := h2
    rw [(r.env.apart b h).1] at h2'; cases h2'
   ·have := (r.env.apart _ h).2; omega
  ·refine ⟨by omega, ?_⟩
   rintro (⟨id, h2⟩ | h2)
   ·have := (r.env.owned _ id h2).2; omega
   ·omega
 ·rintro b (⟨id, h⟩ | rfl)
  ·have := (r.env.owned b id h).2; omega
  ·omega
 ·-- a round
  rintro k T W m ⟨x, ek, hIx, rfl, rfl, rk, hkl, hkr⟩ hkM
  obtain ⟨x', hx', hround⟩ := (round Q hQ x hIx).1 hkM
  have hWl := (Array.getElem?_eq_some_iff.1 hkr).1
  have hy := run_yield (P := P) (args := (vals (idx x)).toArray) hkr (by rw [hrec]; simp [hps])
  rw [hrec] at hy
  refine ⟨fn, _, assign, body, hy, roundIn_of_wpIn hfn ?_⟩
  clear hy
  -- the blocks that stay
  let nown : Nat → Prop := fun b => w0.heap.size ≤ b ∧ b < W.heap.size ∧ ek.own b = none
  let K0 : Nat → Obj → Prop := fun b o => (cx.K b o ∨ (nown b ∧ W.heap[b]? = some o) ∨ (∃ d ∈ a'.defers, d = { target := .collected b, args := #[] } ∧ o = .deferred (some []))) ∧ b ≠ w.heap.size + 1
  let cxk : (Nat → Obj → Prop) → Cx := fun K => { M := fun _ => False, Φ := fun g T w => g = none ∧ w = w0 ∧ T = T0, K := K, saved := a.tmps.toList :: cx.saved, sz := W.heap.size }
  let e2 : Env := { ek with ro := fun b => ek.ro b ∨ nown b }
  have rk2 : RelE cx w0 T0 e2 (inv x) a' W := by
   refine rk.moreRo _ (fun b h => .inl h) ?_ ?_
   ·rintro b (h | ⟨h1, h2, h3⟩)
    ·exact rk.env.apart b h
    ·exact ⟨h3, h2⟩
   ·rintro b (h | ⟨h1, h2, h3⟩) hT
    ·exact (rk.foe b hT).2 h
    ·have := (rk.foe b hT).1; omega
  have hKok : ∀ b o, K0 b o → e2.ro b ∧ b < W.heap.size ∧ W.heap[b]? = some o := by
   rintro b o ⟨h | ⟨h1, h2⟩ | ⟨d, hd, h1, rfl⟩, _⟩
   ·exact rk2.xt.kept b o h
   ·exact ⟨.inr h1, h1.2.1, h2⟩
   ·obtain ⟨D, k1, k2, k3, k4, k5⟩ := rk2.xt.defers.1 d hd
    rw [h1] at k1
    simp only [Deferred.mk.injEq, Target.collected.injEq, and_true] at k1
    subst k1
    exact ⟨k2, k3, k4⟩
  have hlro : e2.ro (w.heap.size + 1) := .inr ⟨by omega, hWl, hkl⟩
  have rs : Rel (cxk (fun b o => K0 b o ∨ (b = w.heap.size + 1 ∧ o = .loop (rec .ready none)))) (startR (inv x) ps.toList (vals (idx x))) { tmps := (ps.zip (vals (idx x)).toArray).foldl (fun t (p, v) => t.setIfInBounds p v) a.tmps, defers := [] } W := by
   refine ⟨w0, T0, e2, ⟨hgh x, rfl, rfl⟩, rk2.env, rk2.below, rk2.mem, rk2.live, rk2.foe, ⟨⟨(fun d hd => by cases hd), List.nodup_nil⟩, ?_, RepLL.cons (by rw [ha'] at rk2; exact rk2.slots) rk2.xt.saved, Nat.le_refl _⟩, ?_⟩
   ·rintro b o (h | ⟨rfl, rfl⟩)
    ·exact hKok b o h
    ·exact ⟨hlro, hWl, hkr⟩
   ·have h1 := setPs_rep (e := e2) (w := W) ps.toList (vals (idx x)) (inv x).σ a.tmps.toList (by rw [ha'] at rk2; exact rk2.slots)
    have h2 : ((ps.zip (vals (idx x)).toArray).foldl (fun t (p, v) => t.setIfInBounds p v) a.tmps).toList = (ps.toList.zip (vals (idx x))).foldl (fun t (p : Nat × Value) => t.set p.1 p.2) a.tmps.toList := by
     rw [← foldl_setPs, ← Array.foldl_toList]
     simp
    rw [h2]
    exact h1
  have hsat := roundR_sat hround
  refine wpIn_mono (codeX_sound hG (hX _) hmix (ro := some (w.heap.size + 1)) assign 0 _ _ _ W noLoopsS hsat rs) ?_
  rintro ex a1 W1' ⟨y1, s1, rfl, ⟨hy1, hbody⟩, w0', T', ea, ⟨hg1, rfl, rfl⟩, ra⟩
  cases hy1
  obtain ⟨hlr, hll, hlh⟩ := ra.xt.kept (w.heap.size + 1) (.loop (rec .ready none)) (.inr ⟨rfl, rfl⟩)
  refine ⟨_, run_beginRound hlh (by rw [hrec]), ?_⟩
  have rb := ra.turn (K' := fun b o => K0 b o ∨ (b = w.heap.size + 1 ∧ o = .loop { rec .ready none with state := .busy })) hlh rfl (o' := .loop { rec .ready none with state := .busy }) rfl (ra.env.apart _ hlr).1 (by omega) (fun x h => by cases h) (by
   rintro b q (h | ⟨rfl, rfl⟩)
   ·exact .inl ⟨h.2, .inl h⟩
   ·exact .inr ⟨rfl, rfl, hlr⟩)
  refine wpIn_mono (codeX_sound hG (hX _) hmix (ro := some (w.heap.size + 1)) (cx := cxk (fun b o => K0 b o ∨ (b = w.heap.size + 1 ∧ o = .loop { rec .ready none with state := .busy }))) body 0 s1 _ a1 _ (fun j cj hj sp hsp => hL j cj hj sp (by simpa using hsp) _ _) hbody ⟨w0', T', ea, ⟨hg1, rfl, rfl⟩, rb⟩) ?_
  rintro ex a3 W3 ⟨y, s3, rfl, hq, w0'', T'', eb, ⟨hg3, hw0e, hT0e⟩, rc⟩
  subst hw0e hT0e
  obtain ⟨hlr3, hll3, hlh3⟩ := rc.xt.kept (w.heap.size + 1) _ (.inr ⟨rfl, rfl⟩)
  -- back to the frame that waits
  have back : ∀ (jump : Option Code) (E : St), allP (subP (normL N (popS s3)) E) → okB E = true →
    (Instr.endRound (w.heap.size + 1) jump).run P W3 = .ok (.bool jump.isNone) (W3.putObj (w.heap.size + 1) (.loop (rec (if jump.isNone then .ready else .done) jump))) ∧
    ∃ ec, RelE cx w0'' T'' ec E a' (W3.putObj (w.heap.size + 1) (.loop (rec (if jump.isNone then .ready else .done) jump))) ∧ ec.own (w.heap.size + 1) = none ∧
     (W3.putObj (w.heap.size + 1) (.loop (rec (if jump.isNone then .ready else .done) jump))).heap[w.heap.size + 1]? = some (.loop (rec (if jump.isNone then .ready else .done) jump)) ∧
     W.heap.size ≤ (W3.putObj (w.heap.size + 1) (.loop (rec (if jump.isNone then .ready else .done) jump))).heap.size ∧
     (∀ b, b < W.heap.size → ¬ own' ek b → (W3.putObj (w.heap.size + 1) (.loop (rec (if jump.isNone then .ready else .done) jump))).heap[b]? = W.heap[b]?) ∧
     ∀ b, own' ec b → b < (W3.putObj (w.heap.size + 1) (.loop (rec (if jump.isNone then .ready else .done) jump))).heap.size ∧ (own' ek b ∨ W.heap.size ≤ b) := by
   intro jump E hsub hokE
   have hrun := run_endRound (P := P) jump hlh3
   refine ⟨by rw [hrec] at hrun ⊢; exact hrun, ?_⟩
   obtain ⟨W4, hW4⟩ : ∃ W4, W4 = W3.putObj (w.heap.size + 1) (.loop (rec (if jump.isNone then .ready else .done) jump)) := ⟨_, rfl⟩
   rw [← hW4]
   have rd := rc.turn (K' := K0) hlh3 rfl (o' := .loop (rec (if jump.isNone then .ready else .done) jump)) rfl (rc.env.apart _ hlr3).1 (by omega) (fun x h => by cases h) (fun b q h => .inl ⟨h.2, .inl h⟩)
   rw [← hW4] at rd
   have hl4 : W4.heap[w.heap.size + 1]? = some (.loop (rec (if jump.isNone then .ready else .done) jump)) := by rw [hW4]; exact World.putObj_heap_same hll3
   have hsz4 : W.heap.size ≤ W4.heap.size := rd.xt.size
   -- the frame's own state, in a run that is pinned
   let cxp : Cx := { M := fun D => cx.M D, Φ := fun g T w => g = none ∧ w = w0'' ∧ T = T'', K := fun b o => K0 b o ∨ (b = w.heap.size + 1 ∧ o = .loop (rec (if jump.isNone then .ready else .done) jump)), saved := cx.saved, sz := cx.sz }
   have hpop : Rel cxp (popS s3) a' W4 := by
    obtain ⟨σ0, l', hsv, hs1, hs2⟩ := rd.xt.saved.cons_inv
    refine ⟨w0'', T'', eb, ?_, rd.env, rd.below, ?_, ?_, rd.foe, ⟨⟨fun d hd => ?_, ?_⟩, ?_, ?_, Nat.le_trans rk.xt.size hsz4⟩, ?_⟩
    ·exact ⟨by unfold popS; rw [hsv]; exact hg3, rfl, rfl⟩
    ·unfold popS; rw [hsv]; exact rd.mem
    ·unfold popS; rw [hsv]; exact rd.live
    ·obtain ⟨D, k1, k2, k3, k4, k5⟩ := rk.xt.defers.1 d hd
     have hDl : D ≠ w.heap.size + 1 := by
      rintro rfl
      rw [hkr] at k4; cases k4
     obtain ⟨q1, q2, q3⟩ := rd.xt.kept D (.deferred (some [])) ⟨.inr (.inr ⟨d, hd, k1, rfl⟩), hDl⟩
     exact ⟨D, k1, q1, q2, q3, k5⟩
    ·exact rk.xt.defers.2
    ·rintro b o (h | ⟨rfl, rfl⟩)
     ·exact rd.xt.kept b o h
     ·exact ⟨hlr3, (Array.getElem?_eq_some_iff.1 hl4).1, hl4⟩
    ·unfold popS; rw [hsv]; exact hs2
    ·unfold popS; rw [hsv]; rw [ha']; exact hs1
   obtain ⟨w0p, Tp, ec, ⟨_, rfl, rfl⟩, re⟩ := sub_rel (allP_mem hsub) hokE (normL_rel (l := N) hpop)
   have hlec := re.xt.kept _ _ (Or.inr ⟨rfl, rfl⟩)
   refine ⟨ec, ⟨re.env, re.below, re.mem, re.live, re.foe, ⟨re.xt.defers, fun b o h => ?_, re.xt.saved, re.xt.size⟩, re.slots⟩, (re.env.apart _ hlec.1).1, hl4, hsz4, ?_, ?_⟩
   ·refine re.xt.kept b o (.inl ⟨.inl h, ?_⟩)
    rintro rfl
    have h1 := r.xt.kept _ o h
    omega
   ·intro b hb hno
    rcases Nat.lt_or_ge b w0p.heap.size with h1 | h1
    ·rw [re.below.block b h1, rk.below.block b h1]
    ·have hbn : ek.own b = none := by
      cases ho : ek.own b with
      | none => rfl
      | some id => exact (hno (.inl ⟨id, ho⟩)).elim
     have hbl : b ≠ w.heap.size + 1 := fun h => hno (.inr h)
     have hlt : b < W.heap.size := hb
     obtain ⟨_, _, q3⟩ := re.xt.kept b W.heap[b] (.inl ⟨.inr (.inl ⟨⟨h1, hlt, hbn⟩, by simp [hlt]⟩), hbl⟩)
     rw [q3]; simp [hlt]
   ·rintro b (⟨id, h⟩ | rfl)
    ·obtain ⟨q1, q2⟩ := re.env.owned b id h
     refine ⟨q2, ?_⟩
     rcases Nat.lt_or_ge b W.heap.size with h1 | h1
     ·refine .inl ?_
      cases ho : ek.own b with
      | some id' => exact .inl ⟨id', ho⟩
      | none =>
       rcases Classical.em (b = w.heap.size + 1) with h2 | h2
       ·exact .inr h2
       ·exfalso
        obtain ⟨q3, _, _⟩ := re.xt.kept b W.heap[b] (.inl ⟨.inr (.inl ⟨⟨q1, h1, ho⟩, by simp [h1]⟩), h2⟩)
        rw [(re.env.apart b q3).1] at h; cases h
     ·exact .inr h1
    ·exact ⟨(Array.getElem?_eq_some_iff.1 hl4).1, .inl (.inr rfl)⟩
  cases y with
  | normal =>
   obtain ⟨hI', hsub⟩ := hq
   obtain ⟨hrun, ec, q1, q2, q3, q4, q5, q6⟩ := back none (inv x') hsub (hok x')
   exact ⟨_, _, hrun, q4, q5, own' ec, q6, .inl ⟨rfl, x', ec, hI', hx', rfl, q1, q2, q3⟩⟩
  | exit id =>
   obtain ⟨E, hE, hQE, hsub⟩ := hq
   obtain ⟨hrun, ec, q1, q2, q3, q4, q5, q6⟩ := back (some (.exit id)) E hsub (hokO x _ E hE)
   exact ⟨_, _, hrun, q4, q5, own' ec, q6, .inr ⟨rfl, .exit id, E, ec, (fun h => by cases h), hQE E hE, hghO x _ E hE, rfl, q1, q2, q3⟩⟩
  | ret =>
   obtain ⟨E, hE, hQE, hsub⟩ := hq
   obtain ⟨hrun, ec, q1, q2, q3, q4, q5, q6⟩ := back (some .ret) E hsub (hokO x _ E hE)
   exact ⟨_, _, hrun, q4, q5, own' ec, q6, .inr ⟨rfl, .ret, E, ec, (fun h => by cases h), hQE E hE, hghO x _ E hE, rfl, q1, q2, q3⟩⟩
def SoundR (P : Program) (f : FuncId) (s : Spec) : Prop := Enters P f ∧ ∀ avs ns res, s avs = some (ns, res) → (∀ p ∈ ns, p) → SoundAtR P f avs res
def SoundRL (P : Program) (R : List (Nat × Spec)) : Prop := ∀ p ∈ R, SoundR P p.1 p.2
def SoundHL (P : Program) (H : List (Nat × HSpec)) : Prop := ∀ p ∈ H, SoundHSpec P p.1 p.2
theorem SoundRL.nil (P : Program) : SoundRL P [] := fun _ h => by cases h
theorem SoundRL.cons {P : Program} {f : Nat} {s : Spec} {R : List (Nat × Spec)} (h : SoundR P f s) (k : SoundRL P R) : SoundRL P ((f, s) :: R) := by
 intro p hp
 rcases List.mem_cons.1 hp with rfl | hp
 ·exact h
 ·exact k p hp
theorem SoundHL.nil (P : Program) : SoundHL P [] := fun _ h => by cases h
theorem SoundHL.cons {P : Program} {f : Nat} {s : HSpec} {R : List (Nat × HSpec)} (h : SoundHSpec P f s) (k : SoundHL P R) : SoundHL P ((f, s) :: R) := by
 intro p hp
 rcases List.mem_cons.1 hp with rfl | hp
 ·exact h
 ·exact k p hp
theorem SoundX.of {P : Program} {R : List (Nat × Spec)} {H : List (Nat × HSpec)} (hR : SoundRL P R) (hH : SoundHL P H) (cx : Cx) : SoundX P { R := R, H := H } cx := ⟨(fun _ _ _ h => by cases h), hR, hH, (fun _ h => by cases h), (fun _ h => by cases h), (fun _ h => by cases h)⟩
def SoundCL (P : Program) (C : List (Nat × CSpec)) : Prop := ∀ p ∈ C, Enters P p.1 ∧ ∀ avs t, p.2 avs = some t → SoundCAt P p.1 avs t
theorem SoundCL.nil (P : Program) : SoundCL P [] := fun _ h => by cases h
theorem SoundCL.cons {P : Program} {f : Nat} {s : CSpec} {C : List (Nat × CSpec)} (h : Enters P f ∧ ∀ avs t, s avs = some t → SoundCAt P f avs t) (k : SoundCL P C) : SoundCL P ((f, s) :: C) := by
 intro p hp
 rcases List.mem_cons.1 hp with rfl | hp
 ·exact h
 ·exact k p hp
theorem SoundX.ofC {P : Program} {R : List (Nat × Spec)} {H : List (Nat × HSpec)} {C : List (Nat × CSpec)} (hR : SoundRL P R) (hH : SoundHL P H) (hC : SoundCL P C) (cx : Cx) : SoundX P { R := R, H := H, C := C } cx := ⟨(fun _ _ _ h => by cases h), hR, hH, hC, (fun _ h => by cases h), (fun _ h => by cases h)⟩
def SoundFL (P : Program) (F : List (Nat × FSpec)) : Prop := ∀ p ∈ F, Enters P p.1 ∧ ∀ avs ns T sz n g, p.2 avs = some (ns, T, sz, n, g) → (∀ q ∈ ns, q) → SoundFAt P p.1 avs T sz n g
theorem SoundFL.nil (P : Program) : SoundFL P [] := fun _ h => by cases h
theorem SoundFL.cons {P : Program} {f : Nat} {s : FSpec} {F : List (Nat × FSpec)} (h : Enters P f ∧ ∀ avs ns T sz n g, s avs = some (ns, T, sz, n, g) → (∀ q ∈ ns, q) → SoundFAt P f avs T sz n g) (k : SoundFL P F) : SoundFL P ((f, s) :: F) := by
 intro p hp
 rcases List.mem_cons.1 hp with rfl | hp
 ·exact h
 ·exact k p hp
def SoundDL (P : Program) (D : List (Nat × CSpec)) : Prop := ∀ p ∈ D, Enters P p.1 ∧ ∀ avs t, p.2 avs = some t → SoundDAt P p.1 avs t
theorem SoundDL.nil (P : Program) : SoundDL P [] := fun _ h => by cases h
theorem SoundDL.cons {P : Program} {f : Nat} {s : CSpec} {D : List (Nat × CSpec)} (h : Enters P f ∧ ∀ avs t, s avs = some t → SoundDAt P f avs t) (k : SoundDL P D) : SoundDL P ((f, s) :: D) := by
 intro p hp
 rcases List.mem_cons.1 hp with rfl | hp
 ·exact h
 ·exact k p hp
end Go.Sx
