/- Loops over functions: the caller's side. -/
import Derived.Test.YtchcegfhamngkaaSxU
namespace Go.Sx
open Go Go.RowKit

section
variable {P : Program} {cx : Cx} {w0 : World} {T : Nat → Prop} {e : Env} {s : St} {a : Act} {w : World}

theorem RelE.grow (r : RelE cx w0 T e s a w) {w' : World} (hb : Below w.heap.size w w') : RelE cx w0 T e s a w' := by
  have st : Step e e w w' := ⟨fun b hlt hr => ⟨hr, hb.block b hlt⟩, fun _ h => ⟨h, rfl, rfl⟩, hb.size⟩
  refine ⟨⟨fun b hb' => ⟨(r.env.apart b hb').1, ?_⟩, fun b k hk => ⟨(r.env.owned b k hk).1, ?_⟩⟩, r.below.trans (hb.mono r.hB), r.mem.ext hb st (fun _ _ h => h), r.live, r.foe, r.xt.step st, r.slots.step st⟩
  · have := (r.env.apart b hb').2; have := hb.size; omega
  · have := (r.env.owned b k hk).2; have := hb.size; omega

/-- More blocks that nobody writes. -/
theorem RelE.moreRo (r : RelE cx w0 T e s a w) (ro' : Nat → Prop) (h1 : ∀ b, e.ro b → ro' b) (h2 : ∀ b, ro' b → e.own b = none ∧ b < w.heap.size) (h3 : ∀ b, ro' b → ¬ T b) : RelE cx w0 T { e with ro := ro' } s a w := by
  have st : Step e { e with ro := ro' } w w := ⟨fun b _ hr => ⟨h1 b hr, rfl⟩, fun _ h => ⟨h, rfl, rfl⟩, Nat.le_refl _⟩
  exact ⟨⟨h2, r.env.owned⟩, r.below, r.mem.ext (Below.refl _ _) st (fun _ _ h => h), r.live, fun b hb => ⟨(r.foe b hb).1, fun h => h3 b h hb⟩, r.xt.step st, r.slots.step st⟩

/-- A block that holds no cells, and is not the call's own, is turned. -/
theorem RelE.turn (r : RelE cx w0 T e s a w) {l : Nat} {o o' : Obj} (hl : w.heap[l]? = some o) (ho : o.isCells = false) (ho' : o'.isCells = false) (hown : e.own l = none) (hB : w0.heap.size ≤ l) (hd : ∀ x, o ≠ .deferred x) {K' : Nat → Obj → Prop}
    (hK' : ∀ b q, K' b q → (b ≠ l ∧ cx.K b q) ∨ (b = l ∧ q = o' ∧ e.ro l)) : RelE { cx with K := K' } w0 T e s a (w.putObj l o') := by
  have hlt := (Array.getElem?_eq_some_iff.1 hl).1
  have hsz : (w.putObj l o').heap.size = w.heap.size := World.putObj_size
  have hc := cell_putObj (o' := o') hl ho ho'
  refine ⟨⟨fun b hb => by rw [hsz]; exact r.env.apart b hb, fun b k hk => by rw [hsz]; exact r.env.owned b k hk⟩, ?_, fun p hp => (r.mem p hp).putObj hl ho ho' hown, r.live, r.foe, ⟨⟨fun d hd' => ?_, r.xt.defers.2⟩, fun b q hq => ?_, ⟨r.xt.saved.1, fun i x v hx hv => (r.xt.saved.2 i x v hx hv).sameCells hsz hc⟩, by rw [hsz]; exact r.xt.size⟩, r.slots.sameCells hsz hc⟩
  · exact r.below.trans ((Below.refl w0.heap.size w).grown (grownBy_putObj' w l _) (by have := r.hB; omega) (fun k he => by cases he; exact hB))
  · obtain ⟨D, k1, k2, k3, k4, k5⟩ := r.xt.defers.1 d hd'
    refine ⟨D, k1, k2, by rw [hsz]; exact k3, ?_, k5⟩
    rw [World.putObj_heap_other (fun he => by subst he; rw [hl] at k4; exact hd _ (Option.some.inj k4))]
    exact k4
  · rcases hK' b q hq with ⟨hne, hk⟩ | ⟨rfl, rfl, hro⟩
    · obtain ⟨q1, q2, q3⟩ := r.xt.kept b q hk
      exact ⟨q1, by rw [hsz]; exact q2, (World.putObj_heap_other hne).trans q3⟩
    · exact ⟨hro, by rw [hsz]; exact hlt, World.putObj_heap_same hlt⟩

def setPs : List Nat → List Value → List AV → List AV
  | p :: ps, v :: vs, σ => setPs ps vs (σ.set p (.x v))
  | _, _, σ => σ

theorem setPs_rep : ∀ (ps : List Nat) (vs : List Value) (σ : List AV) (us : List Value), RepL e w σ us → RepL e w (setPs ps vs σ) ((ps.zip vs).foldl (fun t (p : Nat × Value) => t.set p.1 p.2) us)
  | [], _, _, _, h => h
  | _ :: _, [], _, _, h => h
  | p :: ps, v :: vs, _, _, h => setPs_rep ps vs _ _ (h.set (.x v) p)

theorem foldl_setPs : ∀ (l : List (Nat × Value)) (t : Array Value), (l.foldl (fun t (p : Nat × Value) => t.setIfInBounds p.1 p.2) t).toList = l.foldl (fun t (p : Nat × Value) => t.set p.1 p.2) t.toList
  | [], _ => rfl
  | p :: l, t => by simp only [List.foldl_cons]; rw [foldl_setPs l]; simp

/-- The state in which a round begins; the frame waits. -/
def startR (s : St) (ps : List Nat) (vs : List Value) : St := { s with σ := setPs ps vs s.σ, sv := s.σ :: s.sv }
/-- The frame goes on. -/
def popS (s : St) : St := match s.sv with
  | σ :: t => { s with σ := σ, sv := t }
  | [] => s

def roundR (P : Program) (G : List (Nat × Spec)) (X : Ext) (L : List LSpec) (N : List (Pl × Nat × TypeId × Nat)) (ps : List Nat) (vs : List Value) (assign body : Code) (s nxt : St) (out : AEx → Option St) : Tree AEx :=
  (codeX P G X [] assign 0 (startR s ps vs)).bind fun p => match p.1 with
    | .normal => (codeX P G X L body 0 p.2).bind fun q => endR N nxt out (q.1, popS q.2)
    | _ => .fail

def AEx.code : AEx → Code
  | .normal => .skip
  | .exit id => .exit id
  | .ret => .ret
end

/-- The rounds' end, by the tree. -/
theorem roundR_sat {P : Program} {G : List (Nat × Spec)} {X : Ext} {L : List LSpec} {N : List (Pl × Nat × TypeId × Nat)} {ps : List Nat} {vs : List Value} {assign body : Code} {s nxt : St} {out : AEx → Option St} {R : AEx → Prop} (h : (roundR P G X L N ps vs assign body s nxt out).sat R) :
    (codeX P G X [] assign 0 (startR s ps vs)).sat (fun p => p.1 = .normal ∧ (codeX P G X L body 0 p.2).sat (fun q => match q.1 with
      | .normal => R .normal ∧ allP (subP (normL N (popS q.2)) nxt)
      | y => ∃ E, out y = some E ∧ R y ∧ allP (subP (normL N (popS q.2)) E))) := by
  refine Tree.sat_mono ?_ (Tree.sat_bind h)
  rintro ⟨y, s1⟩ h1
  cases y with
  | normal =>
    refine ⟨rfl, Tree.sat_mono ?_ (Tree.sat_bind h1)⟩
    rintro ⟨y, s'⟩ hp
    cases y with
    | normal => exact ⟨(Tree.sat_needT hp).2, (Tree.sat_needT hp).1⟩
    | exit id =>
      dsimp only [endR] at hp ⊢
      split at hp
      · rename_i E hE
        exact ⟨E, hE, (Tree.sat_needT hp).2, (Tree.sat_needT hp).1⟩
      · exact hp.elim
    | ret =>
      dsimp only [endR] at hp ⊢
      split at hp
      · rename_i E hE
        exact ⟨E, hE, (Tree.sat_needT hp).2, (Tree.sat_needT hp).1⟩
      · exact hp.elim
  | exit id => exact h1.elim
  | ret => exact h1.elim

/-- A LOOP OVER A FUNCTION, by its rounds. -/
theorem range_rounds {P : Program} {G : List (Nat × Spec)} {X : Ext} {L : List LSpec} (N : List (Pl × Nat × TypeId × Nat)) (hG : SoundG P G) (hX : ∀ cx, SoundX P X cx) (hmix : P.follows .mixedOrders = true) {f : Operand} {ps : Array Nat} {assign body : Code}
    (hL : ∀ j cj, loopAt body j = some cj → ∀ sp, L[j]? = some sp → LSound P cj sp)
    {V : Type} (inv : V → St) (I : V → Prop) (idx : V → Nat) (out : V → AEx → Option St) {t : CT} {x0 : V} (h0 : I x0) (hi0 : idx x0 = 0)
    (hok : ∀ x, okB (inv x) = true) (hokO : ∀ x y E, out x y = some E → okB E = true) (hgh : ∀ x, (inv x).gh = none) (hghO : ∀ x y E, out x y = some E → E.gh = none)
    {g : FuncId} {caps : List AV} (hfv : rho (inv x0).σ f = .fn (.func g) [] caps) (hcaps : caps.all (idfD 6) = true) {M : Nat} {vals : Nat → List Value} (hseq : SoundSeq P g caps M vals) (hps : ∀ k, (vals k).length = ps.size)
    (round : ∀ (Q : AEx × St → Prop), t.sat Q → ∀ x, I x → (idx x < M → ∃ x', idx x' = idx x + 1 ∧ (roundR P G X L N ps.toList (vals (idx x)) assign body (inv x) (inv x') (out x)).sat (fun y => match y with
      | .normal => I x'
      | y => ∀ E, out x y = some E → Q (y, E))) ∧ (idx x = M → Q (.normal, inv x))) : LSoundN P (.rangeFunc f ps assign body) (normSp N (sumL (inv x0) t)) := by
  intro cx hfun
  refine normSp_soundC (sumL_soundC (hok x0) ?_)
  intro n Q hQ a w r
  obtain ⟨w0, T0, e, hΦ0, r⟩ := r
  rw [hgh] at hΦ0
  refine wpIn_rangeFunc ?_
  intro fn hfn
  obtain ⟨rec, hrec⟩ : ∃ rec : LoopState → Option Code → Loop, rec = fun st pe => { state := st, pending := pe, fn, tmps := a.tmps, params := ps, assign, body, defers := w.heap.size } := ⟨_, rfl⟩
  obtain ⟨W1, hW1⟩ : ∃ W1, (w.alloc (.deferred (some []))).alloc (.loop (rec .ready none)) = W1 := ⟨_, rfl⟩
  have hfe := rho_rep r.slots f
  rw [hfv] at hfe
  obtain ⟨us, lb, hv, ru, rl⟩ := hfe.fn_inv
  cases ru.nil_inv
  have hL1 : W1.heap[w.heap.size + 1]? = some (.loop (rec .ready none)) := by
    rw [← hW1]; have := World.alloc_heap_new (w.alloc (.deferred (some []))) (.loop (rec .ready none)); rwa [World.size_alloc] at this
  have hD1 : W1.heap[w.heap.size]? = some (.deferred (some [])) := by
    rw [← hW1]; exact (Below.heap_alloc _ _ _ (by simp)).trans (World.alloc_heap_new w _)
  have hS1 : W1.heap.size = w.heap.size + 2 := by rw [← hW1]; simp
  have hb1 : Below w.heap.size w W1 := by
    rw [← hW1]; exact ((Below.refl _ w).alloc (Nat.le_refl _) _).alloc (by simp) _
  have hw0 := r.hB
  -- the frame that waits
  obtain ⟨a', ha'⟩ : ∃ a' : Act, a' = { tmps := a.tmps, defers := { target := .collected w.heap.size, args := #[] } :: a.defers } := ⟨_, rfl⟩
  -- what is so between two calls of yield
  let own' : Env → Nat → Prop := fun e b => (∃ id, e.own b = some id) ∨ b = w.heap.size + 1
  let Φi : Option Nat → (Nat → Prop) → World → Prop := fun k T W => match k with
    | some k => ∃ x e, I x ∧ idx x = k ∧ T = own' e ∧ RelE cx w0 T0 e (inv x) a' W ∧ e.own (w.heap.size + 1) = none ∧ W.heap[w.heap.size + 1]? = some (.loop (rec .ready none))
    | none => ∃ y E e, y ≠ AEx.normal ∧ Q (y, E) ∧ E.gh = none ∧ T = own' e ∧ RelE cx w0 T0 e E a' W ∧ e.own (w.heap.size + 1) = none ∧ W.heap[w.heap.size + 1]? = some (.loop (rec .done (some y.code)))
  have hst : ∀ g T w w', Φi g T w → Below w.heap.size w w' → Φi g T w' := by
    intro k T w1 w2 h hb
    cases k with
    | some k =>
      obtain ⟨x, e, h1, h2, h3, h4, h5, h6⟩ := h
      exact ⟨x, e, h1, h2, h3, h4.grow hb, h5, (hb.block _ (Array.getElem?_eq_some_iff.1 h6).1).trans h6⟩
    | none =>
      obtain ⟨y, E, e, h1, h2, h2', h3, h4, h5, h6⟩ := h
      exact ⟨y, E, e, h1, h2, h2', h3, h4.grow hb, h5, (hb.block _ (Array.getElem?_eq_some_iff.1 h6).1).trans h6⟩
  -- the start
  have r1 := r.grow hb1
  have hns : ∀ d ∈ a.defers, d ≠ { target := .collected w.heap.size, args := #[] } := by
    intro d hd he
    obtain ⟨D, k1, k2, k3, k4, k5⟩ := r.xt.defers.1 d hd
    rw [k1] at he
    simp only [Deferred.mk.injEq, Target.collected.injEq, and_true] at he
    omega
  let e1 : Env := { e with ro := fun b => e.ro b ∨ b = w.heap.size }
  have r2 : RelE cx w0 T0 e1 (inv x0) a W1 := by
    refine r1.moreRo _ (fun b h => .inl h) ?_ ?_
    · rintro b (h | rfl)
      · exact r1.env.apart b h
      · refine ⟨?_, by omega⟩
        cases ho : e.own w.heap.size with
        | none => rfl
        | some k => have := (r.env.owned _ k ho).2; omega
    · rintro b (h | rfl) hT
      · exact (r.foe b hT).2 h
      · have := (r.foe _ hT).1; omega
  have r3 : RelE cx w0 T0 e1 (inv x0) a' W1 := by
    rw [ha']
    refine ⟨r2.env, r2.below, r2.mem, r2.live, r2.foe, ⟨⟨fun d hd => ?_, List.nodup_cons.2 ⟨fun h => hns _ h rfl, r2.xt.defers.2⟩⟩, r2.xt.kept, r2.xt.saved, r2.xt.size⟩, r2.slots⟩
    rcases List.mem_cons.1 hd with rfl | hd
    · exact ⟨w.heap.size, rfl, .inr rfl, by omega, hD1, hfun _ _ _ _ hΦ0 hw0⟩
    · exact r2.xt.defers.1 d hd
  have hownl : e.own (w.heap.size + 1) = none := by
    cases ho : e.own (w.heap.size + 1) with
    | none => rfl
    | some k => have := (r.env.owned _ k ho).2; omega
  refine ⟨w.heap.size + 1, [{ target := .collected w.heap.size, args := #[] }], W1, { target := .fn (.func g) lb.toArray, args := #[.func (.yield (w.heap.size + 1)) #[] #[]] }, W1, g,
    #[.func (.yield (w.heap.size + 1)) #[] #[]] ++ lb.toArray, W1, ?_, ?_, (fun _ _ => trivial), ?_, (fun h => by cases h), ?_⟩
  · rw [← hW1, hrec]; exact run_enterLoop_outer _ _ _ _ _
  · simp only [resolve, hv]
    simp [go_sem]
  · simp only [invoke]
    exact run_callFunc hseq.1 _ W1
  have hargs : #[.func (.yield (w.heap.size + 1)) #[] #[]] ++ lb.toArray = (Value.func (.yield (w.heap.size + 1)) #[] #[] :: lb).toArray := Array.ext' (by simp)
  rw [hargs]
  have hcidf : ∀ x ∈ caps, Idf x := by
    intro x hx
    obtain ⟨i, hi⟩ := List.mem_iff_getElem?.1 hx
    obtain ⟨v, _, rv⟩ := rl.get hi
    exact idfD_idf 6 x v rv (List.all_eq_true.1 hcaps x hx)
  have stw : Step e e1 w W1 := ⟨fun b hlt hr => ⟨.inl hr, hb1.block b hlt⟩, fun _ h => ⟨h, rfl, rfl⟩, hb1.size⟩
  have hcall := hseq.2 e1 lb W1 (w.heap.size + 1) Φi (own' e1) ?_ ?_ hcidf (rl.step stw) hst ?_ ⟨x0, e1, h0, hi0, rfl, r3, hownl, hL1⟩
  · refine callsIn_fr (hcall.mono ?_)
    have hw4 : ∀ {W : World} {s : St} {e : Env} {o : Loop} {o' : Loop}, RelE cx w0 T0 e s a' W → e.own (w.heap.size + 1) = none → W.heap[w.heap.size + 1]? = some (.loop o) → s.gh = none → Rel cx s a' (W.putObj (w.heap.size + 1) (.loop o')) := by
      intro W s e o o' hr ho hl hg
      have hne : ∀ b q, cx.K b q → b ≠ w.heap.size + 1 := by
        rintro b q hk rfl
        have h1 := r.xt.kept _ q hk
        omega
      have := hr.turn (K' := cx.K) hl rfl (o' := .loop o') rfl ho (by omega) (fun x h => by cases h) (fun b q hk => .inl ⟨hne b q hk, hk⟩)
      exact ⟨w0, T0, e, by rw [hg]; exact hΦ0, this⟩
    rintro en W ⟨⟨v, rfl⟩, h⟩
    rcases h with ⟨T', x, e', q1, q2, q3, q4, q5, q6⟩ | ⟨T', y, E, e', q1, q2, q2', q3, q4, q5, q6⟩
    · refine ⟨none, _, by have := run_endLoop (P := P) q6 (by rw [hrec]; simp); rw [hrec] at this; exact this, ?_⟩
      have := hw4 (o' := { rec .ready none with state := .exhausted }) q4 q5 q6 (hgh x)
      rw [ha', hrec] at this
      exact ⟨.normal, inv x, rfl, (round Q hQ x q1).2 q2, this⟩
    · have hend : (Instr.endLoop (w.heap.size + 1)).run P W = .ok (some y.code) (W.putObj (w.heap.size + 1) (.loop { rec .done (some y.code) with state := .exhausted })) := by
        have := run_endLoop (P := P) q6 (by rw [hrec]; simp)
        rw [hrec] at this ⊢
        exact this
      refine ⟨some y.code, _, hend, ?_⟩
      have := hw4 (o' := { rec .done (some y.code) with state := .exhausted }) q4 q5 q6 q2'
      rw [ha'] at this
      cases y with
      | normal => exact (q1 rfl).elim
      | exit id => exact wpIn_exit ⟨.exit id, E, rfl, q2, this⟩
      | ret => exact wpIn_ret ⟨.ret, E, rfl, q2, this⟩
  · rintro b (h | rfl)
    · refine ⟨by have := (r.env.apart b h).2; omega, ?_⟩
      rintro (⟨id, h2⟩ | rfl)
      · have h2' : e.own b = some id := h2
        rw [(r.env.apart b h).1] at h2'; cases h2'
      · have := (r.env.apart _ h).2; omega
    · refine ⟨by omega, ?_⟩
      rintro (⟨id, h2⟩ | h2)
      · have := (r.env.owned _ id h2).2; omega
      · omega
  · rintro b (⟨id, h⟩ | rfl)
    · have := (r.env.owned b id h).2; omega
    · omega
  · -- a round
    rintro k T W m ⟨x, ek, hIx, rfl, rfl, rk, hkl, hkr⟩ hkM
    obtain ⟨x', hx', hround⟩ := (round Q hQ x hIx).1 hkM
    have hWl := (Array.getElem?_eq_some_iff.1 hkr).1
    have hy := run_yield (P := P) (args := (vals (idx x)).toArray) hkr (by rw [hrec]; simp [hps])
    rw [hrec] at hy
    refine ⟨fn, _, assign, body, hy, roundIn_of_wpIn hfn ?_⟩
    clear hy
    -- the blocks that stay
    let nown : Nat → Prop := fun b => w0.heap.size ≤ b ∧ b < W.heap.size ∧ ek.own b = none
    let K0 : Nat → Obj → Prop := fun b o => (cx.K b o ∨ (nown b ∧ W.heap[b]? = some o) ∨ (∃ d ∈ a'.defers, d = { target := .collected b, args := #[] } ∧ o = .deferred (some []))) ∧ b ≠ w.heap.size + 1
    let cxk : (Nat → Obj → Prop) → Cx := fun K => { M := fun _ => False, Φ := fun g T w => g = none ∧ w = w0 ∧ T = T0, K := K, saved := a.tmps.toList :: cx.saved, sz := W.heap.size }
    let e2 : Env := { ek with ro := fun b => ek.ro b ∨ nown b }
    have rk2 : RelE cx w0 T0 e2 (inv x) a' W := by
      refine rk.moreRo _ (fun b h => .inl h) ?_ ?_
      · rintro b (h | ⟨h1, h2, h3⟩)
        · exact rk.env.apart b h
        · exact ⟨h3, h2⟩
      · rintro b (h | ⟨h1, h2, h3⟩) hT
        · exact (rk.foe b hT).2 h
        · have := (rk.foe b hT).1; omega
    have hKok : ∀ b o, K0 b o → e2.ro b ∧ b < W.heap.size ∧ W.heap[b]? = some o := by
      rintro b o ⟨h | ⟨h1, h2⟩ | ⟨d, hd, h1, rfl⟩, _⟩
      · exact rk2.xt.kept b o h
      · exact ⟨.inr h1, h1.2.1, h2⟩
      · obtain ⟨D, k1, k2, k3, k4, k5⟩ := rk2.xt.defers.1 d hd
        rw [h1] at k1
        simp only [Deferred.mk.injEq, Target.collected.injEq, and_true] at k1
        subst k1
        exact ⟨k2, k3, k4⟩
    have hlro : e2.ro (w.heap.size + 1) := .inr ⟨by omega, hWl, hkl⟩
    have rs : Rel (cxk (fun b o => K0 b o ∨ (b = w.heap.size + 1 ∧ o = .loop (rec .ready none)))) (startR (inv x) ps.toList (vals (idx x))) { tmps := (ps.zip (vals (idx x)).toArray).foldl (fun t (p, v) => t.setIfInBounds p v) a.tmps, defers := [] } W := by
      refine ⟨w0, T0, e2, ⟨hgh x, rfl, rfl⟩, rk2.env, rk2.below, rk2.mem, rk2.live, rk2.foe, ⟨⟨(fun d hd => by cases hd), List.nodup_nil⟩, ?_, RepLL.cons (by rw [ha'] at rk2; exact rk2.slots) rk2.xt.saved, Nat.le_refl _⟩, ?_⟩
      · rintro b o (h | ⟨rfl, rfl⟩)
        · exact hKok b o h
        · exact ⟨hlro, hWl, hkr⟩
      · have h1 := setPs_rep (e := e2) (w := W) ps.toList (vals (idx x)) (inv x).σ a.tmps.toList (by rw [ha'] at rk2; exact rk2.slots)
        have h2 : ((ps.zip (vals (idx x)).toArray).foldl (fun t (p, v) => t.setIfInBounds p v) a.tmps).toList = (ps.toList.zip (vals (idx x))).foldl (fun t (p : Nat × Value) => t.set p.1 p.2) a.tmps.toList := by
          rw [← foldl_setPs, ← Array.foldl_toList]
          simp
        rw [h2]
        exact h1
    have hsat := roundR_sat hround
    refine wpIn_mono (codeX_sound hG (hX _) hmix (ro := some (w.heap.size + 1)) assign 0 _ _ _ W noLoopsS hsat rs) ?_
    rintro ex a1 W1' ⟨y1, s1, rfl, ⟨hy1, hbody⟩, w0', T', ea, ⟨hg1, rfl, rfl⟩, ra⟩
    cases hy1
    obtain ⟨hlr, hll, hlh⟩ := ra.xt.kept (w.heap.size + 1) (.loop (rec .ready none)) (.inr ⟨rfl, rfl⟩)
    refine ⟨_, run_beginRound hlh (by rw [hrec]), ?_⟩
    have rb := ra.turn (K' := fun b o => K0 b o ∨ (b = w.heap.size + 1 ∧ o = .loop { rec .ready none with state := .busy })) hlh rfl (o' := .loop { rec .ready none with state := .busy }) rfl (ra.env.apart _ hlr).1 (by omega) (fun x h => by cases h) (by
      rintro b q (h | ⟨rfl, rfl⟩)
      · exact .inl ⟨h.2, .inl h⟩
      · exact .inr ⟨rfl, rfl, hlr⟩)
    refine wpIn_mono (codeX_sound hG (hX _) hmix (ro := some (w.heap.size + 1)) (cx := cxk (fun b o => K0 b o ∨ (b = w.heap.size + 1 ∧ o = .loop { rec .ready none with state := .busy }))) body 0 s1 _ a1 _ (fun j cj hj sp hsp => hL j cj hj sp (by simpa using hsp) _ _) hbody ⟨w0', T', ea, ⟨hg1, rfl, rfl⟩, rb⟩) ?_
    rintro ex a3 W3 ⟨y, s3, rfl, hq, w0'', T'', eb, ⟨hg3, hw0e, hT0e⟩, rc⟩
    subst hw0e hT0e
    obtain ⟨hlr3, hll3, hlh3⟩ := rc.xt.kept (w.heap.size + 1) _ (.inr ⟨rfl, rfl⟩)
    -- back to the frame that waits
    have back : ∀ (jump : Option Code) (E : St), allP (subP (normL N (popS s3)) E) → okB E = true →
        (Instr.endRound (w.heap.size + 1) jump).run P W3 = .ok (.bool jump.isNone) (W3.putObj (w.heap.size + 1) (.loop (rec (if jump.isNone then .ready else .done) jump))) ∧
        ∃ ec, RelE cx w0'' T'' ec E a' (W3.putObj (w.heap.size + 1) (.loop (rec (if jump.isNone then .ready else .done) jump))) ∧ ec.own (w.heap.size + 1) = none ∧
          (W3.putObj (w.heap.size + 1) (.loop (rec (if jump.isNone then .ready else .done) jump))).heap[w.heap.size + 1]? = some (.loop (rec (if jump.isNone then .ready else .done) jump)) ∧
          W.heap.size ≤ (W3.putObj (w.heap.size + 1) (.loop (rec (if jump.isNone then .ready else .done) jump))).heap.size ∧
          (∀ b, b < W.heap.size → ¬ own' ek b → (W3.putObj (w.heap.size + 1) (.loop (rec (if jump.isNone then .ready else .done) jump))).heap[b]? = W.heap[b]?) ∧
          ∀ b, own' ec b → b < (W3.putObj (w.heap.size + 1) (.loop (rec (if jump.isNone then .ready else .done) jump))).heap.size ∧ (own' ek b ∨ W.heap.size ≤ b) := by
      intro jump E hsub hokE
      have hrun := run_endRound (P := P) jump hlh3
      refine ⟨by rw [hrec] at hrun ⊢; exact hrun, ?_⟩
      obtain ⟨W4, hW4⟩ : ∃ W4, W4 = W3.putObj (w.heap.size + 1) (.loop (rec (if jump.isNone then .ready else .done) jump)) := ⟨_, rfl⟩
      rw [← hW4]
      have rd := rc.turn (K' := K0) hlh3 rfl (o' := .loop (rec (if jump.isNone then .ready else .done) jump)) rfl (rc.env.apart _ hlr3).1 (by omega) (fun x h => by cases h) (fun b q h => .inl ⟨h.2, .inl h⟩)
      rw [← hW4] at rd
      have hl4 : W4.heap[w.heap.size + 1]? = some (.loop (rec (if jump.isNone then .ready else .done) jump)) := by rw [hW4]; exact World.putObj_heap_same hll3
      have hsz4 : W.heap.size ≤ W4.heap.size := rd.xt.size
      -- the frame's own state, in a run that is pinned
      let cxp : Cx := { M := fun D => cx.M D, Φ := fun g T w => g = none ∧ w = w0'' ∧ T = T'', K := fun b o => K0 b o ∨ (b = w.heap.size + 1 ∧ o = .loop (rec (if jump.isNone then .ready else .done) jump)), saved := cx.saved, sz := cx.sz }
      have hpop : Rel cxp (popS s3) a' W4 := by
        obtain ⟨σ0, l', hsv, hs1, hs2⟩ := rd.xt.saved.cons_inv
        refine ⟨w0'', T'', eb, ?_, rd.env, rd.below, ?_, ?_, rd.foe, ⟨⟨fun d hd => ?_, ?_⟩, ?_, ?_, Nat.le_trans rk.xt.size hsz4⟩, ?_⟩
        · exact ⟨by unfold popS; rw [hsv]; exact hg3, rfl, rfl⟩
        · unfold popS; rw [hsv]; exact rd.mem
        · unfold popS; rw [hsv]; exact rd.live
        · obtain ⟨D, k1, k2, k3, k4, k5⟩ := rk.xt.defers.1 d hd
          have hDl : D ≠ w.heap.size + 1 := by
            rintro rfl
            rw [hkr] at k4; cases k4
          obtain ⟨q1, q2, q3⟩ := rd.xt.kept D (.deferred (some [])) ⟨.inr (.inr ⟨d, hd, k1, rfl⟩), hDl⟩
          exact ⟨D, k1, q1, q2, q3, k5⟩
        · exact rk.xt.defers.2
        · rintro b o (h | ⟨rfl, rfl⟩)
          · exact rd.xt.kept b o h
          · exact ⟨hlr3, (Array.getElem?_eq_some_iff.1 hl4).1, hl4⟩
        · unfold popS; rw [hsv]; exact hs2
        · unfold popS; rw [hsv]; rw [ha']; exact hs1
      obtain ⟨w0p, Tp, ec, ⟨_, rfl, rfl⟩, re⟩ := sub_rel (allP_mem hsub) hokE (normL_rel (l := N) hpop)
      have hlec := re.xt.kept _ _ (Or.inr ⟨rfl, rfl⟩)
      refine ⟨ec, ⟨re.env, re.below, re.mem, re.live, re.foe, ⟨re.xt.defers, fun b o h => ?_, re.xt.saved, re.xt.size⟩, re.slots⟩, (re.env.apart _ hlec.1).1, hl4, hsz4, ?_, ?_⟩
      · refine re.xt.kept b o (.inl ⟨.inl h, ?_⟩)
        rintro rfl
        have h1 := r.xt.kept _ o h
        omega
      · intro b hb hno
        rcases Nat.lt_or_ge b w0p.heap.size with h1 | h1
        · rw [re.below.block b h1, rk.below.block b h1]
        · have hbn : ek.own b = none := by
            cases ho : ek.own b with
            | none => rfl
            | some id => exact (hno (.inl ⟨id, ho⟩)).elim
          have hbl : b ≠ w.heap.size + 1 := fun h => hno (.inr h)
          have hlt : b < W.heap.size := hb
          obtain ⟨_, _, q3⟩ := re.xt.kept b W.heap[b] (.inl ⟨.inr (.inl ⟨⟨h1, hlt, hbn⟩, by simp [hlt]⟩), hbl⟩)
          rw [q3]; simp [hlt]
      · rintro b (⟨id, h⟩ | rfl)
        · obtain ⟨q1, q2⟩ := re.env.owned b id h
          refine ⟨q2, ?_⟩
          rcases Nat.lt_or_ge b W.heap.size with h1 | h1
          · refine .inl ?_
            cases ho : ek.own b with
            | some id' => exact .inl ⟨id', ho⟩
            | none =>
              rcases Classical.em (b = w.heap.size + 1) with h2 | h2
              · exact .inr h2
              · exfalso
                obtain ⟨q3, _, _⟩ := re.xt.kept b W.heap[b] (.inl ⟨.inr (.inl ⟨⟨q1, h1, ho⟩, by simp [h1]⟩), h2⟩)
                rw [(re.env.apart b q3).1] at h; cases h
          · exact .inr h1
        · exact ⟨(Array.getElem?_eq_some_iff.1 hl4).1, .inl (.inr rfl)⟩
    cases y with
    | normal =>
      obtain ⟨hI', hsub⟩ := hq
      obtain ⟨hrun, ec, q1, q2, q3, q4, q5, q6⟩ := back none (inv x') hsub (hok x')
      exact ⟨_, _, hrun, q4, q5, own' ec, q6, .inl ⟨rfl, x', ec, hI', hx', rfl, q1, q2, q3⟩⟩
    | exit id =>
      obtain ⟨E, hE, hQE, hsub⟩ := hq
      obtain ⟨hrun, ec, q1, q2, q3, q4, q5, q6⟩ := back (some (.exit id)) E hsub (hokO x _ E hE)
      exact ⟨_, _, hrun, q4, q5, own' ec, q6, .inr ⟨rfl, .exit id, E, ec, (fun h => by cases h), hQE E hE, hghO x _ E hE, rfl, q1, q2, q3⟩⟩
    | ret =>
      obtain ⟨E, hE, hQE, hsub⟩ := hq
      obtain ⟨hrun, ec, q1, q2, q3, q4, q5, q6⟩ := back (some .ret) E hsub (hokO x _ E hE)
      exact ⟨_, _, hrun, q4, q5, own' ec, q6, .inr ⟨rfl, .ret, E, ec, (fun h => by cases h), hQE E hE, hghO x _ E hE, rfl, q1, q2, q3⟩⟩

/-- Contracts whose results may share memory with the arguments; a list of them. -/
def SoundR (P : Program) (f : FuncId) (s : Spec) : Prop := Enters P f ∧ ∀ avs ns res, s avs = some (ns, res) → (∀ p ∈ ns, p) → SoundAtR P f avs res
def SoundRL (P : Program) (R : List (Nat × Spec)) : Prop := ∀ p ∈ R, SoundR P p.1 p.2
def SoundHL (P : Program) (H : List (Nat × HSpec)) : Prop := ∀ p ∈ H, SoundHSpec P p.1 p.2
theorem SoundRL.nil (P : Program) : SoundRL P [] := fun _ h => by cases h
theorem SoundRL.cons {P : Program} {f : Nat} {s : Spec} {R : List (Nat × Spec)} (h : SoundR P f s) (k : SoundRL P R) : SoundRL P ((f, s) :: R) := by
  intro p hp
  rcases List.mem_cons.1 hp with rfl | hp
  · exact h
  · exact k p hp
theorem SoundHL.nil (P : Program) : SoundHL P [] := fun _ h => by cases h
theorem SoundHL.cons {P : Program} {f : Nat} {s : HSpec} {R : List (Nat × HSpec)} (h : SoundHSpec P f s) (k : SoundHL P R) : SoundHL P ((f, s) :: R) := by
  intro p hp
  rcases List.mem_cons.1 hp with rfl | hp
  · exact h
  · exact k p hp
theorem SoundX.of {P : Program} {R : List (Nat × Spec)} {H : List (Nat × HSpec)} (hR : SoundRL P R) (hH : SoundHL P H) (cx : Cx) : SoundX P { R := R, H := H } cx := ⟨(fun _ _ _ h => by cases h), hR, hH⟩
end Go.Sx
