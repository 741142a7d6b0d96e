/- Results that share memory with the arguments; iterators; loops over functions. -/
import Derived.Test.YtchcegfhamngkaaSxT
namespace Go.Sx
open Go Go.RowKit

section
variable {P : Program}

/-- What a function hands back, its own memory seen as memory that nobody writes. -/
def finR (P : Program) (rs : List ResultVar) (t : CT) : Tree AV := t.bind fun p => match p.1 with
  | .exit _ => .fail
  | _ => match resA P p.2 rs with
    | some r => .leaf (viewA p.2.m 40 r)
    | none => .fail

mutual
/-- That a value says no more than another one. -/
def repP : AV → AV → Prop
  | .x u, b => match b with
    | .top => True
    | .x v => valEq u v
    | .lst _ n _ => isNil u ∧ n = 0
    | b => AV.x u = b
  | .lit c, b => match b with
    | .top => True
    | .x (.bool d) => c = d
    | b => AV.lit c = b
  | .lst sz n f, b => match b with
    | .top => True
    | .lst sz' n' f' => sz = sz' ∧ n = n' ∧ ∀ i, i < n' → f i = f' i
    | b => AV.lst sz n f = b
  | .agg l, b => match b with
    | .top => True
    | .agg l' => repPL l l'
    | b => AV.agg l = b
  | .tup l, b => match b with
    | .top => True
    | .tup l' => repPL l l'
    | b => AV.tup l = b
  | a, b => match b with
    | .top => True
    | b => a = b
def repPL : List AV → List AV → Prop
  | [], l' => match l' with
    | [] => True
    | _ :: _ => False
  | r :: l, l' => match l' with
    | a :: l' => repP r a ∧ repPL l l'
    | [] => False
end

mutual
theorem repP_rep {e : Env} {w : World} : ∀ {a b : AV} {v : Value}, repP a b → Rep e w a v → Rep e w b v
  | .x u, b, v, h, r => by
    unfold repP at h
    split at h
    · exact .top v
    · rw [valEq_eq h] at r; exact r
    · obtain ⟨h1, rfl⟩ := h
      cases r.x_inv
      rw [isNil_eq h1]
      exact .lstNil _ _
    · rw [← h]; exact r
  | .lit c, b, v, h, r => by
    unfold repP at h
    split at h
    · exact .top v
    · subst h; cases r.lit_inv; exact .x _
    · rw [← h]; exact r
  | .lst sz n f, b, v, h, r => by
    unfold repP at h
    split at h
    · exact .top v
    · obtain ⟨rfl, rfl, h3⟩ := h
      exact Same.rep (.lst _ _ _ _ h3) r
    · rw [← h]; exact r
  | .agg l, b, v, h, r => by
    unfold repP at h
    split at h
    · exact .top v
    · obtain ⟨vs, rfl, hr⟩ := r.agg_inv
      exact Rep.aggL (repPL_rep h hr)
    · rw [← h]; exact r
  | .tup l, b, v, h, r => by
    unfold repP at h
    split at h
    · exact .top v
    · obtain ⟨vs, rfl, hr⟩ := r.tup_inv
      exact Rep.tupL (repPL_rep h hr)
    · rw [← h]; exact r
  | .top, b, v, h, r => by
    unfold repP at h
    split at h
    · exact .top v
    · rw [← h]; exact r
  | .fn _ _ _, b, v, h, r => by
    unfold repP at h
    split at h
    · exact .top v
    · rw [← h]; exact r
  | .ptr _ _, b, v, h, r => by
    unfold repP at h
    split at h
    · exact .top v
    · rw [← h]; exact r
  | .row _, b, v, h, r => by
    unfold repP at h
    split at h
    · exact .top v
    · rw [← h]; exact r
  | .elt _ _ _ _, b, v, h, r => by
    unfold repP at h
    split at h
    · exact .top v
    · rw [← h]; exact r
  | .ro _, b, v, h, r => by
    unfold repP at h
    split at h
    · exact .top v
    · rw [← h]; exact r
  | .mp _, b, v, h, r => by
    unfold repP at h
    split at h
    · exact .top v
    · rw [← h]; exact r
theorem repPL_rep {e : Env} {w : World} : ∀ {l l' : List AV} {vs : List Value}, repPL l l' → RepL e w l vs → RepL e w l' vs
  | [], [], _, _, r => r
  | [], _ :: _, _, h, _ => by simp [repPL] at h
  | a :: l, [], _, h, _ => by simp [repPL] at h
  | a :: l, b :: l', vs, h, r => by
    unfold repPL at h
    obtain ⟨v, vs', rfl, hv, hvs⟩ := r.cons_inv
    exact RepL.cons (repP_rep h.1 hv) (repPL_rep h.2 hvs)
end

def EndR (P : Program) (fn : Func) (res : AV) (p : AEx × St) : Prop := (match p.1 with | .exit _ => False | _ => True) ∧ ∃ r, resA P p.2 fn.results.toList = some r ∧ repP (viewA p.2.m 40 r) res

theorem endR_fin {fn : Func} {res : AV} {t : CT} (h : (finR P fn.results.toList t).sat (fun r => repP r res)) : t.sat (EndR P fn res) := by
  refine Tree.sat_mono ?_ (Tree.sat_bind h)
  rintro ⟨x, s⟩ hs
  cases x with
  | exit i => exact hs.elim
  | normal =>
    simp only at hs
    split at hs
    · rename_i r hr; exact ⟨trivial, r, hr, hs⟩
    · exact hs.elim
  | ret =>
    simp only at hs
    split at hs
    · rename_i r hr; exact ⟨trivial, r, hr, hs⟩
    · exact hs.elim

/-- A FUNCTION whose result may share memory with its arguments. -/
theorem soundAtR_fin {G : List (Nat × Spec)} {X : Ext} {L : List LSpec} {f : FuncId} {fn : Func} {c : Code} {avs : List AV} {res : AV} {t : Tree AV} (hG : SoundG P G) (hX : ∀ cx, SoundX P X cx) (hmix : P.follows .mixedOrders = true) (hf : P.funcs[f]? = some fn) (hb : fn.body = some c)
    (hL : ∀ j cj, loopAt c j = some cj → ∀ sp, L[j]? = some sp → LSoundN P cj sp) (ht : finR P fn.results.toList (codeX P G X L c 0 (startS fn avs)) = t) (h : t.sat (fun r => repP r res)) : SoundAtR P f avs res := by
  subst ht
  intro e w args hro hidf hr
  refine calls_ofG hG hmix hf hb (cx := cxOf w (fun b => b < w.heap.size ∧ ¬ e.ro b)) (gh := none) (T := fun b => b < w.heap.size ∧ ¬ e.ro b) (e := e) (hX _) (fun _ _ h => h) rfl rfl (by rintro g T w0 D ⟨rfl, _⟩ h; exact h) ⟨rfl, rfl⟩ (fun b h => h) hro hidf hr (fun j cj hj sp hsp => hL j cj hj sp hsp _ (cxOf_fun _ _)) (endR_fin h) ?_ ?_
  · rintro x s w0 T' e' tmps w' ⟨hx, r, hres, hfit⟩ ⟨rfl, rfl⟩ q1 q2 q3 q5 q4
    obtain ⟨u, hu, hrep⟩ := resA_soundM (P := P) q3 q4 hres
    refine ⟨u, hu, u, rfl, q2, ?_⟩
    refine repP_rep hfit (Rep.idf (e := e'.view) ?_ (viewA_rep q1 q3 40 r u hrep) (viewA_idf q3 40 r u hrep))
    rintro b (hb | ⟨k, hb⟩)
    · rcases Nat.lt_or_ge b w0.heap.size with h1 | h1
      · refine .inl ?_
        rcases Classical.em (e.ro b) with h2 | h2
        · exact h2
        · exact (q5 b ⟨h1, h2⟩ hb).elim
      · exact .inr ⟨h1, (q1.apart b hb).2⟩
    · exact .inr ⟨(q1.owned b k hb).1, (q1.owned b k hb).2⟩
  · rintro x s ⟨hx, _⟩ i rfl
    exact hx

/-- AN ITERATOR's contract: it calls yield with so many values, one behind the other, until yield says no. -/
def SoundSeq (P : Program) (g : FuncId) (caps : List AV) (N : Nat) (vals : Nat → List Value) : Prop :=
  Enters P g ∧ ∀ (e : Env) (lb : List Value) (w : World) (l : Nat) (Φ : Option Nat → (Nat → Prop) → World → Prop) (T : Nat → Prop),
    (∀ b, e.ro b → b < w.heap.size ∧ ¬ T b) → (∀ b, T b → b < w.heap.size) → (∀ a ∈ caps, Idf a) → RepL e w caps lb →
    (∀ g T w w', Φ g T w → Below w.heap.size w w' → Φ g T w') →
    (∀ k T w n, Φ (some k) T w → k < N → YieldAt (fr none) n P l (vals k).toArray w fun en w' => w.heap.size ≤ w'.heap.size ∧ (∀ b, b < w.heap.size → ¬ T b → w'.heap[b]? = w.heap[b]?) ∧
      ∃ T', (∀ b, T' b → b < w'.heap.size ∧ (T b ∨ w.heap.size ≤ b)) ∧ ((en = .returned (.bool true) ∧ Φ (some (k + 1)) T' w') ∨ (en = .returned (.bool false) ∧ Φ none T' w'))) →
    Φ (some 0) T w →
    Calls P g (.func (.yield l) #[] #[] :: lb).toArray w fun en w' => (∃ v, en = .returned v) ∧ ((∃ T', Φ (some N) T' w') ∨ (∃ T', Φ none T' w'))

/-- How an iterator ends: it has called yield N times, or yield has said no. -/
def finQ (N : Nat) (t : CT) : Tree Unit := t.bind fun p => match p.1 with
  | .exit _ => .fail
  | _ => match p.2.gh with
    | none => .leaf ()
    | some k => .need [k = N] (.leaf ())

theorem finQ_sat {N : Nat} {t : CT} (h : (finQ N t).sat (fun _ => True)) : t.sat (fun p => (∀ i, p.1 ≠ .exit i) ∧ (p.2.gh = none ∨ p.2.gh = some N)) := by
  refine Tree.sat_mono ?_ (Tree.sat_bind h)
  rintro ⟨x, s⟩ hs
  have key : (match s.gh with | none => (.leaf () : Tree Unit) | some k => .need [k = N] (.leaf ())).sat (fun _ => True) → s.gh = none ∨ s.gh = some N := by
    cases hg : s.gh with
    | none => exact fun _ => .inl rfl
    | some k =>
      intro h
      have : k = N := h.1
      exact .inr (by rw [this])
  cases x with
  | exit i => exact hs.elim
  | normal => exact ⟨fun i h => (by cases h), key hs⟩
  | ret => exact ⟨fun i h => (by cases h), key hs⟩

/-- The iterator's run. -/
def cxY (w : World) (Φ : Option Nat → (Nat → Prop) → World → Prop) : Cx := { M := fun _ => False, Φ := fun g T w' => w.heap.size ≤ w'.heap.size ∧ Φ g T w', K := fun _ _ => False, saved := [] }

/-- AN ITERATOR: its contract, from the tree of its ways. The summaries of its loops are good wherever yield is. -/
theorem soundSeq_fin {G : List (Nat × Spec)} {L : Nat → List LSpec} {g : FuncId} {fn : Func} {c : Code} {caps : List AV} {N : Nat} {vals : Nat → List Value} {t : Nat → Tree Unit} (hG : SoundG P G) (hmix : P.follows .mixedOrders = true) (hent : Enters P g) (hf : P.funcs[g]? = some fn) (hb : fn.body = some c) (hrs : fn.results = #[])
    (hL : ∀ l cx, SoundX P { Y := some (l, N, vals) } cx → ∀ j cj, loopAt c j = some cj → ∀ sp, (L l)[j]? = some sp → LSoundC P none cx cj sp)
    (ht : ∀ l, finQ N (codeX P G { Y := some (l, N, vals) } (L l) c 0 { startS fn (.fn (.yield l) [] [] :: caps) with gh := some 0 }) = t l) (h : ∀ l, (t l).sat (fun _ => True)) : SoundSeq P g caps N vals := by
  refine ⟨hent, ?_⟩
  intro e lb w l Φ T hro hT hidf hr hst hy h0
  have hX : SoundX P { Y := some (l, N, vals) } (cxY w Φ) := by
    refine ⟨?_, (fun _ h => by cases h), (fun _ h => by cases h)⟩
    intro l' N' vals' hY
    cases hY
    refine ⟨fun k T w1 w2 h hb => ⟨Nat.le_trans h.1 hb.size, hst _ T w1 w2 h.2 hb⟩, fun k T w1 n h hk => ?_⟩
    obtain ⟨fn, tmps, assign, body, h1, h2⟩ := hy k T w1 n h.2 hk
    refine ⟨fn, tmps, assign, body, h1, h2.mono ?_⟩
    rintro en w2 ⟨q1, q2, T', q3, q4⟩
    refine ⟨q1, q2, T', q3, q4.imp (fun q => ⟨q.1, ?_, q.2⟩) (fun q => ⟨q.1, ?_, q.2⟩)⟩
    · exact Nat.le_trans h.1 q1
    · exact Nat.le_trans h.1 q1
  have hs := h l
  rw [← ht l] at hs
  refine calls_ofG hG hmix hf hb (cx := cxY w Φ) (gh := some 0) (T := T) (e := e) (avs := .fn (.yield l) [] [] :: caps) hX (fun _ _ h => h) rfl rfl (fun _ _ _ _ _ h => h.elim) ⟨Nat.le_refl _, h0⟩ (fun b hb => ⟨hT b hb, fun hr => (hro b hr).2 hb⟩) (fun b hb => (hro b hb).1) ?_ (RepL.cons (.fn (.yield l) [] [] [] [] rfl (fun i a v h => by simp at h) rfl (fun i a v h => by simp at h)) hr) (hL l _ hX) (finQ_sat hs) ?_ ?_
  · intro a ha
    rcases List.mem_cons.1 ha with rfl | ha
    · exact .fn _ [] [] (fun a h => by cases h) (fun a h => by cases h)
    · exact hidf a ha
  · rintro x s w0 T' e' tmps w' ⟨_, hgh⟩ ⟨_, hΦ⟩ _ q2 _ _ _
    refine ⟨.tuple #[], ?_, ⟨_, rfl⟩, ?_⟩
    · simp [results, hrs]
    · have hΦ' := hst _ T' w0 w' hΦ q2
      rcases hgh with hgh | hgh
      · rw [hgh] at hΦ'; exact .inr ⟨T', hΦ'⟩
      · rw [hgh] at hΦ'; exact .inl ⟨T', hΦ'⟩
  · exact fun x s h => h.1
end
end Go.Sx
