/- Texts of this claim, put together: SxK, SxL -/
import Derived.Test.YtlinbkmpkcmniaaMe
import Derived.RangeFuncNested
import Derived.OrdersIn
set_option linter.unusedSimpArgs false
set_option linter.unusedVariables false
namespace Go.Sx
open Go Go.RowKit
inductive Tree (α : Type) where
 | fail
 | leaf (a : α)
 | branch (b : Bool) (t f : Tree α)
 | need (ps : List Prop) (t : Tree α)
 | may (p : Prop) (t f : Tree α)
def allP : List Prop → Prop
 | [] => True
 | [p] => p
 | p :: ps => p ∧ allP ps
theorem allP_mem : ∀ {ps : List Prop}, allP ps → ∀ p ∈ ps, p
 | [], _, _, h => by cases h
 | [q], h, p, hp => by rcases List.mem_singleton.1 hp with rfl; exact h
 | q :: r :: ps, h, p, hp => by
  rcases List.mem_cons.1 hp with rfl | hp
  ·exact h.1
  ·exact allP_mem h.2 p hp
namespace Tree
variable {α β : Type}
def bind : Tree α → (α → Tree β) → Tree β
 | .fail, _ => .fail
 | .leaf a, g => g a
 | .branch b t f, g => .branch b (t.bind g) (f.bind g)
 | .need ps t, g => .need ps (t.bind g)
 | .may p t f, g => .may p (t.bind g) (f.bind g)
def sat (Q : α → Prop) : Tree α → Prop
 | .fail => False
 | .leaf a => Q a
 | .branch b t f => (b = true → t.sat Q) ∧ (b = false → f.sat Q)
 | .need ps t => allP ps ∧ t.sat Q
 | .may p t f => (p → t.sat Q) ∧ f.sat Q
theorem sat_mono {Q Q' : α → Prop} (h : ∀ a, Q a → Q' a) : ∀ {t : Tree α}, t.sat Q → t.sat Q'
 | .fail, k => k
 | .leaf _, k => h _ k
 | .branch _ _ _, k => ⟨fun e => sat_mono h (k.1 e), fun e => sat_mono h (k.2 e)⟩
 | .need _ _, k => ⟨k.1, sat_mono h k.2⟩
 | .may _ _ _, k => ⟨fun e => sat_mono h (k.1 e), sat_mono h k.2⟩
theorem sat_bind {Q : β → Prop} {g : α → Tree β} : ∀ {t : Tree α}, (t.bind g).sat Q → t.sat (fun a => (g a).sat Q)
 | .fail, k => k
 | .leaf _, k => k
 | .branch _ _ _, k => ⟨fun e => sat_bind (k.1 e), fun e => sat_bind (k.2 e)⟩
 | .need _ _, k => ⟨k.1, sat_bind k.2⟩
 | .may _ _ _, k => ⟨fun e => sat_bind (k.1 e), sat_bind k.2⟩
def needT (ps : List Prop) (t : Tree α) : Tree α := match ps with
 | [] => t
 | p :: r => .need (p :: r) t
theorem sat_needT {Q : α → Prop} {ps : List Prop} {t : Tree α} (h : (needT ps t).sat Q) : allP ps ∧ t.sat Q := by
 cases ps with
 | nil => exact ⟨trivial, h⟩
 | cons p r => exact h
end Tree
structure St where
 σ : List AV
 m : Mem
 nx : Nat
 gh : Option Nat := none
 sv : List (List AV) := []
def constAV : Value → AV
 | .bool b => .lit b
 | v => .x v
def rho (σ : List AV) : Operand → AV
 | .tmp t => σ.getD t .top
 | .const v => constAV v
 | .global g => .x (.pointer (some ⟨g, 0, none⟩))
 | .func f => .fn (.func f) [] []
theorem constAV_rep {e : Env} {w : World} (v : Value) : Rep e w (constAV v) v := by
 unfold constAV; split
 ·exact .lit _
 ·exact .x _
theorem rho_rep {e : Env} {w : World} {σ : List AV} {a : Act} (h : RepL e w σ a.tmps.toList) (x : Operand) : Rep e w (rho σ x) (a.eval x) := by
 cases x with
 | tmp t =>
  simp only [rho, Act.eval]
  by_cases ht : t < σ.length
  ·obtain ⟨v, hv, r⟩ := h.get (List.getElem?_eq_getElem ht)
   have hv' : a.tmps[t]? = some v := by simpa using hv
   simpa [List.getD, List.getElem?_eq_getElem ht, Array.getD_eq_getD_getElem?, hv'] using r
  ·have hno : σ[t]? = none := List.getElem?_eq_none (Nat.le_of_not_lt ht)
   rw [List.getD, hno]; exact .top _
 | const v => exact constAV_rep v
 | global g => exact .x _
 | func f => exact .fn (.func f) [] [] [] [] rfl (fun i a v h => by simp at h) rfl (fun i a v h => by simp at h)
structure Cx where
 M : Nat → Prop
 Φ : Option Nat → (Nat → Prop) → World → Prop
 K : Nat → Obj → Prop
 saved : List (List Value)
 sz : Nat := 0
def DefOk (M : Nat → Prop) (e : Env) (w : World) (ds : List Deferred) : Prop := (∀ d ∈ ds, ∃ D, d = { target := .collected D, args := #[] } ∧ e.ro D ∧ D < w.heap.size ∧ w.heap[D]? = some (.deferred (some [])) ∧ M D) ∧ ds.Nodup
def RepLL (e : Env) (w : World) (l : List (List AV)) (vs : List (List Value)) : Prop := l.length = vs.length ∧ ∀ (i : Nat) (a : List AV) (v : List Value), l[i]? = some a → vs[i]? = some v → RepL e w a v
theorem RepLL.step {e e' : Env} {w w' : World} (s : Step e e' w w') {l : List (List AV)} {vs : List (List Value)} (h : RepLL e w l vs) : RepLL e' w' l vs := ⟨h.1, fun i a v ha hv => (h.2 i a v ha hv).step s⟩
theorem RepLL.cons {e : Env} {w : World} {a : List AV} {v : List Value} {l : List (List AV)} {vs : List (List Value)} (h : RepL e w a v) (t : RepLL e w l vs) : RepLL e w (a :: l) (v :: vs) := by
 refine ⟨by simp [t.1], fun i b u hb hu => ?_⟩
 cases i with
 | zero => simp at hb hu; subst hb; subst hu; exact h
 | succ i => simp at hb hu; exact t.2 i b u hb hu
theorem RepLL.cons_inv {e : Env} {w : World} {l : List (List AV)} {v : List Value} {vs : List (List Value)} (h : RepLL e w l (v :: vs)) : ∃ a l', l = a :: l' ∧ RepL e w a v ∧ RepLL e w l' vs := by
 cases l with
 | nil => have := h.1; simp at this
 | cons a l' => exact ⟨a, l', rfl, h.2 0 a v (by simp) (by simp), ⟨by have := h.1; simpa using this, fun i b u hb hu => h.2 (i + 1) b u (by simpa using hb) (by simpa using hu)⟩⟩
theorem RepLL.map {e e' : Env} {w w' : World} {l : List (List AV)} {vs : List (List Value)} (g : AV → AV) (hg : ∀ a v, Rep e w a v → Rep e' w' (g a) v) (h : RepLL e w l vs) : RepLL e' w' (l.map (·.map g)) vs := by
 refine ⟨by simp [h.1], fun i a v ha hv => ?_⟩
 rw [List.getElem?_map, Option.map_eq_some_iff] at ha
 obtain ⟨a', ha', rfl⟩ := ha
 obtain ⟨h1, h2⟩ := h.2 i a' v ha' hv
 refine ⟨by simp [h1], fun j b u hb hu => ?_⟩
 rw [List.getElem?_map, Option.map_eq_some_iff] at hb
 obtain ⟨b', hb', rfl⟩ := hb
 exact hg _ _ (h2 j b' u hb' hu)
structure Xt (c : Cx) (e : Env) (sv : List (List AV)) (ds : List Deferred) (w : World) : Prop where
 defers : DefOk c.M e w ds
 kept : ∀ b o, c.K b o → e.ro b ∧ b < w.heap.size ∧ w.heap[b]? = some o
 saved : RepLL e w sv c.saved
 size : c.sz ≤ w.heap.size
theorem DefOk.step {M : Nat → Prop} {e e' : Env} {w w' : World} (s : Step e e' w w') {ds : List Deferred} (h : DefOk M e w ds) : DefOk M e' w' ds := by
 refine ⟨fun d hd => ?_, h.2⟩
 obtain ⟨D, h1, h2, h3, h4, h5⟩ := h.1 d hd
 obtain ⟨k1, k2⟩ := s.ro D h3 h2
 exact ⟨D, h1, k1, Nat.lt_of_lt_of_le h3 s.size, k2.trans h4, h5⟩
theorem Xt.step {c : Cx} {e e' : Env} {sv : List (List AV)} {ds : List Deferred} {w w' : World} (h : Xt c e sv ds w) (s : Step e e' w w') : Xt c e' sv ds w' := by
 refine ⟨h.defers.step s, fun b o hb => ?_, h.saved.step s, Nat.le_trans h.size s.size⟩
 obtain ⟨h1, h2, h3⟩ := h.kept b o hb
 obtain ⟨k1, k2⟩ := s.ro b h2 h1
 exact ⟨k1, Nat.lt_of_lt_of_le h2 s.size, k2.trans h3⟩
structure RelE (c : Cx) (w0 : World) (T : Nat → Prop) (e : Env) (s : St) (a : Act) (w : World) : Prop where
 env : EnvOk e w0.heap.size w
 below : Below w0.heap.size w0 w
 mem : MemOk e s.m w
 live : ∀ k, e.live k → k < s.nx
 foe : ∀ b, T b → b < w0.heap.size ∧ ¬ e.ro b
 xt : Xt c e s.sv a.defers w
 slots : RepL e w s.σ a.tmps.toList
def Rel (c : Cx) (s : St) (a : Act) (w : World) : Prop := ∃ w0 T e, c.Φ s.gh T w0 ∧ RelE c w0 T e s a w
def setS (σ : List AV) (dst : Option Nat) (v : AV) : List AV :=
 match dst with
 | some d => σ.set d v
 | none => σ
theorem put_slots {e : Env} {w : World} {σ : List AV} {a : Act} (h : RepL e w σ a.tmps.toList) (dst : Option Nat) {av : AV} {v : Value} (r : Rep e w av v) : RepL e w (setS σ dst av) (a.put dst v).tmps.toList := by
 cases dst with
 | none => exact h
 | some d => simp only [setS, Act.put, Array.toList_setIfInBounds]; exact h.set r d
theorem put_defers (a : Act) (dst : Option Nat) (v : Value) : (a.put dst v).defers = a.defers := by cases dst <;> rfl
theorem RelE.hB {c : Cx} {w0 : World} {T : Nat → Prop} {e : Env} {s : St} {a : Act} {w : World} (h : RelE c w0 T e s a w) : w0.heap.size ≤ w.heap.size := h.below.size
def fr (ro : Option Nat) : Fence := { Fence.wide with round := ro }
theorem callsIn_fr {ro : Option Nat} {n : Nat} {P : Program} {f : FuncId} {args : Array Value} {w : World} {R : Ending → World → Prop} (h : Calls P f args w R) : CallsIn (fr ro) n P f args w R := callsIn_wide (n := n).2 h
theorem rowsIn_fr {ro : Option Nat} {n : Nat} {P : Program} {row : String} {args : Array Value} {w : World} {R : Value → World → Prop} (h : Rows P row args w R) : RowsIn (fr ro) n P row args w R := fun c cs _ => by
 obtain ⟨v, w', h1, h2⟩ := h c cs
 exact ⟨v, w', h1, stepsIn_wide.2 h2⟩
theorem wpIn_of_wp {ro : Option Nat} {n : Nat} {P : Program} {o : Oper} {a : Act} {w : World} {K : Act → World → Prop} {Q : Exit → Act → World → Prop} (hd : ∀ c, o.op ≠ .defer c) (h : o.wp P a w K Q) : o.wpIn (fr ro) n P a w K Q := by
 refine ⟨fun f _ => trivial, ?_⟩
 rw [Oper.semAt_eq _ _ _ hd]
 unfold Oper.wp at h
 generalize (execOp a.eval o).run P w = r at h ⊢
 have hdep : (fr ro).depth.isSome = true → 1 ≤ n := fun h => by cases h
 unfold Oper.upon at h
 split at h
 ·exact h
 ·exact h
 ·exact h
 ·exact ⟨hdep, callsIn_fr h⟩
 ·exact ⟨hdep, rowsIn_fr h⟩
 ·exact h
 ·exact h.elim
def aeff (P : Program) (id : Nat) (m : Mem) (ρ : Operand → AV) (op : Op) : Option (List Prop × AV × Mem) :=
 match op with
 | .store t x y => match opStore P m t (ρ x) (ρ y) with
  | some (ns, m') => some (ns, .top, m')
  | none => none
 | .mapUpdate t x k y => match ρ x, valOf (ρ k), valOf (ρ y), zeroOf P t with
  | .mp id, some kv, some yv, some z => match getM m id with
   | some (.memo h f) => match isLitT (ρ y) with
    | true => some ([∀ u, h u → f u = yv, MapKey P t (fun u => h u ∨ u = kv) kv z], .top, (id, .memo (fun u => h u ∨ u = kv) (fun _ => yv)) :: delM m id)
    | false => some ([MapKey P t h kv z, h kv, yv = f kv], .top, (id, .memo h f) :: delM m id)
   | _ => none
  | _, _, _, _ => none
 | .call c => match c.callee, c.args.toList, c.argTypes.toList with
  | .builtin .append, [s, x], [t, t'] => match Nat.beq t t' with
   | true => opAppend P id m t (ρ s) (ρ x)
   | false => none
  | _, _, _ => none
 | _ => none
def aop2 (P : Program) (m : Mem) (ρ : Operand → AV) (op : Op) : Option (List Prop × Prop × AV × AV) :=
 match op with
 | .binOp .eql t x (.const (.slice none 0 0)) _ => match ρ x, P.underlying t with
  | .lst _ n _, some (.slice _) => some ([], n = 0, .lit true, .lit false)
  | _, _ => none
 | .binOp .neq t x (.const (.slice none 0 0)) _ => match ρ x, P.underlying t with
  | .lst _ n _, some (.slice _) => some ([], n = 0, .lit false, .lit true)
  | _, _ => none
 | .lookup t x k ok => match ρ x, valOf (ρ k), zeroOf P t with
  | .mp id, some kv, some z => match getM m id with
   | some (.memo h f) => some ([MapKey P t h kv z], h kv, lookAV ok (f kv) true, lookAV ok z false)
   | _ => none
  | _, _, _ => none
 | _ => none
abbrev CSpec := List AV → Option (Tree AV)
abbrev FSpec := List AV → Option (List Prop × TypeId × Nat × Nat × (Nat → List AV))
abbrev HSpec := List AV → Mem → Nat → List (List AV) → Option (Tree (AV × Mem × Nat × List (List AV)))
def backS (o : Option Nat) (s : St) (p : AV × Mem × Nat × List (List AV)) : Tree St := match p.2.2.2 with
 | σ :: t => .leaf { s with σ := setS σ o p.1, m := p.2.1, nx := p.2.2.1, sv := t }
 | [] => .fail
structure Ext where
 Y : Option (Nat × Nat × (Nat → List Value)) := none
 R : List (Nat × Spec) := []
 H : List (Nat × HSpec) := []
 C : List (Nat × CSpec) := []
 F : List (Nat × FSpec) := []
 D : List (Nat × CSpec) := []
def getH : List (Nat × HSpec) → Nat → Option HSpec
 | [], _ => none
 | (k, s) :: t, f => match Nat.beq k f with
  | true => some s
  | false => getH t f
theorem getH_mem {G : List (Nat × HSpec)} {f : Nat} {s : HSpec} (h : getH G f = some s) : (f, s) ∈ G := by
 induction G with
 | nil => simp [getH] at h
 | cons p t ih =>
  obtain ⟨k, r'⟩ := p
  unfold getH at h
  split at h
  ·rename_i hk
   have : k = f := Nat.eq_of_beq_eq_true hk
   subst this
   cases h
   exact List.mem_cons_self
  ·exact List.mem_cons_of_mem _ (ih h)
def getC : List (Nat × CSpec) → Nat → Option CSpec
 | [], _ => none
 | (k, s) :: t, f => match Nat.beq k f with
  | true => some s
  | false => getC t f
def getF : List (Nat × FSpec) → Nat → Option FSpec
 | [], _ => none
 | (k, s) :: t, f => match Nat.beq k f with
  | true => some s
  | false => getF t f
theorem getF_mem {G : List (Nat × FSpec)} {f : Nat} {s : FSpec} (h : getF G f = some s) : (f, s) ∈ G := by
 induction G with
 | nil => simp [getF] at h
 | cons p t ih =>
  obtain ⟨k, s'⟩ := p
  unfold getF at h
  split at h
  ·rename_i hk
   have : k = f := Nat.eq_of_beq_eq_true hk
   subst this
   cases h
   exact List.mem_cons_self
  ·exact List.mem_cons_of_mem _ (ih h)
theorem getC_mem {G : List (Nat × CSpec)} {f : Nat} {s : CSpec} (h : getC G f = some s) : (f, s) ∈ G := by
 induction G with
 | nil => simp [getC] at h
 | cons p t ih =>
  obtain ⟨k, r'⟩ := p
  unfold getC at h
  split at h
  ·rename_i hk
   have : k = f := Nat.eq_of_beq_eq_true hk
   subst this
   cases h
   exact List.mem_cons_self
  ·exact List.mem_cons_of_mem _ (ih h)
def idfD : Nat → AV → Bool
 | 0, a => a.idf
 | d + 1, a => match a with
  | .agg l => l.all (idfD d)
  | .tup l => l.all (idfD d)
  | .fn _ l l' => l.all (idfD d) && l'.all (idfD d)
  | a => a.idf
theorem idfD_idf {e : Env} {w : World} : ∀ (d : Nat) (a : AV) (v : Value), Rep e w a v → idfD d a = true → Idf a
 | 0, _, _, r, h => idf_of r h
 | d + 1, a, v, r, h => by
  have ih := idfD_idf (e := e) (w := w) d
  have all : ∀ {l : List AV} {vs : List Value}, RepL e w l vs → l.all (idfD d) = true → ∀ a ∈ l, Idf a := by
   intro l vs hr hl a ha
   obtain ⟨i, hi⟩ := List.mem_iff_getElem?.1 ha
   obtain ⟨v, hv, r⟩ := hr.get hi
   exact ih a v r (List.all_eq_true.1 hl a ha)
  cases r with
  | agg l vs h1 h2 => exact .agg l (all ⟨h1, h2⟩ h)
  | tup l vs h1 h2 => exact .tup l (all ⟨h1, h2⟩ h)
  | fn f l l' vs vs' h1 h2 h3 h4 =>
   simp only [idfD, Bool.and_eq_true] at h
   exact .fn f l l' (all ⟨h1, h2⟩ h.1) (all ⟨h3, h4⟩ h.2)
  | top v => exact .top
  | lit b => exact .lit b
  | x v => exact .x v
  | ro l vs b o h1 h2 h3 h4 h5 h6 => exact .ro l h3
  | lstNil sz f => exact .lst sz 0 f (fun i hi => by omega)
  | lst sz n f b o cap g h1 h2 h3 h4 h5 h6 h7 h8 ad had => exact .lst sz n f h3
  | roI pre n f off b o hr => exact idf_of (Rep.roI pre n f off b o hr) rfl
  | _ => simp [idfD, AV.idf] at h
def valsOf : List AV → Option (List Value)
 | [] => some []
 | a :: t => match valOf a, valsOf t with
  | some v, some vs => some (v :: vs)
  | _, _ => none
theorem valsOf_rep {e : Env} {w : World} : ∀ {l : List AV} {vs us : List Value}, valsOf l = some vs → RepL e w l us → us = vs
 | [], vs, us, h, r => by
  simp only [valsOf, Option.some.injEq] at h
  rw [r.nil_inv, ← h]
 | a :: l, vs, us, h, r => by
  obtain ⟨u, us', rfl, hu, r'⟩ := r.cons_inv
  unfold valsOf at h
  split at h
  ·rename_i v vs' h1 h2
   cases h
   rw [valOf_rep h1 hu, valsOf_rep h2 r']
  ·cases h
def opX (X : Ext) (o : Oper) (s : St) : Option (Tree St) :=
 match o.op with
 | .call c => match c.callee with
  | .value f => match rho s.σ f with
   | .fn (.yield l) [] [] => match X.Y, s.gh, s.sv, valsOf (c.args.toList.map (rho s.σ)) with
    | some (l', N, vals), some k, [], some vs => some (.need [l = l', k < N, vs = vals k]
      (.may True (.leaf { σ := setS (s.σ.map (viewA s.m 40)) o.dst (.lit true), m := [], nx := 0, gh := some (k + 1), sv := [] })
       (.leaf { σ := setS (s.σ.map (viewA s.m 40)) o.dst (.lit false), m := [], nx := 0, gh := none, sv := [] })))
    | _, _, _, _ => none
   | .fn (.func g) first caps => match getG X.R g with
    | some sp => match (first ++ c.args.toList.map (rho s.σ) ++ caps).all (idfD 6) with
     | true => match sp (first ++ c.args.toList.map (rho s.σ) ++ caps) with
      | some (ns, r) => some (.needT ns (.leaf { s with σ := setS s.σ o.dst r, nx := s.nx + 1 }))
      | none => none
     | false => none
    | none => match getH X.H g with
     | some h => match h (first ++ c.args.toList.map (rho s.σ) ++ caps) s.m s.nx (s.σ :: s.sv) with
      | some t => some (t.bind (backS o.dst s))
      | none => none
     | none => match getC X.C g with
      | some sp => match (first ++ c.args.toList.map (rho s.σ) ++ caps).all (idfD 6) with
       | true => match sp (first ++ c.args.toList.map (rho s.σ) ++ caps) with
        | some t => some (t.bind fun r => .leaf { s with σ := setS s.σ o.dst r, nx := s.nx + 1 })
        | none => none
       | false => none
      | none => none
   | _ => none
  | _ => none
 | _ => none
def SoundAtR (P : Program) (f : FuncId) (avs : List AV) (res : AV) : Prop :=
 ∀ (e : Env) (w : World) (args : List Value), (∀ b, e.ro b → b < w.heap.size) → (∀ a ∈ avs, Idf a) → RepL e w avs args →
  Calls P f args.toArray w fun en w' => ∃ v, en = .returned v ∧ Below w.heap.size w w' ∧ Rep { freshE w w' with ro := (e.more w w').ro } w' res v
def SoundCAt (P : Program) (f : FuncId) (avs : List AV) (t : Tree AV) : Prop :=
 ∀ Q : AV → Prop, t.sat Q → ∀ (e : Env) (w : World) (args : List Value), (∀ b, e.ro b → b < w.heap.size) → (∀ a ∈ avs, Idf a) → RepL e w avs args →
  Calls P f args.toArray w fun en w' => ∃ v r, en = .returned v ∧ Q r ∧ Below w.heap.size w w' ∧ Rep { freshE w w' with ro := (e.more w w').ro } w' r v
def SoundDAt (P : Program) (f : FuncId) (avs : List AV) (t : Tree AV) : Prop :=
 ∀ Q : AV → Prop, t.sat Q → ∀ (e : Env) (w : World) (args : List Value), (∀ b, e.ro b → b < w.heap.size) → (∀ a ∈ avs, Idf a) → RepL e w avs args →
  Calls P f args.toArray w fun en w' => ∃ v r, en = .returned v ∧ Q r ∧ Below w.heap.size w w' ∧ Rep (freshE w w') w' r v
def SoundFAt (P : Program) (f : FuncId) (avs : List AV) (T : TypeId) (sz n : Nat) (g : Nat → List AV) : Prop :=
 ∀ (e : Env) (w : World) (args : List Value), (∀ b, e.ro b → b < w.heap.size) → (∀ a ∈ avs, Idf a) → RepL e w avs args →
  Calls P f args.toArray w fun en w' => ∃ v xs, en = .returned v ∧ Below w.heap.size w w' ∧ w'.ownsRow 0 T sz v n xs ∧ (∀ b, v.ownBlock = some b → w.heap.size ≤ b ∧ b < w'.heap.size) ∧
   (∀ i, i < n → (g i).length = sz ∧ ∀ a ∈ g i, ∃ u, a = .x u) ∧ ∀ (i j : Nat) (a : AV) (u : Value), i < n → (g i)[j]? = some a → xs[i * sz + j]? = some u → a = .x u
theorem came_fresh {e : Env} {B : Nat} {w w' : World} {m : Mem} {id : Nat} {T : TypeId} {sz n : Nat} {g : Nat → List AV} {v : Value} {xs : List Value} (hE : EnvOk e B w) (hB : B ≤ w.heap.size) (hm : MemOk e m w) (hid : ¬ e.live id)
  (hb : Below w.heap.size w w') (ho : w'.ownsRow 0 T sz v n xs) (hn : ∀ b, v.ownBlock = some b → w.heap.size ≤ b ∧ b < w'.heap.size) (hg : ∀ i, i < n → (g i).length = sz ∧ ∀ a ∈ g i, ∃ u, a = .x u)
  (hr : ∀ (i j : Nat) (a : AV) (u : Value), i < n → (g i)[j]? = some a → xs[i * sz + j]? = some u → a = .x u) :
  Came e B w m id (.row id) (some (.row T sz n g)) v w' := by
 let e' : Env := { ro := fun b => e.ro b ∨ (w.heap.size ≤ b ∧ b < w'.heap.size ∧ v.ownBlock ≠ some b), own := fun b => if v.ownBlock = some b then some id else e.own b, live := fun k => k = id ∨ e.live k, blk := e.blk, val := fun k => if k = id then v else e.val k }
 have hold : ∀ b, b < w.heap.size → v.ownBlock ≠ some b := fun b hb hv => by have := (hn b hv).1; omega
 have st : Step e e' w w' := by
  refine ⟨fun b hlt hr => ⟨.inl hr, hb.block b hlt⟩, fun k hk => ⟨.inr hk, rfl, ?_⟩, hb.size⟩
  have : k ≠ id := fun h => hid (h ▸ hk)
  simp [e', this]
 have hown : ∀ b k, e.own b = some k → e'.own b = some k := by
  intro b k hk
  have := (hE.owned b k hk).2
  show (if v.ownBlock = some b then some id else e.own b) = some k
  rw [if_neg (hold b this)]
  exact hk
 have hE' : EnvOk e' B w' := by
  refine ⟨?_, fun b k hk => ?_⟩
  ·rintro b (h | ⟨h1, h2, h3⟩)
   ·have h4 := hE.apart b h
    have := hb.size
    refine ⟨?_, by omega⟩
    show (if v.ownBlock = some b then some id else e.own b) = none
    rw [if_neg (hold b h4.2)]
    exact h4.1
   ·refine ⟨?_, h2⟩
    show (if v.ownBlock = some b then some id else e.own b) = none
    rw [if_neg h3]
    cases ho : e.own b with
    | none => rfl
    | some k => have := (hE.owned b k ho).2; omega
  ·have hk : (if v.ownBlock = some b then some id else e.own b) = some k := hk
   split at hk
   ·rename_i hv
    have := hn b hv
    omega
   ·have := hE.owned b k hk
    have := hb.size
    omega
 refine ⟨e', hb, st, hE', hown, ?_, ?_, fun k hk => hk.symm, fun b h => h.imp (fun h => h) (fun h => h.1)⟩
 ·rcases ho.2 with ⟨rfl, rfl⟩ | ⟨gb, cap, cur, rfl, _⟩
  ·exact .row id _ _ _ (.inl rfl) (by simp [e'])
  ·exact .row id _ _ _ (.inl rfl) (by simp [e'])
 ·intro p hp
  rcases List.mem_cons.1 hp with rfl | hp
  ·refine ⟨.inl rfl, fun b hv => ?_, fun i hi => ⟨(hg i hi).1, fun a ha => ?_⟩, xs, ?_, fun i j a u hi ha hu => ?_⟩
   ·have hv : v.ownBlock = some b := by simpa [e'] using hv
    show (if v.ownBlock = some b then some id else e.own b) = some id
    rw [if_pos hv]
   ·obtain ⟨u, rfl⟩ := (hg i hi).2 a ha
    exact .x u
   ·show w'.ownsRow 0 T sz (if id = id then v else e.val id) n xs
    rw [if_pos rfl]
    exact ho
   ·rw [hr i j a u hi ha hu]
    exact .x u
  ·exact (hm p hp).ext hb st hown
def SoundHSpec (P : Program) (f : FuncId) (h : HSpec) : Prop := Enters P f ∧ ∀ avs m nx sv t, h avs m nx sv = some t → ∀ Q, t.sat Q → ∀ (c : Cx) (w0 : World) (T : Nat → Prop) (e : Env) (ds : List Deferred) (args : List Value) (w : World),
 EnvOk e w0.heap.size w → Below w0.heap.size w0 w → MemOk e m w → (∀ k, e.live k → k < nx) → (∀ b, T b → b < w0.heap.size ∧ ¬ e.ro b) → Xt c e sv ds w → RepL e w avs args →
  Calls P f args.toArray w fun en w' => ∃ v r m' nx' sv' e', en = .returned v ∧ Q (r, m', nx', sv') ∧ EnvOk e' w0.heap.size w' ∧ Below w0.heap.size w0 w' ∧ MemOk e' m' w' ∧ (∀ k, e'.live k → k < nx') ∧
   (∀ b, T b → b < w0.heap.size ∧ ¬ e'.ro b) ∧ Xt c e' sv' ds w' ∧ Rep e' w' r v
def SoundY (P : Program) (c : Cx) (l N : Nat) (vals : Nat → List Value) : Prop :=
 (∀ k T w w', c.Φ (some k) T w → Below w.heap.size w w' → c.Φ (some k) T w') ∧
 ∀ k T w n, c.Φ (some k) T w → k < N → YieldAt (fr none) n P l (vals k).toArray w fun en w' => w.heap.size ≤ w'.heap.size ∧ (∀ b, b < w.heap.size → ¬ T b → w'.heap[b]? = w.heap[b]?) ∧
  ∃ T', (∀ b, T' b → b < w'.heap.size ∧ (T b ∨ w.heap.size ≤ b)) ∧ ((en = .returned (.bool true) ∧ c.Φ (some (k + 1)) T' w') ∨ (en = .returned (.bool false) ∧ c.Φ none T' w'))
structure SoundX (P : Program) (X : Ext) (c : Cx) : Prop where
 y : ∀ l N vals, X.Y = some (l, N, vals) → SoundY P c l N vals
 r : ∀ p ∈ X.R, Enters P p.1 ∧ ∀ avs ns res, p.2 avs = some (ns, res) → (∀ p ∈ ns, p) → SoundAtR P p.1 avs res
 h : ∀ p ∈ X.H, SoundHSpec P p.1 p.2
 c : ∀ p ∈ X.C, Enters P p.1 ∧ ∀ avs t, p.2 avs = some t → SoundCAt P p.1 avs t
 f : ∀ p ∈ X.F, Enters P p.1 ∧ ∀ avs ns T sz n g, p.2 avs = some (ns, T, sz, n, g) → (∀ q ∈ ns, q) → SoundFAt P p.1 avs T sz n g
 d : ∀ p ∈ X.D, Enters P p.1 ∧ ∀ avs t, p.2 avs = some t → SoundDAt P p.1 avs t
theorem SoundX.nil (P : Program) (c : Cx) : SoundX P {} c := ⟨(fun _ _ _ h => by cases h), (fun _ h => by cases h), (fun _ h => by cases h), (fun _ h => by cases h), (fun _ h => by cases h), (fun _ h => by cases h)⟩
def runOp (P : Program) (G : List (Nat × Spec)) (X : Ext) (o : Oper) (s : St) : Tree St :=
 match aop P G s.nx s.m (rho s.σ) o.op with
 | some (ns, val, add) => .needT ns (.leaf { s with σ := setS s.σ o.dst val, m := addM s.m s.nx add, nx := s.nx + 1 })
 | none => match aeff P s.nx s.m (rho s.σ) o.op with
  | some (ns, val, m') => .needT ns (.leaf { s with σ := setS s.σ o.dst val, m := m', nx := s.nx + 1 })
  | none => match aop2 P s.m (rho s.σ) o.op with
   | some (ns, p, v1, v2) => .needT ns (.may p (.leaf { s with σ := setS s.σ o.dst v1, nx := s.nx + 1 }) (.leaf { s with σ := setS s.σ o.dst v2, nx := s.nx + 1 }))
   | none => match opX X o s with
    | some t => t
    | none => .fail
theorem aeff_sound {P : Program} {e : Env} {B : Nat} {w : World} {m m' : Mem} {id : Nat} {ρ : Operand → AV} {o : Oper} {a : Act} {ns : List Prop} {val : AV}
  (h : aeff P id m ρ o.op = some (ns, val, m')) (hn : ∀ p ∈ ns, p) (hE : EnvOk e B w) (hB : B ≤ w.heap.size) (hm : MemOk e m w) (hid : ¬ e.live id) (hr : ∀ x, Rep e w (ρ x) (a.eval x))
  {K : Act → World → Prop} {Q : Exit → Act → World → Prop} (hK : ∀ v w', Wrote e B w id val m' v w' → K (a.put o.dst v) w') : o.wp P a w K Q := by
 obtain ⟨dst, op, type, pos, after, guard⟩ := o
 cases op <;> try (simp [aeff] at h; done)
 case store t x y =>
  simp only [aeff] at h
  split at h
  ·rename_i ns' m'' hs
   cases h
   obtain ⟨w', h1, h2⟩ := opStore_sound (P := P) hs hn hE hm (hr x) (hr y)
   unfold Oper.wp
   have hrun : (execOp a.eval ⟨dst, .store t x y, type, pos, after, guard⟩).run P w = .ok .skip w' := by simp [execOp, h1]
   rw [hrun]
   exact hK undef w' (h2 id undef)
  ·cases h
 case mapUpdate t x k y =>
  simp only [aeff] at h
  split at h
  ·rename_i i kv yv z hx hkv hyv hz
   split at h
   ·rename_i g f hg
    have rx := hr x
    rw [hx] at rx
    have ek := valOf_rep hkv (hr k)
    have ey := valOf_rep hyv (hr y)
    split at h
    ·cases h
     cases hxv : a.eval x with
     | map b =>
      rw [hxv] at rx
      cases rx with
      | mp _ hl =>
       obtain ⟨w', h1, h2⟩ := upd_grow hg (hn (∀ u, g u → f u = yv) (by simp)) (hn (MapKey P t (fun u => g u ∨ u = kv) kv z) (by simp)) hE hm
       unfold Oper.wp
       have hrun : (execOp a.eval ⟨dst, .mapUpdate t x k y, type, pos, after, guard⟩).run P w = .ok .skip w' := by simp [execOp, hxv, ek, ey, h1]
       rw [hrun]
       exact hK undef w' (h2 id undef)
     | _ => rw [hxv] at rx; cases rx
    cases h
    cases hxv : a.eval x with
    | map b =>
     rw [hxv] at rx
     cases rx with
     | mp _ hl =>
      obtain ⟨w', h1, h2⟩ := upd_wrote hg (hn (MapKey P t g kv z) (by simp)) (hn (g kv) (by simp)) (hn (yv = f kv) (by simp)) hE hm
      unfold Oper.wp
      have hrun : (execOp a.eval ⟨dst, .mapUpdate t x k y, type, pos, after, guard⟩).run P w = .ok .skip w' := by simp [execOp, hxv, ek, ey, h1]
      rw [hrun]
      exact hK undef w' (h2 id undef)
    | _ => rw [hxv] at rx; cases rx
   ·cases h
  ·cases h
 case call c =>
  obtain ⟨callee, args, argTypes⟩ := c
  simp only [aeff] at h
  split at h
  ·rename_i s x t t' hca hta
   split at h
   ·rename_i ht
    have ht' : t = t' := Nat.eq_of_beq_eq_true ht
    subst ht'
    obtain ⟨u, w', h1, h2⟩ := opAppend_sound (P := P) (ty := type) h hn hE hB hm hid (hr s) (hr x)
    have ha : args = #[s, x] := Array.ext' (by simpa using hca)
    have hat : argTypes = #[t, t] := Array.ext' (by simpa using hta)
    subst ha; subst hat
    refine wp_value (v := u) (w' := w') ?_ (hK u w' h2)
    simp [execOp, resolve, invoke, builtin, h1]
   ·cases h
  ·cases h
theorem run_eqNil {P : Program} {t el : TypeId} (hu : P.underlying t = some (.slice el)) (op : BinOp) (ox : Operand) (w : World) (v : Value) (b : Bool) (hv : (v = .slice none 0 0 ∧ b = true) ∨ (∃ ad n c, v = .slice (some ad) n c ∧ b = false)) :
  (op = .eql → (do eqGuard op t ox (.const (.slice none 0 0)) v (.slice none 0 0); binOp op t v (.slice none 0 0) : Sem Value).run P w = .ok (.bool b) w) ∧
  (op = .neq → (do eqGuard op t ox (.const (.slice none 0 0)) v (.slice none 0 0); binOp op t v (.slice none 0 0) : Sem Value).run P w = .ok (.bool !b) w) := by
 have hg : op = .eql ∨ op = .neq → (eqGuard op t ox (.const (.slice none 0 0)) v (.slice none 0 0)).run P w = .ok () w := by
  rintro (rfl | rfl) <;> rcases hv with ⟨rfl, _⟩ | ⟨ad, n, c, rfl, _⟩ <;> simp [eqGuard]
 have he : (Op.equal t v (.slice none 0 0)).run P w = .ok b w := by
  unfold Op.equal
  rw [show Op.maxDepth = (Op.maxDepth - 1) + 1 by decide]
  rcases hv with ⟨rfl, rfl⟩ | ⟨ad, n, c, rfl, rfl⟩ <;> simp [Op.equalIn, run_underlying hu]
 constructor
 ·rintro rfl
  rw [Sem.run_bind, hg (.inl rfl)]
  rcases hv with ⟨rfl, rfl⟩ | ⟨ad, n, c, rfl, rfl⟩ <;> simp [binOp, he]
 ·rintro rfl
  rw [Sem.run_bind, hg (.inr rfl)]
  rcases hv with ⟨rfl, rfl⟩ | ⟨ad, n, c, rfl, rfl⟩ <;> simp [binOp, he]
theorem aop2_sound {P : Program} {e : Env} {w : World} {m : Mem} {ρ : Operand → AV} {o : Oper} {a : Act} {ns : List Prop} {p : Prop} {v1 v2 : AV} (h : aop2 P m ρ o.op = some (ns, p, v1, v2)) (hn : ∀ p ∈ ns, p) (hm : MemOk e m w) (hr : ∀ x, Rep e w (ρ x) (a.eval x))
  {K : Act → World → Prop} {Q : Exit → Act → World → Prop} (hK : ∀ v, (p ∧ Rep e w v1 v) ∨ Rep e w v2 v → K (a.put o.dst v) w) : o.wp P a w K Q := by
 obtain ⟨dst, op, type, pos, after, guard⟩ := o
 simp only at h
 unfold aop2 at h
 split at h
 ·rename_i t x t'
  split at h
  ·rename_i sz n f el hx hu
   cases h
   have rx := hr x
   rw [hx] at rx
   have hc : ∃ b, ((a.eval x = .slice none 0 0 ∧ b = true) ∨ (∃ ad n c, a.eval x = .slice (some ad) n c ∧ b = false)) ∧ ((n = 0 ∧ Rep e w (.lit true) (.bool b)) ∨ Rep e w (.lit false) (.bool b)) := by
    generalize a.eval x = v at rx
    cases rx with
    | lstNil => exact ⟨true, .inl ⟨rfl, rfl⟩, .inl ⟨rfl, .lit true⟩⟩
    | lst _ _ _ b o cap g => exact ⟨false, .inr ⟨_, _, _, rfl, rfl⟩, .inr (.lit false)⟩
   obtain ⟨b, h1, h2⟩ := hc
   refine wp_value (v := .bool b) (w' := w) ?_ (hK _ h2)
   have := (run_eqNil hu .eql x w _ b h1).1 rfl
   have hs : execOp a.eval ⟨dst, .binOp .eql t x (.const (.slice none 0 0)) t', type, pos, after, guard⟩ = (do pure (.value (← (do eqGuard .eql t x (.const (.slice none 0 0)) (a.eval x) (.slice none 0 0); binOp .eql t (a.eval x) (.slice none 0 0) : Sem Value)))) := rfl
   rw [hs, Sem.run_bind, this]
   simp
  ·cases h
 ·rename_i t x t'
  split at h
  ·rename_i sz n f el hx hu
   cases h
   have rx := hr x
   rw [hx] at rx
   have hc : ∃ b, ((a.eval x = .slice none 0 0 ∧ b = true) ∨ (∃ ad n c, a.eval x = .slice (some ad) n c ∧ b = false)) ∧ ((n = 0 ∧ Rep e w (.lit false) (.bool !b)) ∨ Rep e w (.lit true) (.bool !b)) := by
    generalize a.eval x = v at rx
    cases rx with
    | lstNil => exact ⟨true, .inl ⟨rfl, rfl⟩, .inl ⟨rfl, .lit false⟩⟩
    | lst _ _ _ b o cap g => exact ⟨false, .inr ⟨_, _, _, rfl, rfl⟩, .inr (.lit true)⟩
   obtain ⟨b, h1, h2⟩ := hc
   refine wp_value (v := .bool !b) (w' := w) ?_ (hK _ h2)
   have := (run_eqNil hu .neq x w _ b h1).2 rfl
   have hs : execOp a.eval ⟨dst, .binOp .neq t x (.const (.slice none 0 0)) t', type, pos, after, guard⟩ = (do pure (.value (← (do eqGuard .neq t x (.const (.slice none 0 0)) (a.eval x) (.slice none 0 0); binOp .neq t (a.eval x) (.slice none 0 0) : Sem Value)))) := rfl
   rw [hs, Sem.run_bind, this]
   simp
  ·cases h
 ·rename_i t x k ok
  split at h
  ·rename_i i kv z hx hkv hz
   split at h
   ·rename_i g f hg
    cases h
    have rx := hr x
    rw [hx] at rx
    have ek := valOf_rep hkv (hr k)
    cases hxv : a.eval x with
    | map b =>
     rw [hxv] at rx
     cases rx with
     | mp _ hl =>
      obtain ⟨_, _, es, c, h3, h4⟩ := hm _ (getM_mem hg)
      obtain ⟨v, h5, h6⟩ := run_look (hn (MapKey P t g kv z) (by simp)) h3 h4 ok
      refine wp_value (v := v) (w' := w) ?_ (hK v ?_)
      ·simp [execOp, hxv, ek, h5]
      ·rcases h6 with ⟨h6, rfl⟩ | rfl
       ·exact .inl ⟨h6, lookAV_rep e w ok _ true⟩
       ·exact .inr (lookAV_rep e w ok _ false)
    | _ => rw [hxv] at rx; cases rx
   ·cases h
  ·cases h
 ·cases h
theorem notDefer_aop {P : Program} {G : List (Nat × Spec)} {id : Nat} {m : Mem} {ρ : Operand → AV} {op : Op} {x : Out} (h : aop P G id m ρ op = some x) : ∀ c, op ≠ .defer c := by
 rintro c rfl
 simp [aop] at h
theorem notDefer_aeff {P : Program} {id : Nat} {m : Mem} {ρ : Operand → AV} {op : Op} {x : List Prop × AV × Mem} (h : aeff P id m ρ op = some x) : ∀ c, op ≠ .defer c := by
 rintro c rfl
 simp [aeff] at h
theorem notDefer_aop2 {P : Program} {m : Mem} {ρ : Operand → AV} {op : Op} {x : List Prop × Prop × AV × AV} (h : aop2 P m ρ op = some x) : ∀ c, op ≠ .defer c := by
 rintro c rfl
 simp [aop2] at h
theorem RelE.next {c : Cx} {w0 : World} {T : Nat → Prop} {e e' : Env} {s : St} {a : Act} {w w' : World} (r : RelE c w0 T e s a w) (hb : Below w0.heap.size w w') (st : Step e e' w w') (hE : EnvOk e' w0.heap.size w')
  (hro : ∀ b, e'.ro b → e.ro b ∨ w.heap.size ≤ b) {m' : Mem} (hm : MemOk e' m' w') {nx' : Nat} (hl : ∀ k, e'.live k → k < nx') (dst : Option Nat) {av : AV} {v : Value} (hv : Rep e' w' av v) :
  RelE c w0 T e' { s with σ := setS s.σ dst av, m := m', nx := nx' } (a.put dst v) w' := by
 refine ⟨hE, r.below.trans hb, hm, hl, fun b hT => ⟨(r.foe b hT).1, fun h => ?_⟩, by rw [put_defers]; exact r.xt.step st, put_slots (r.slots.step st) dst hv⟩
 rcases hro b h with h | h
 ·exact (r.foe b hT).2 h
 ·have := (r.foe b hT).1; have := r.hB; omega
theorem runOp_sound {P : Program} {G : List (Nat × Spec)} {X : Ext} {c : Cx} (hG : SoundG P G) (hX : SoundX P X c) {o : Oper} {s : St} {R : St → Prop} (h : (runOp P G X o s).sat R) {w0 : World} {T : Nat → Prop} {e : Env} {a : Act} {w : World} (hΦ : c.Φ s.gh T w0) (r : RelE c w0 T e s a w)
  {ro : Option Nat} {n : Nat} {K : Act → World → Prop} {Q : Exit → Act → World → Prop} (hK : ∀ s' a' w', R s' → Rel c s' a' w' → K a' w') : o.wpIn (fr ro) n P a w K Q := by
 have hid : ¬ e.live s.nx := fun hl => by have := r.live _ hl; omega
 have lv : ∀ {e' : Env}, (∀ k, e'.live k → e.live k ∨ k = s.nx) → ∀ k, e'.live k → k < s.nx + 1 := by
  intro e' hlv k hk
  rcases hlv k hk with hk | rfl
  ·exact Nat.lt_succ_of_lt (r.live k hk)
  ·exact Nat.lt_succ_self _
 unfold runOp at h
 split at h
 ·rename_i ns val add ha
  replace h := Tree.sat_needT h
  refine wpIn_of_wp (notDefer_aop ha) (aop_sound hG ha (allP_mem h.1) r.env r.hB r.mem hid (rho_rep r.slots) (fun v w' hc => ?_))
  obtain ⟨e', hb, st, hE', ho, hrep, hm', hlv, hro⟩ := hc
  exact hK _ _ _ h.2 ⟨w0, T, e', hΦ, r.next (hb.mono r.hB) st hE' hro hm' (lv hlv) o.dst hrep⟩
 ·split at h
  ·rename_i ns val m' ha
   replace h := Tree.sat_needT h
   refine wpIn_of_wp (notDefer_aeff ha) (aeff_sound ha (allP_mem h.1) r.env r.hB r.mem hid (rho_rep r.slots) (fun v w' hc => ?_))
   obtain ⟨e', hb, st, hE', hrep, hm', hlv, hro⟩ := hc
   exact hK _ _ _ h.2 ⟨w0, T, e', hΦ, r.next hb st hE' (fun b h => .inl (hro b h)) hm' (lv hlv) o.dst hrep⟩
  ·split at h
   ·rename_i ns p v1 v2 ha
    replace h := Tree.sat_needT h
    obtain ⟨hn, h⟩ := h
    refine wpIn_of_wp (notDefer_aop2 ha) (aop2_sound ha (allP_mem hn) r.mem (rho_rep r.slots) (fun v hv => ?_))
    have keep : ∀ {av : AV}, Rep e w av v → Rel c { s with σ := setS s.σ o.dst av, nx := s.nx + 1 } (a.put o.dst v) w :=
     fun hrep => ⟨w0, T, e, hΦ, r.next (Below.refl _ _) (Step.refl e w) r.env (fun _ h => .inl h) r.mem (fun k hk => Nat.lt_succ_of_lt (r.live k hk)) o.dst hrep⟩
    rcases hv with ⟨hp, hv⟩ | hv
    ·exact hK _ _ _ (h.1 hp) (keep hv)
    ·exact hK _ _ _ h.2 (keep hv)
   ·split at h
    ·rename_i t ht
     obtain ⟨dst, op, type, pos, after, guard⟩ := o
     unfold opX at ht
     split at ht
     ·rename_i cl hop
      simp only at hop
      subst hop
      obtain ⟨callee, args, argTypes⟩ := cl
      have ha := RepL.ops (rho_rep r.slots) args.toList
      split at ht
      ·rename_i f hcal
       simp only at hcal
       subst hcal
       have hf := rho_rep r.slots f
       split at ht
       ·-- yield
        rename_i l hfe
        rw [hfe] at hf
        obtain ⟨us, us', hv, r1, r2⟩ := hf.fn_inv
        cases r1.nil_inv; cases r2.nil_inv
        split at ht
        ·rename_i l' N vals k vs hY hgh hsv hvs
         cases ht
         obtain ⟨hn, h⟩ := h
         obtain ⟨rfl, hkN, hvk⟩ : l = l' ∧ k < N ∧ vs = vals k := hn
         have hargs := valsOf_rep hvs ha
         rw [hgh] at hΦ
         obtain ⟨hst, hy⟩ := hX.y l N vals hY
         have hΦ' := hst k T w0 w hΦ (r.below)
         obtain ⟨fn, tmps, assign, body, hyr, hround⟩ := hy k T w (n - 1) hΦ' hkN
         refine ⟨fun f _ => trivial, ?_⟩
         have hsem : Oper.semAt (fr ro).round a.eval ⟨dst, .call ⟨.value f, args, argTypes⟩, type, pos, after, guard⟩ = execOp a.eval ⟨dst, .call ⟨.value f, args, argTypes⟩, type, pos, after, guard⟩ := Oper.semAt_eq _ _ _ (fun c h => by cases h)
         have e1 : (args.toList.map a.eval).toArray = args.map a.eval := Array.ext' (by simp)
         have hrun : (execOp a.eval ⟨dst, .call ⟨.value f, args, argTypes⟩, type, pos, after, guard⟩).run P w = .ok (.round l fn tmps assign body) w := by
          simp only [execOp, resolve, hv, Deferred.ofValue, Sem.run_bind, Sem.run_pure, Result.andThen_ok, invoke]
          rw [← hvk, ← hargs, e1] at hyr
          simpa using hyr
         rw [hsem, hrun]
         refine ⟨(fun h => by cases h), ?_⟩
         have hround' : RoundIn (fr ro) (n - 1) P l fn tmps assign body w _ := hround
         refine hround'.mono fun en w' hq => ?_
         obtain ⟨hsz, hkeep, T', hT', hres⟩ := hq
         let e2 : Env := { ro := e.view.ro, own := fun _ => none, live := fun _ => False, blk := fun _ => 0, val := fun _ => .nilIface }
         have hlt : ∀ b, e2.ro b → b < w.heap.size := by
          rintro b (h | ⟨id, h⟩)
          ·exact (r.env.apart b h).2
          ·exact (r.env.owned b id h).2
         have hnT : ∀ b, e2.ro b → ¬ T b := by
          rintro b (h | ⟨id, h⟩) hT
          ·exact (r.foe b hT).2 h
          ·have := (r.env.owned b id h).1; have := (r.foe b hT).1; omega
         have st2 : Step e2 e2 w w' := ⟨fun b hb hr => ⟨hr, hkeep b hb (hnT b hr)⟩, fun _ h => h.elim, hsz⟩
         have hview : RepL e2 w' (s.σ.map (viewA s.m 40)) a.tmps.toList :=
          (RepL.map (viewA s.m 40) (fun x v hx => Rep.idf (e := e.view) (e' := e2) (fun _ h => h) (viewA_rep r.env r.mem 40 x v hx) (viewA_idf r.mem 40 x v hx)) r.slots).step st2
         have hxt0 : Xt c e2 [] a.defers w := ⟨⟨fun d hd => by obtain ⟨D, h1, h2, h3, h4, h5⟩ := r.xt.defers.1 d hd; exact ⟨D, h1, .inl h2, h3, h4, h5⟩, r.xt.defers.2⟩, fun b o hb => by obtain ⟨h1, h2, h3⟩ := r.xt.kept b o hb; exact ⟨.inl h1, h2, h3⟩, by
          have := r.xt.saved.1
          rw [hsv] at this
          exact ⟨this, fun i a v h => by simp at h⟩, r.xt.size⟩
         have fin : ∀ (b : Bool) (g : Option Nat), c.Φ g T' w' → Rel c { σ := setS (s.σ.map (viewA s.m 40)) dst (.lit b), m := [], nx := 0, gh := g, sv := [] } (a.put dst (.bool b)) w' := by
          intro b g hg
          refine ⟨w', T', e2, hg, ⟨fun b hb => ⟨rfl, Nat.lt_of_lt_of_le (hlt b hb) hsz⟩, (fun b id h => by cases h)⟩, Below.refl _ _, (fun p hp => by cases hp), (fun k hk => hk.elim), fun b hb => ⟨(hT' b hb).1, fun hr => ?_⟩, by rw [put_defers]; exact hxt0.step st2, put_slots hview dst (.lit b)⟩
          rcases (hT' b hb).2 with h | h
          ·exact hnT b hr h
          ·have := hlt b hr; omega
         rcases hres with ⟨rfl, hg⟩ | ⟨rfl, hg⟩
         ·exact hK _ _ _ (h.1 trivial) (fin true _ hg)
         ·exact hK _ _ _ h.2 (fin false _ hg)
        ·cases ht
       ·-- a function by its contract
        rename_i g first caps hfe
        rw [hfe] at hf
        obtain ⟨us, us', hv, r1, r2⟩ := hf.fn_inv
        have hall : RepL e w (first ++ args.toList.map (rho s.σ) ++ caps) (us ++ args.toList.map a.eval ++ us') := (r1.append ha).append r2
        have hrun : Enters P g → (execOp a.eval ⟨dst, .call ⟨.value f, args, argTypes⟩, type, pos, after, guard⟩).run P w = .ok (.enter g (us ++ args.toList.map a.eval ++ us').toArray) w := by
         intro hent
         have e1 : (us ++ args.toList.map a.eval ++ us').toArray = us.toArray ++ args.map a.eval ++ us'.toArray := Array.ext' (by simp)
         simp only [execOp, resolve, hv, Deferred.ofValue, Sem.run_bind, Sem.run_pure, Result.andThen_ok, invoke]
         rw [e1]
         exact run_callFunc hent _ w
        split at ht
        ·rename_i sp hsp
         split at ht
         ·rename_i hidf
          split at ht
          ·rename_i ns res hres
           cases ht
           replace h := Tree.sat_needT h
           obtain ⟨hent, hs⟩ := hX.r _ (getG_mem hsp)
           have hidf' : ∀ x ∈ first ++ args.toList.map (rho s.σ) ++ caps, Idf x := by
            intro x hx
            obtain ⟨i, hi⟩ := List.mem_iff_getElem?.1 hx
            obtain ⟨v, _, rv⟩ := hall.get hi
            exact idfD_idf 6 x v rv (List.all_eq_true.1 hidf x hx)
           have hcall := hs _ _ _ hres (allP_mem h.1) e w _ (fun b hb => (r.env.apart b hb).2) hidf' hall
           refine wpIn_of_wp (fun c h => by cases h) ?_
           unfold Oper.wp
           rw [hrun hent, Oper.upon_enter]
           refine hcall.mono fun en w' hq => ?_
           obtain ⟨v, rfl, hb, hrep⟩ := hq
           have st : Step e (e.more w w') w w' := ⟨fun b hlt hr => ⟨.inl hr, hb.block b hlt⟩, fun _ h => ⟨h, rfl, rfl⟩, hb.size⟩
           have hE' : EnvOk (e.more w w') w0.heap.size w' := by
            refine ⟨?_, fun b k hk => ?_⟩
            ·rintro b (hr | ⟨h1, h2⟩)
             ·have := r.env.apart b hr; have := hb.size; exact ⟨(r.env.apart b hr).1, by omega⟩
             ·refine ⟨?_, h2⟩
              cases ho : (e.more w w').own b with
              | none => rfl
              | some k => have := (r.env.owned b k ho).2; omega
            ·have := r.env.owned b k hk; have := hb.size; exact ⟨(r.env.owned b k hk).1, by omega⟩
           have st2 : Step { freshE w w' with ro := (e.more w w').ro } (e.more w w') w' w' := ⟨fun b _ h => ⟨h, rfl⟩, fun _ h => False.elim h, Nat.le_refl _⟩
           exact hK _ _ _ h.2 ⟨w0, T, e.more w w', hΦ, r.next (hb.mono r.hB) st hE' (fun b h => h.imp (fun h => h) (fun h => h.1)) (r.mem.ext hb st (fun _ _ h => h)) (fun k hk => Nat.lt_succ_of_lt (r.live k hk)) dst (hrep.step st2)⟩
          ·cases ht
         ·cases ht
        ·split at ht
         ·rename_i hs hhs
          split at ht
          ·rename_i tr htr
           cases ht
           obtain ⟨hent, hsound⟩ := hX.h _ (getH_mem hhs)
           have hcall := hsound _ _ _ _ _ htr _ (Tree.sat_bind h) { c with saved := a.tmps.toList :: c.saved } w0 T e a.defers _ w r.env r.below r.mem r.live r.foe ⟨r.xt.defers, r.xt.kept, RepLL.cons r.slots r.xt.saved, r.xt.size⟩ hall
           refine wpIn_of_wp (fun c h => by cases h) ?_
           unfold Oper.wp
           rw [hrun hent, Oper.upon_enter]
           refine hcall.mono fun en w' hq => ?_
           obtain ⟨v, rr, m', nx', sv', e', rfl, hQ, hE', hB', hm', hl', hT', hx', hrep⟩ := hq
           obtain ⟨a1, l1, he1, hs1, hs2⟩ := hx'.saved.cons_inv
           subst he1
           unfold backS at hQ
           exact hK _ _ _ hQ ⟨w0, T, e', hΦ, hE', hB', hm', hl', hT', by rw [put_defers]; exact ⟨hx'.defers, hx'.kept, hs2, hx'.size⟩, put_slots hs1 dst hrep⟩
          ·cases ht
         ·split at ht
          ·rename_i sp hsp
           split at ht
           ·rename_i hidf
            split at ht
            ·rename_i tr htr
             cases ht
             obtain ⟨hent, hs⟩ := hX.c _ (getC_mem hsp)
             have hidf' : ∀ x ∈ first ++ args.toList.map (rho s.σ) ++ caps, Idf x := by
              intro x hx
              obtain ⟨i, hi⟩ := List.mem_iff_getElem?.1 hx
              obtain ⟨v, _, rv⟩ := hall.get hi
              exact idfD_idf 6 x v rv (List.all_eq_true.1 hidf x hx)
             have hcall := hs _ _ htr _ (Tree.sat_bind h) e w _ (fun b hb => (r.env.apart b hb).2) hidf' hall
             refine wpIn_of_wp (fun c h => by cases h) ?_
             unfold Oper.wp
             rw [hrun hent, Oper.upon_enter]
             refine hcall.mono fun en w' hq => ?_
             obtain ⟨v, rr, rfl, hQ, hb, hrep⟩ := hq
             have st : Step e (e.more w w') w w' := ⟨fun b hlt hr => ⟨.inl hr, hb.block b hlt⟩, fun _ h => ⟨h, rfl, rfl⟩, hb.size⟩
             have hE' : EnvOk (e.more w w') w0.heap.size w' := by
              refine ⟨?_, fun b k hk => ?_⟩
              ·rintro b (hr | ⟨h1, h2⟩)
               ·have := r.env.apart b hr; have := hb.size; exact ⟨(r.env.apart b hr).1, by omega⟩
               ·refine ⟨?_, h2⟩
                cases ho : (e.more w w').own b with
                | none => rfl
                | some k => have := (r.env.owned b k ho).2; omega
              ·have := r.env.owned b k hk; have := hb.size; exact ⟨(r.env.owned b k hk).1, by omega⟩
             have st2 : Step { freshE w w' with ro := (e.more w w').ro } (e.more w w') w' w' := ⟨fun b _ h => ⟨h, rfl⟩, fun _ h => False.elim h, Nat.le_refl _⟩
             exact hK _ _ _ hQ ⟨w0, T, e.more w w', hΦ, r.next (hb.mono r.hB) st hE' (fun b h => h.imp (fun h => h) (fun h => h.1)) (r.mem.ext hb st (fun _ _ h => h)) (fun k hk => Nat.lt_succ_of_lt (r.live k hk)) dst (hrep.step st2)⟩
            ·cases ht
           ·cases ht
          ·cases ht
       ·cases ht
      ·cases ht
     ·cases ht
    ·exact h.elim
def skipOp (o : Oper) (s : St) : St := { s with σ := setS s.σ o.dst (.tup []) }
theorem undef_rep (e : Env) (w : World) : Rep e w (.tup []) undef := Rep.tupL (RepL.nil e w)
theorem skip_rel {c : Cx} {w0 : World} {T : Nat → Prop} {e : Env} {o : Oper} {s : St} {a : Act} {w : World} (r : RelE c w0 T e s a w) : RelE c w0 T e (skipOp o s) (a.put o.dst undef) w :=
 ⟨r.env, r.below, r.mem, r.live, r.foe, by rw [put_defers]; exact r.xt, put_slots r.slots o.dst (undef_rep _ _)⟩
def litS (s : St) (t : Nat) (b : Bool) : St := { s with σ := s.σ.set t (.lit b) }
theorem lit_rel {c : Cx} {w0 : World} {T : Nat → Prop} {e : Env} {s : St} {a : Act} {w : World} {t : Nat} {b d : Bool} (r : RelE c w0 T e s a w) (ht : s.σ.getD t .top = .x (.bool b)) (hb : b = d) : RelE c w0 T e (litS s t d) a w := by
 refine ⟨r.env, r.below, r.mem, r.live, r.foe, r.xt, ?_⟩
 have hlt : t < s.σ.length := by
  rcases Nat.lt_or_ge t s.σ.length with h | h
  ·exact h
  ·rw [List.getD, List.getElem?_eq_none h] at ht; cases ht
 obtain ⟨v, hv, rv⟩ := r.slots.get (List.getElem?_eq_getElem hlt)
 have he : s.σ[t] = .x (.bool b) := by simpa [List.getD, List.getElem?_eq_getElem hlt] using ht
 rw [he] at rv
 cases rv.x_inv
 have := r.slots.set (a := .lit d) (v := .bool b) (by rw [← hb]; exact .lit b) t
 have hset : a.tmps.toList.set t (.bool b) = a.tmps.toList := by
  apply List.ext_getElem?
  intro i
  rw [List.getElem?_set]
  split
  ·rename_i hti; subst hti; split
   ·exact hv.symm
   ·rename_i hnl; rw [List.getElem?_eq_none (by omega)]
  ·rfl
 rw [hset] at this
 exact this
def pickOf : Op → Option Nat
 | .pick (.tmp t) _ _ => some t
 | _ => none
def settle (s : St) (t : Option Nat) (g : St → Tree St) : Tree St :=
 match t with
 | none => g s
 | some t => match s.σ.getD t .top with
  | .x (.bool b) => .branch b (g (litS s t true)) (g (litS s t false))
  | _ => g s
theorem settle_sound {c : Cx} {w0 : World} {T : Nat → Prop} {e : Env} {s : St} {t : Option Nat} {g : St → Tree St} {R : St → Prop} (h : (settle s t g).sat R) {a : Act} {w : World} (r : RelE c w0 T e s a w) : ∃ s', RelE c w0 T e s' a w ∧ (g s').sat R ∧ s'.gh = s.gh := by
 unfold settle at h
 split at h
 ·exact ⟨s, r, h, rfl⟩
 ·split at h
  ·rename_i b hb
   cases b
   ·exact ⟨_, lit_rel r hb rfl, h.2 rfl, rfl⟩
   ·exact ⟨_, lit_rel r hb rfl, h.1 rfl, rfl⟩
  ·exact ⟨s, r, h, rfl⟩
def guardSlot (ops : List Oper) (o : Oper) : Option Nat :=
 match o.guard with
 | none => none
 | some (j, _) => match ops[j]? with
  | some p => p.dst
  | none => none
def frzA (i sz n : Nat) (f : Nat → List AV) : Nat → AV → AV
 | 0, a => match a with
  | .lit b => .lit b
  | .x v => .x v
  | .ro l => .ro l
  | .lst a b c => .lst a b c
  | .roI a b c d => .roI a b c d
  | _ => .top
 | d + 1, a => match a with
  | .row k => match Nat.beq k i with
   | true => .lst sz n f
   | false => .row k
  | .ptr k o => match Nat.beq k i with
   | true => .top
   | false => .ptr k o
  | .elt k x y z => match Nat.beq k i with
   | true => .top
   | false => .elt k x y z
  | .mp k => match Nat.beq k i with
   | true => .top
   | false => .mp k
  | .agg l => .agg (l.map (frzA i sz n f d))
  | .tup l => .tup (l.map (frzA i sz n f d))
  | .fn g l l' => .fn g (l.map (frzA i sz n f d)) (l'.map (frzA i sz n f d))
  | a => a
def Env.frz (e : Env) (i : Nat) : Env :=
 {ro := fun b => e.ro b ∨ e.own b = some i, own := fun b => match e.own b with | some k => if k = i then none else some k | none => none,
  live := fun k => e.live k ∧ k ≠ i, blk := e.blk, val := e.val }
theorem beqN_ne {k i : Nat} (h : Nat.beq k i = false) : k ≠ i := by
 intro h2
 subst h2
 rw [Nat.beq_refl] at h
 cases h
theorem row_view {e e2 : Env} {B : Nat} {w : World} {i T sz n : Nat} {f : Nat → List AV} (hE : EnvOk e B w) (hh : Holds e w i (.row T sz n f)) (g1 : ∀ b, e.ro b → e2.ro b) (g2 : ∀ b, e.own b = some i → e2.ro b) : Rep e2 w (.lst sz n f) (e.val i) := by
 obtain ⟨_, hown, hf, xs, hx, hrep⟩ := hh
 rcases hx.2 with ⟨hv0, hn0⟩ | ⟨g, cap, cur, hv0, _, hgg, hnc, hcm, hcs, htake⟩
 ·rw [hv0]; subst hn0; exact .lstNil _ _
 ·have hob : e.own g = some i := hown g (by rw [hv0]; rfl)
  have hlt := (hE.owned _ _ hob).2
  have hv1 := hv0
  rw [hv0]
  refine Rep.lst (e := e2) (w := w) sz _ _ g 0 _ (fun i j => xs.getD (i * sz + j) .nilIface) (fun _ => g2 g hob) (fun _ => hlt) (fun i hi => (hf i hi).2) hnc hcm ?_ (fun i hi => (hf i hi).1) ?_ _ (fun _ => rfl)
  ·intro i j hi hj
   have hle : i * sz + sz ≤ n * sz := by
    have := Nat.mul_le_mul_right sz (Nat.succ_le_of_lt hi)
    rwa [Nat.succ_mul] at this
   have hlt2 : i * sz + j < xs.length := by rw [hx.1]; omega
   have hc := hx.cells (g := g) (by rw [hv1]; rfl) (i * sz + j) xs[i * sz + j] (List.getElem?_eq_getElem hlt2)
   rw [addrAdd] at hc
   rw [hc]
   simp [List.getD, List.getElem?_eq_getElem hlt2]
  ·intro q j a ha' ha
   have hj : j < sz := by rw [← (hf q ha').1]; exact (List.getElem?_eq_some_iff.1 ha).1
   have hle : q * sz + sz ≤ n * sz := by
    have := Nat.mul_le_mul_right sz (Nat.succ_le_of_lt ha')
    rwa [Nat.succ_mul] at this
   have hlt2 : q * sz + j < xs.length := by rw [hx.1]; omega
   have := hrep q j a xs[q * sz + j] ha' ha (List.getElem?_eq_getElem hlt2)
   simp only [List.getD, List.getElem?_eq_getElem hlt2, Option.getD_some]
   exact Rep.idf g1 this ((hf q ha').2 a (List.mem_of_getElem? ha))
theorem row_frz {e : Env} {B : Nat} {w : World} {i T sz n : Nat} {f : Nat → List AV} (hE : EnvOk e B w) (hh : Holds e w i (.row T sz n f)) : Rep (e.frz i) w (.lst sz n f) (e.val i) := row_view hE hh (fun _ h => .inl h) (fun _ h => .inr h)
def Env.sol (e : Env) (i : Nat) : Env := { e with ro := fun b => e.ro b ∨ e.own b = some i, own := fun b => match e.own b with | some k => if k = i then none else some k | none => none }
theorem Step.sol (e : Env) (i : Nat) (w : World) : Step e (e.sol i) w w := ⟨fun _ _ h => ⟨.inl h, rfl⟩, fun _ h => ⟨h, rfl, rfl⟩, Nat.le_refl _⟩
theorem EnvOk.sol {e : Env} {B : Nat} {w : World} (h : EnvOk e B w) (i : Nat) : EnvOk (e.sol i) B w := by
 refine ⟨fun b hb => ?_, fun b k hk => ?_⟩
 ·rcases hb with hb | hb
  ·obtain ⟨h1, h2⟩ := h.apart b hb
   exact ⟨by simp [Env.sol, h1], h2⟩
  ·exact ⟨by simp [Env.sol, hb], (h.owned b i hb).2⟩
 ·simp only [Env.sol] at hk
  cases ho : e.own b with
  | none => rw [ho] at hk; cases hk
  | some j => exact h.owned b j ho
theorem Holds.sol {e : Env} {w : World} {i k : Nat} {r : Res} (hne : k ≠ i ∧ akaOf i r = false) (h : Holds e w k r) : Holds (e.sol i) w k r := by
 obtain ⟨hne, hak⟩ := hne
 have st := Step.sol e i w
 cases r with
 | cells T l =>
  obtain ⟨h1, h2, vs, h3, h4⟩ := h
  exact ⟨h1, by simp [Env.sol, h2, hne], vs, h3, h4.step st⟩
 | row T sz n f =>
  obtain ⟨h1, h2, hf, xs, h3, h4⟩ := h
  refine ⟨h1, fun b hb => ?_, hf, xs, h3, fun i j a v hi ha hv => (h4 i j a v hi ha hv).step st⟩
  have := h2 b hb
  simp [Env.sol, this, hne]
 | ints T pre n f =>
  obtain ⟨h1, h2, vs, h3, h4⟩ := h
  exact ⟨h1, by simp [Env.sol, h2, hne], vs, h3, h4.step st⟩
 | memo g f =>
  obtain ⟨h1, h2, es, c, h3, h4⟩ := h
  exact ⟨h1, by simp [Env.sol, h2, hne], es, c, h3, h4⟩
 | aka r T sz n f =>
  obtain ⟨h1, h0, o, hor, h2, hf, xs, h3, h4⟩ := h
  refine ⟨h1, h0, o, hor, fun b hb => ?_, hf, xs, h3, fun i j a v hi ha hv => (h4 i j a v hi ha hv).step st⟩
  have := h2 b hb
  have ho : o ≠ i := by
   rcases hor with rfl | rfl
   ·exact hne
   ·rintro rfl
    simp [akaOf] at hak
  simp [Env.sol, this, ho]
theorem rep_frz {e : Env} {B : Nat} {w : World} {i T sz n : Nat} {f : Nat → List AV} (hE : EnvOk e B w) (hh : Holds e w i (.row T sz n f)) : ∀ (d : Nat) (a : AV) (v : Value), Rep e w a v → Rep (e.frz i) w (frzA i sz n f d a) v
 | 0, a, v, r => by
  have hro : ∀ b, e.ro b → (e.frz i).ro b := fun _ h => .inl h
  cases r with
  | lit b => exact .lit b
  | x v => exact .x v
  | roI pre n f off b o hr => exact Rep.idf hro (.roI pre n f off b o hr) (idf_of (Rep.roI pre n f off b o hr) rfl)
  | ro l vs b o h1 h2 h3 h4 h5 h6 => exact Rep.idf hro (.ro l vs b o h1 h2 h3 h4 h5 h6) (.ro l h3)
  | lstNil sz f => exact .lstNil sz f
  | lst sz n f b o cap g h1 h2 h3 h4 h5 h6 h7 h8 ad had => exact Rep.idf hro (.lst sz n f b o cap g h1 h2 h3 h4 h5 h6 h7 h8 ad had) (.lst sz n f h3)
  | _ => exact .top _
 | d + 1, a, v, r => by
  have hro : ∀ b, e.ro b → (e.frz i).ro b := fun _ h => .inl h
  have ih := rep_frz hE hh d
  cases r with
  | top v => exact .top v
  | lit b => exact .lit b
  | x v => exact .x v
  | roI pre n f off b o hr => exact Rep.idf hro (.roI pre n f off b o hr) (idf_of (Rep.roI pre n f off b o hr) rfl)
  | ptr id off hl =>
   simp only [frzA]
   split
   ·exact .top _
   ·rename_i hb
    exact .ptr (e := e.frz i) id off ⟨hl, beqN_ne hb⟩
  | row id a n c hl hv =>
   simp only [frzA]
   split
   ·rename_i hb
    have := Nat.eq_of_beq_eq_true hb
    subst this
    rw [← hv]
    exact row_frz hE hh
   ·rename_i hb
    exact .row (e := e.frz i) id a n c ⟨hl, beqN_ne hb⟩ hv
  | elt id sz x y b n cap hl hv =>
   simp only [frzA]
   split
   ·exact .top _
   ·rename_i hb
    exact .elt (e := e.frz i) id sz x y b n cap ⟨hl, beqN_ne hb⟩ hv
  | mp id hl =>
   simp only [frzA]
   split
   ·exact .top _
   ·rename_i hb
    exact .mp (e := e.frz i) id ⟨hl, beqN_ne hb⟩
  | agg l vs h1 h2 => exact Rep.aggL (RepL.map _ ih ⟨h1, h2⟩)
  | tup l vs h1 h2 => exact Rep.tupL (RepL.map _ ih ⟨h1, h2⟩)
  | fn f l l' vs vs' h1 h2 h3 h4 =>
   have k1 : RepL e w l vs := ⟨h1, h2⟩
   have k2 : RepL e w l' vs' := ⟨h3, h4⟩
   exact .fn f _ _ vs vs' (RepL.map _ ih k1).1 (RepL.map _ ih k1).2 (RepL.map _ ih k2).1 (RepL.map _ ih k2).2
  | ro l vs b o h1 h2 h3 h4 h5 h6 => exact Rep.idf hro (.ro l vs b o h1 h2 h3 h4 h5 h6) (.ro l h3)
  | lstNil sz f => exact .lstNil sz f
  | lst sz n f b o cap g h1 h2 h3 h4 h5 h6 h7 h8 ad had => exact Rep.idf hro (.lst sz n f b o cap g h1 h2 h3 h4 h5 h6 h7 h8 ad had) (.lst sz n f h3)
def frzM (i sz n : Nat) (f : Nat → List AV) : Mem → Mem
 | [] => []
 | (k, r) :: t => match Nat.beq k i || akaOf i r with
  | true => frzM i sz n f t
  | false => (k, match r with
   | .cells T l => .cells T (l.map (frzA i sz n f 6))
   | .ints T pre m g => .ints T (pre.map (frzA i sz n f 6)) m g
   | r => r) :: frzM i sz n f t
theorem mem_frz {e : Env} {B : Nat} {w : World} {i T sz n : Nat} {f : Nat → List AV} (hE : EnvOk e B w) (hh : Holds e w i (.row T sz n f)) : ∀ {m : Mem}, MemOk e m w → MemOk (e.frz i) (frzM i sz n f m) w
 | [], _ => fun p hp => by cases hp
 | (k, r) :: t, h => by
  have ih := mem_frz hE hh (m := t) (fun p hp => h p (List.mem_cons_of_mem _ hp))
  have hk := h _ List.mem_cons_self
  unfold frzM
  split
  ·exact ih
  ·rename_i hb
   rw [Bool.or_eq_false_iff] at hb
   obtain ⟨hb, hak⟩ := hb
   have hne := beqN_ne hb
   intro p hp
   rcases List.mem_cons.1 hp with rfl | hp
   ·cases r with
    | aka r T' sz' n' f' =>
     obtain ⟨h1, h0, o, hor, h2, hf, xs, h3, h4⟩ := hk
     refine ⟨⟨h1, hne⟩, ⟨h0, beqN_ne hak⟩, o, hor, fun b hb' => ?_, hf, xs, h3, fun i' j a v hi ha hv => Rep.idf (e := e) (e' := e.frz i) (fun _ h => Or.inl h) (h4 i' j a v hi ha hv) ((hf i' hi).2 a (List.mem_of_getElem? ha))⟩
     have := h2 b hb'
     have ho : o ≠ i := by
      rcases hor with rfl | rfl
      ·exact hne
      ·exact beqN_ne hak
     simp [Env.frz, this, ho]
    | row T' sz' n' f' =>
     obtain ⟨h1, h2, hf, xs, h3, h4⟩ := hk
     refine ⟨⟨h1, hne⟩, fun b hb' => ?_, hf, xs, h3, fun i' j a v hi ha hv => Rep.idf (e := e) (e' := e.frz i) (fun _ h => Or.inl h) (h4 i' j a v hi ha hv) ((hf i' hi).2 a (List.mem_of_getElem? ha))⟩
     have := h2 b hb'
     simp [Env.frz, this, hne]
    | cells T' l =>
     obtain ⟨h1, h2, vs, h3, h4⟩ := hk
     refine ⟨⟨h1, hne⟩, ?_, vs, h3, RepL.map _ (rep_frz hE hh 6) h4⟩
     simp only at h2
     simp [Env.frz, h2, hne]
    | ints T' pre m g =>
     obtain ⟨h1, h2, vs, h3, h4⟩ := hk
     refine ⟨⟨h1, hne⟩, ?_, vs, h3, ?_⟩
     ·simp only at h2
      simp [Env.frz, h2, hne]
     ·have := RepL.map _ (rep_frz hE hh 6) h4
      rw [List.map_append] at this
      have hL : (intsL m g).map (frzA i sz n f 6) = intsL m g := by
       unfold intsL
       rw [List.map_map]
       rfl
      rw [hL] at this
      exact this
    | memo g f' =>
     obtain ⟨h1, h2, es, c, h3, h4⟩ := hk
     refine ⟨⟨h1, hne⟩, ?_, es, c, h3, h4⟩
     simp only at h2
     simp [Env.frz, h2, hne]
   ·exact ih p hp
def frzS (i : Nat) (s : St) : St := match getM s.m i with
 | some (.row _ sz n f) => { s with σ := s.σ.map (frzA i sz n f 6), m := frzM i sz n f s.m, sv := s.sv.map (·.map (frzA i sz n f 6)) }
 | _ => s
theorem frz_relE {c : Cx} {w0 : World} {F : Nat → Prop} {e : Env} {i : Nat} {s : St} {a : Act} {w : World} (r : RelE c w0 F e s a w) : ∃ e', RelE c w0 F e' (frzS i s) a w := by
 unfold frzS
 split
 ·rename_i T sz n f hg
  have hh := r.mem _ (getM_mem hg)
  have rp := rep_frz r.env hh 6
  refine ⟨e.frz i, ⟨fun b hb => ?_, fun b k hk => ?_⟩, r.below, mem_frz r.env hh r.mem, fun k hk => r.live k hk.1, fun b hb => ⟨(r.foe b hb).1, fun hr => ?_⟩, ⟨⟨fun d hd => ?_, r.xt.defers.2⟩, fun b o hk => ?_, RepLL.map _ rp r.xt.saved, r.xt.size⟩, RepL.map _ rp r.slots⟩
  ·rcases hb with hb | hb
   ·obtain ⟨h1, h2⟩ := r.env.apart b hb
    exact ⟨by simp [Env.frz, h1], h2⟩
   ·exact ⟨by simp [Env.frz, hb], (r.env.owned b i hb).2⟩
  ·simp only [Env.frz] at hk
   cases ho : e.own b with
   | none => rw [ho] at hk; cases hk
   | some j => exact r.env.owned b j ho
  ·rcases hr with hr | hr
   ·exact (r.foe b hb).2 hr
   ·have := (r.env.owned b i hr).1
    have := (r.foe b hb).1
    omega
  ·obtain ⟨D, g1, g2, g3⟩ := r.xt.defers.1 d hd
   exact ⟨D, g1, .inl g2, g3⟩
  ·obtain ⟨g1, g2⟩ := r.xt.kept b o hk
   exact ⟨.inl g1, g2⟩
 ·exact ⟨e, r⟩
def frzAll : List Nat → St → St
 | [], s => s
 | i :: l, s => frzAll l (frzS i s)
theorem frzAll_relE {c : Cx} {w0 : World} {F : Nat → Prop} {a : Act} {w : World} : ∀ (l : List Nat) {e : Env} {s : St}, RelE c w0 F e s a w → ∃ e', RelE c w0 F e' (frzAll l s) a w
 | [], e, _, r => ⟨e, r⟩
 | i :: l, _, _, r => by
  obtain ⟨e1, r1⟩ := frz_relE (i := i) r
  exact frzAll_relE l r1
theorem frzS_gh (i : Nat) (s : St) : (frzS i s).gh = s.gh := by unfold frzS; split <;> rfl
theorem frzAll_gh : ∀ (l : List Nat) (s : St), (frzAll l s).gh = s.gh
 | [], _ => rfl
 | i :: l, s => by rw [frzAll, frzAll_gh l, frzS_gh]
def rowsIn : Nat → AV → List Nat
 | 0, _ => []
 | d + 1, a => match a with
  | .row k => [k]
  | .agg l => l.flatMap (rowsIn d)
  | .tup l => l.flatMap (rowsIn d)
  | _ => []
def frzPre (X : Ext) (o : Oper) (s : St) : St :=
 match o.op with
 | .buildSlice _ _ parts => frzAll (parts.toList.flatMap fun p => rowsIn 3 (rho s.σ p.2)) s
 | .store _ x y => match rho s.σ x with
  | .elt _ _ _ _ => frzAll (rowsIn 3 (rho s.σ y)) s
  | _ => s
 | .call c => match c.callee with
  | .value f => match rho s.σ f with
   | .fn (.func g) _ _ => match getG X.R g with
    | some _ => frzAll (c.args.toList.flatMap fun x => rowsIn 3 (rho s.σ x)) s
    | none => match getC X.C g with
     | some _ => frzAll (c.args.toList.flatMap fun x => rowsIn 3 (rho s.σ x)) s
     | none => s
   | _ => s
  | _ => s
 | _ => s
theorem frzPre_eq (X : Ext) (o : Oper) (s : St) : ∃ l, frzPre X o s = frzAll l s := by
 unfold frzPre
 split
 ·exact ⟨_, rfl⟩
 ·split
  ·exact ⟨_, rfl⟩
  ·exact ⟨[], rfl⟩
 ·split
  ·split
   ·split
    ·exact ⟨_, rfl⟩
    ·split
     ·exact ⟨_, rfl⟩
     ·exact ⟨[], rfl⟩
   ·exact ⟨[], rfl⟩
  ·exact ⟨[], rfl⟩
 ·exact ⟨[], rfl⟩
theorem frzPre_relE {X : Ext} {o : Oper} {c : Cx} {w0 : World} {F : Nat → Prop} {e : Env} {s : St} {a : Act} {w : World} (r : RelE c w0 F e s a w) : ∃ e', RelE c w0 F e' (frzPre X o s) a w := by
 obtain ⟨l, hl⟩ := frzPre_eq X o s
 rw [hl]
 exact frzAll_relE l r
theorem frzPre_gh (X : Ext) (o : Oper) (s : St) : (frzPre X o s).gh = s.gh := by
 obtain ⟨l, hl⟩ := frzPre_eq X o s
 rw [hl, frzAll_gh]
def runOpF (P : Program) (G : List (Nat × Spec)) (X : Ext) (o : Oper) (s : St) : Tree St := runOp P G X o (frzPre X o s)
theorem runOpF_sound {P : Program} {G : List (Nat × Spec)} {X : Ext} {c : Cx} (hG : SoundG P G) (hX : SoundX P X c) {o : Oper} {s : St} {R : St → Prop} (h : (runOpF P G X o s).sat R) {w0 : World} {T : Nat → Prop} {e : Env} {a : Act} {w : World} (hΦ : c.Φ s.gh T w0) (r : RelE c w0 T e s a w)
  {ro : Option Nat} {n : Nat} {K : Act → World → Prop} {Q : Exit → Act → World → Prop} (hK : ∀ s' a' w', R s' → Rel c s' a' w' → K a' w') : o.wpIn (fr ro) n P a w K Q := by
 obtain ⟨e', r'⟩ := frzPre_relE (X := X) (o := o) r
 exact runOp_sound hG hX h (by rw [frzPre_gh]; exact hΦ) r' hK
def opTree (P : Program) (G : List (Nat × Spec)) (X : Ext) (ops : List Oper) (o : Oper) (s : St) : Tree St :=
 match o.guard with
 | none => settle s (pickOf o.op) (runOpF P G X o)
 | some (_, want) => settle s (guardSlot ops o) fun s => match (match guardSlot ops o with | some t => s.σ.getD t .top | none => .top) with
  | .lit b => match b == want with
   | true => settle s (pickOf o.op) (runOpF P G X o)
   | false => .leaf (skipOp o s)
  | .tup _ => .leaf (skipOp o s)
  | _ => .fail
theorem yielded_lit {e : Env} {w : World} {ops : Array Oper} {σ : List AV} {a : Act} {j t : Nat} {p : Oper} {b : Bool} (h : RepL e w σ a.tmps.toList) (hp : ops[j]? = some p) (hd : p.dst = some t) (hl : σ.getD t .top = .lit b) : yielded ops a.tmps j = some b := by
 have hr := rho_rep h (.tmp t)
 simp only [rho, hl] at hr
 have := hr.lit_inv
 simp only [Act.eval] at this
 have hg : a.tmps[t]? = some (.bool b) := by
  cases hq : a.tmps[t]? with
  | none => rw [Array.getD_eq_getD_getElem?, hq] at this; simp [undef] at this
  | some v => rw [Array.getD_eq_getD_getElem?, hq] at this; simpa using this
 unfold yielded
 simp [hp, hd, hg]
theorem yielded_tup {e : Env} {w : World} {ops : Array Oper} {σ : List AV} {a : Act} {j t : Nat} {p : Oper} {l : List AV} (h : RepL e w σ a.tmps.toList) (hp : ops[j]? = some p) (hd : p.dst = some t) (hl : σ.getD t .top = .tup l) : yielded ops a.tmps j = none := by
 have hr := rho_rep h (.tmp t)
 simp only [rho, hl] at hr
 obtain ⟨vs, hv, _⟩ := hr.tup_inv
 simp only [Act.eval] at hv
 unfold yielded
 simp only [hp, hd, Option.bind_some]
 cases hq : a.tmps[t]? with
 | none => rfl
 | some v =>
  rw [Array.getD_eq_getD_getElem?, hq] at hv
  simp only [Option.getD_some] at hv
  subst hv
  rfl
theorem opTree_sound {P : Program} {G : List (Nat × Spec)} {X : Ext} {c : Cx} (hG : SoundG P G) (hX : SoundX P X c) {ro : Option Nat} {n : Nat} {ops : Array Oper} {i : Nat} {o : Oper} (ho : ops[i]? = some o) {s : St} {R : St → Prop} (h : (opTree P G X ops.toList o s).sat R) {a : Act} {w : World} (r : Rel c s a w)
  {K : Act → World → Prop} {Q : Exit → Act → World → Prop} (hK : ∀ s' a' w', R s' → Rel c s' a' w' → K a' w') : wpOpIn (fr ro) n P ops Q i K a w := by
 obtain ⟨w0, T, e, hΦ, r⟩ := r
 unfold wpOpIn
 simp only [ho]
 unfold opTree at h
 split at h
 ·rename_i hg
  obtain ⟨s1, r1, h1, hg1⟩ := settle_sound h r
  rw [if_pos (by simp [Region.wanted, hg])]
  exact runOpF_sound hG hX h1 (by rw [hg1]; exact hΦ) r1 hK
 ·rename_i j want hg
  obtain ⟨s1, r1, h1, hg1⟩ := settle_sound h r
  unfold guardSlot at h1
  simp only [hg] at h1
  cases hp : ops.toList[j]? with
  | none => simp only [hp] at h1; exact h1.elim
  | some p =>
   simp only [hp] at h1
   cases hd : p.dst with
   | none => simp only [hd] at h1; exact h1.elim
   | some t =>
    simp only [hd] at h1
    split at h1
    ·rename_i b hb
     have hy := yielded_lit (ops := ops) r1.slots (by simpa using hp) hd hb
     split at h1
     ·rename_i hbw
      obtain ⟨s2, r2, h2, hg2⟩ := settle_sound h1 r1
      have hw : Region.wanted o (yielded ops a.tmps) = true := by
       simp only [Region.wanted, hg, hy]
       simpa using hbw
      rw [if_pos hw]
      exact runOpF_sound hG hX h2 (by rw [hg2, hg1]; exact hΦ) r2 hK
     ·rename_i hbw
      have hw : ¬ Region.wanted o (yielded ops a.tmps) = true := by
       simp only [Region.wanted, hg, hy]
       simpa using hbw
      rw [if_neg hw]
      exact ⟨fun _ _ => trivial, hK _ _ _ h1 ⟨w0, T, e, by rw [show (skipOp o s1).gh = s1.gh from rfl, hg1]; exact hΦ, skip_rel r1⟩⟩
    ·rename_i l hb
     have hy := yielded_tup (ops := ops) r1.slots (by simpa using hp) hd hb
     have hw : ¬ Region.wanted o (yielded ops a.tmps) = true := by
      simp [Region.wanted, hg, hy]
     rw [if_neg hw]
     exact ⟨fun _ _ => trivial, hK _ _ _ h1 ⟨w0, T, e, by rw [show (skipOp o s1).gh = s1.gh from rfl, hg1]; exact hΦ, skip_rel r1⟩⟩
    ·exact h1.elim
def regT (P : Program) (G : List (Nat × Spec)) (X : Ext) (ops : List Oper) : List Oper → St → Tree St
 | [], s => .leaf s
 | o :: rest, s => (opTree P G X ops o s).bind (regT P G X ops rest)
theorem regT_sound {P : Program} {G : List (Nat × Spec)} {X : Ext} {c : Cx} (hG : SoundG P G) (hX : SoundX P X c) {ro : Option Nat} {n : Nat} {ops : Array Oper} {Q : Exit → Act → World → Prop} {R : St → Prop} (hQ : ∀ s a w, R s → Rel c s a w → Q .normal a w) :
  ∀ (l : List Oper) (k : Nat), l = ops.toList.drop k → ∀ (s : St) (a : Act) (w : World), (regT P G X ops.toList l s).sat R → Rel c s a w → wpOpsIn (fr ro) n P ops Q (List.range' k (ops.size - k)) a w
 | [], k, hk, s, a, w, h, r => by
  have hlen : ops.size - k = 0 := by
   have := congrArg List.length hk
   simp at this; omega
  rw [hlen]
  exact hQ s a w h r
 | o :: rest, k, hk, s, a, w, h, r => by
  have hlt : k < ops.size := by
   have := congrArg List.length hk
   simp at this; omega
  have hok : ops[k]? = some o := by
   have := congrArg (·[0]?) hk
   simp at this
   exact this.symm
  have hrest : rest = ops.toList.drop (k + 1) := by
   have := congrArg List.tail hk
   simpa using this
  have e1 : ops.size - k = (ops.size - (k + 1)) + 1 := by omega
  rw [e1, List.range'_succ, wpOpsIn_cons]
  exact opTree_sound hG hX hok (Tree.sat_bind h) r (fun s' a' w' hs' hr' => regT_sound hG hX hQ rest (k + 1) hrest s' a' w' hs' hr')
end Go.Sx
namespace Go.Sx
open Go Go.RowKit
def directP (o : Oper) : List Nat := (o.after.toList.filter (Region.binds .any)).map (·.on)
def maskOf (acc : List Nat) (o : Oper) : Nat := (directP o).foldl (fun s j => s ||| (1 <<< j) ||| acc.getD j 0) 0
def masks : List Oper → List Nat → List Nat
 | [], acc => acc
 | o :: os, acc => masks os (acc ++ [maskOf acc o])
theorem masks_pre : ∀ (os : List Oper) (acc : List Nat) (k : Nat), k < acc.length → (masks os acc).getD k 0 = acc.getD k 0
 | [], _, _, _ => rfl
 | o :: os, acc, k, h => by
  rw [masks, masks_pre os _ k (by simp; omega)]
  simp [List.getD, List.getElem?_append, h]
theorem masks_at : ∀ (os : List Oper) (acc : List Nat) (i : Nat) (o : Oper), os[i]? = some o → ∃ acc', (masks os acc).getD (acc.length + i) 0 = maskOf acc' o ∧ acc'.length = acc.length + i ∧ ∀ j, j < acc.length + i → acc'.getD j 0 = (masks os acc).getD j 0
 | [], _, _, _, h => by simp at h
 | o' :: os, acc, 0, o, h => by
  simp at h; subst h
  refine ⟨acc, ?_, by simp, fun j hj => ?_⟩
  ·rw [masks, masks_pre os _ _ (by simp)]
   simp [List.getD]
  ·rw [masks, masks_pre os _ j (by simp; omega)]
   simp only [Nat.add_zero] at hj
   simp [List.getD, List.getElem?_append, hj]
 | o' :: os, acc, i + 1, o, h => by
  simp at h
  obtain ⟨acc', h1, h2, h3⟩ := masks_at os (acc ++ [maskOf acc o']) i o h
  have e1 : (acc ++ [maskOf acc o']).length + i = acc.length + (i + 1) := by simp; omega
  rw [e1] at h1 h2 h3
  exact ⟨acc', h1, h2, h3⟩
theorem fold_bit {A : Nat → Nat} : ∀ (l : List Nat) (s i : Nat), (l.foldl (fun s j => s ||| (1 <<< j) ||| A j) s).testBit i = true → s.testBit i = true ∨ ∃ j ∈ l, i = j ∨ (A j).testBit i = true
 | [], s, i, h => .inl h
 | j :: l, s, i, h => by
  rcases fold_bit l _ i h with h | ⟨j', hj', h⟩
  ·rw [Nat.testBit_or, Nat.testBit_or, Bool.or_eq_true, Bool.or_eq_true] at h
   rcases h with (h | h) | h
   ·exact .inl h
   ·refine .inr ⟨j, List.mem_cons_self, .inl ?_⟩
    rw [Nat.one_shiftLeft, Nat.testBit_two_pow] at h
    exact (of_decide_eq_true h).symm
   ·exact .inr ⟨j, List.mem_cons_self, .inr h⟩
  ·exact .inr ⟨j', List.mem_cons_of_mem _ hj', h⟩
def inS (L : Array Bool) (k : Nat) : Prop := L.getD k false = true
def DC (ops : List Oper) (L : Array Bool) : Prop := ∀ k o, ops[k]? = some o → inS L k → ∀ j ∈ directP o, inS L j
theorem mask_in {ops : List Oper} {L : Array Bool} (hd : DC ops L) : ∀ (k : Nat) (o : Oper), ops[k]? = some o → (∀ j ∈ directP o, inS L j) → ∀ i, ((masks ops []).getD k 0).testBit i = true → inS L i := by
 intro k
 induction k using Nat.strongRecOn with
 | _ k ih =>
  intro o ho hall i hi
  obtain ⟨acc', h1, h2, h3⟩ := masks_at ops [] k o ho
  simp only [List.length_nil, Nat.zero_add] at h1 h2 h3
  rw [h1] at hi
  rcases fold_bit _ _ _ hi with h | ⟨j, hj, h⟩
  ·simp at h
  ·rcases h with rfl | h
   ·exact hall _ hj
   ·have hjk : j < k := by
     rcases Nat.lt_or_ge j k with h' | h'
     ·exact h'
     ·rw [List.getD, List.getElem?_eq_none (by omega)] at h; simp at h
    rw [h3 j hjk] at h
    have hlt : j < ops.length := by have := (List.getElem?_eq_some_iff.1 ho).1; omega
    exact ih j hjk ops[j] (List.getElem?_eq_getElem hlt) (hd j _ (List.getElem?_eq_getElem hlt) (hall j hj)) i h
def Tree.det {α : Type} : Tree α → Tree α
 | .may _ _ _ => .fail
 | .branch b t f => .branch b t.det f.det
 | .need ps t => .need ps t.det
 | .leaf a => .leaf a
 | .fail => .fail
theorem Tree.det_sat {α : Type} {R : α → Prop} : ∀ {t : Tree α}, t.det.sat R → ∃ r, t.sat (fun x => x = r) ∧ R r
 | .fail, h => h.elim
 | .leaf a, h => ⟨a, rfl, h⟩
 | .branch true t f, h => by
  obtain ⟨r, h1, h2⟩ := Tree.det_sat (t := t) (h.1 rfl)
  exact ⟨r, ⟨fun _ => h1, fun e => by cases e⟩, h2⟩
 | .branch false t f, h => by
  obtain ⟨r, h1, h2⟩ := Tree.det_sat (t := f) (h.2 rfl)
  exact ⟨r, ⟨fun e => (by cases e), fun _ => h1⟩, h2⟩
 | .need ps t, h => by
  obtain ⟨r, h1, h2⟩ := Tree.det_sat (t := t) h.2
  exact ⟨r, ⟨h.1, h1⟩, h2⟩
 | .may _ _ _, h => h.elim
def callD (X : Ext) (id : Nat) (ρ : Operand → AV) (op : Op) : Option (Tree (AV × Option Res)) :=
 match op with
 | .call c => match c.callee with
  | .value f => match ρ f with
   | .fn (.func g) first caps => match (first ++ c.args.toList.map ρ ++ caps).all (idfD 6) with
    | true => match getC X.C g with
     | some sp => match sp (first ++ c.args.toList.map ρ ++ caps) with
      | some t => some (t.bind fun r => .leaf (r, none))
      | none => none
     | none => match getF X.F g with
      | some sp => match sp (first ++ c.args.toList.map ρ ++ caps) with
       | some (ns, T, sz, n, l) => some (.needT ns (.leaf (.row id, some (.row T sz n l))))
       | none => none
      | none => none
    | false => none
   | _ => none
  | _ => none
 | _ => none
def callV (X : Ext) (m : Mem) (ρ : Operand → AV) (op : Op) : Option (Tree (AV × Option Res)) :=
 match op with
 | .call c => match c.callee with
  | .value f => match ρ f with
   | .fn (.func g) first caps => match getC X.D g with
    | some sp => match sp ((first ++ c.args.toList.map ρ ++ caps).map (viewA m 40)) with
     | some t => some (t.bind fun r => .leaf (r, none))
     | none => none
    | none => none
   | _ => none
  | _ => none
 | _ => none
def callW (X : Ext) (id : Nat) (m : Mem) (ρ : Operand → AV) (op : Op) : Option (Tree (AV × Option Res)) :=
 match callV X m ρ op with
 | some t => some t
 | none => callD X id ρ op
structure Outc where
 val : AV
 add : Option Res
 upd : Option (Nat × Res)
 eat : Option Nat
def noOut : Outc := ⟨.top, none, none, none⟩
def skipOut : Outc := ⟨.tup [], none, none, none⟩
def skipB (want : Bool) : AV → Bool
 | .lit b => b != want
 | .tup _ => true
 | _ => false
def loneB (M : List Nat) (mm i j : Nat) : Bool := Nat.testBit (M.getD i 0) j && Nat.blt j mm && (List.range mm).all fun k => Nat.beq k i || !Nat.testBit (M.getD k 0) j
theorem loneB_spec {M : List Nat} {mm i j : Nat} (h : loneB M mm i j = true) : (M.getD i 0).testBit j = true ∧ j < mm ∧ ∀ k, k < mm → k ≠ i → (M.getD k 0).testBit j = false := by
 simp only [loneB, Bool.and_eq_true] at h
 obtain ⟨⟨h1, h2⟩, h3⟩ := h
 refine ⟨h1, by rw [Nat.blt_eq] at h2; exact h2, fun k hk hne => ?_⟩
 have := List.all_eq_true.1 h3 k (List.mem_range.2 hk)
 simp only [Bool.or_eq_true, Bool.not_eq_true'] at this
 rcases this with h | h
 ·exact absurd (Nat.eq_of_beq_eq_true h) hne
 ·exact h
def eatB (M : List Nat) (mm i j : Nat) : Bool := Nat.testBit (M.getD i 0) j && Nat.blt j mm && (List.range mm).all fun k => Nat.beq k i || !Nat.testBit (M.getD k 0) j || (Nat.testBit (M.getD k 0) i && Nat.blt i k)
theorem eatB_spec {M : List Nat} {mm i j : Nat} (h : eatB M mm i j = true) : (M.getD i 0).testBit j = true ∧ j < mm ∧ ∀ k, k < mm → k ≠ i → (M.getD k 0).testBit j = true → (M.getD k 0).testBit i = true ∧ i < k := by
 simp only [eatB, Bool.and_eq_true] at h
 obtain ⟨⟨h1, h2⟩, h3⟩ := h
 refine ⟨h1, by rw [Nat.blt_eq] at h2; exact h2, fun k hk hne hb => ?_⟩
 have := List.all_eq_true.1 h3 k (List.mem_range.2 hk)
 rw [hb] at this
 simp only [Bool.or_eq_true, Bool.not_true, Bool.and_eq_true, Bool.false_eq_true, or_false] at this
 rcases this with h | h
 ·exact absurd (Nat.eq_of_beq_eq_true h) hne
 ·exact ⟨h.1, by have := h.2; rwa [Nat.blt_eq] at this⟩
def eatenB (mask j : Nat) : List Outc → Nat → Bool
 | [], _ => false
 | c :: t, k => (match c.eat with
  | some q => Nat.beq q j && Nat.testBit mask k
  | none => false) || eatenB mask j t (k + 1)
theorem eatenB_true {mask j : Nat} : ∀ {l : List Outc} {k0 i : Nat} {c : Outc}, l[i]? = some c → c.eat = some j → mask.testBit (k0 + i) = true → eatenB mask j l k0 = true
 | [], _, _, _, h, _, _ => by simp at h
 | c0 :: t, k0, i, c, h, he, hb => by
  unfold eatenB
  cases i with
  | zero => simp at h; subst h; rw [he]; simp at hb; simp [hb]
  | succ i =>
   have := eatenB_true (mask := mask) (j := j) (l := t) (k0 := k0 + 1) (i := i) (by simpa using h) he (by rw [show k0 + 1 + i = k0 + (i + 1) by omega]; exact hb)
   rw [this]; simp
def lookD : List (Nat × Bool) → Nat → Option Bool
 | [], _ => none
 | (k, d) :: t, i => match Nat.beq k i with
  | true => some d
  | false => lookD t i
def decV (dec : List (Nat × Bool)) (k : Nat) (v : AV) : AV := match lookD dec k with
 | some d => .lit d
 | none => v
def writer (t : Nat) : List Oper → Nat → Option Nat
 | [], _ => none
 | o :: os, i => match o.dst with
  | some d => match Nat.beq d t with
   | true => some i
   | false => writer t os (i + 1)
  | none => writer t os (i + 1)
theorem writer_some {t : Nat} : ∀ {ops : List Oper} {i k : Nat}, writer t ops i = some k → i ≤ k ∧ ∃ o, ops[k - i]? = some o ∧ o.dst = some t
 | [], _, _, h => by simp [writer] at h
 | o :: os, i, k, h => by
  unfold writer at h
  split at h
  ·rename_i d hd
   split at h
   ·rename_i hb
    cases h
    have : d = t := Nat.eq_of_beq_eq_true hb
    exact ⟨Nat.le_refl _, o, by simp, by rw [hd, this]⟩
   ·obtain ⟨h1, o', h2, h3⟩ := writer_some h
    refine ⟨by omega, o', ?_, h3⟩
    rw [show k - i = (k - (i + 1)) + 1 by omega]; simpa using h2
  ·obtain ⟨h1, o', h2, h3⟩ := writer_some h
   refine ⟨by omega, o', ?_, h3⟩
   rw [show k - i = (k - (i + 1)) + 1 by omega]; simpa using h2
def wellB (n : Nat) (ops : List Oper) : List Oper → Nat → Bool
 | [], _ => true
 | o :: os, i => (match o.dst with
  | some d => (match writer d ops 0 with | some k => Nat.beq k i && Nat.blt d n | none => false)
  | none => true) && (directP o).all (fun j => Nat.blt j i) && wellB n ops os (i + 1)
theorem wellB_at {n : Nat} {ops : List Oper} : ∀ {os : List Oper} {i : Nat}, wellB n ops os i = true → ∀ k o, os[k]? = some o → (∀ d, o.dst = some d → writer d ops 0 = some (i + k) ∧ d < n) ∧ ∀ j ∈ directP o, j < i + k
 | [], _, _, k, o, h => by simp at h
 | o' :: os, i, hw, 0, o, h => by
  simp at h; subst h
  simp only [wellB, Bool.and_eq_true] at hw
  obtain ⟨⟨h1, h2⟩, _⟩ := hw
  refine ⟨fun d hd => ?_, fun j hj => ?_⟩
  ·rw [hd] at h1
   simp only at h1
   split at h1
   ·rename_i k hk
    simp only [Bool.and_eq_true] at h1
    exact ⟨by rw [hk, Nat.eq_of_beq_eq_true h1.1]; rfl, by simpa [Nat.blt_eq] using h1.2⟩
   ·cases h1
  ·have := List.all_eq_true.1 h2 j hj
   simpa [Nat.blt_eq] using this
 | o' :: os, i, hw, k + 1, o, h => by
  simp at h
  simp only [wellB, Bool.and_eq_true] at hw
  have := wellB_at hw.2 k o h
  rw [show i + (k + 1) = i + 1 + k by omega]
  exact this
section
variable (P : Program) (G : List (Nat × Spec)) (X : Ext) (ops : List Oper) (M : List Nat) (σ0 : List AV) (m0 : Mem) (nx0 mm : Nat)
def rhoD (outs : List Outc) (dec : List (Nat × Bool)) (i : Nat) : Operand → AV
 | .tmp t => match writer t ops 0 with
  | none => σ0.getD t .top
  | some k => match Nat.testBit (M.getD i 0) k with
   | true => decV dec k (outs.getD k noOut).val
   | false => match Nat.beq k i || Nat.testBit (M.getD k 0) i with
    | true => σ0.getD t .top
    | false => .top
 | x => rho [] x
def addsOf (mask : Nat) (all : List Outc) : List Outc → Nat → Mem
 | [], _ => []
 | o :: os, j => match Nat.testBit mask j with
  | true => match o.add with
   | some r => match eatenB mask j all 0 with
    | true => addsOf mask all os (j + 1)
    | false => (nx0 + j, r) :: addsOf mask all os (j + 1)
   | none => addsOf mask all os (j + 1)
  | false => addsOf mask all os (j + 1)
abbrev DT := List Outc × List (Nat × Bool)
def settleD (outs : List Outc) (dec : List (Nat × Bool)) (i : Nat) (t : Option Nat) (g : List (Nat × Bool) → Tree DT) : Tree DT :=
 match t with
 | none => g dec
 | some t => match writer t ops 0 with
  | some k => match lookD dec k with
   | some _ => g dec
   | none => match Nat.testBit (M.getD i 0) k with
    | true => match (outs.getD k noOut).val with
     | .x (.bool b) => .branch b (g ((k, true) :: dec)) (g ((k, false) :: dec))
     | _ => g dec
    | false => g dec
  | none => g dec
def storeD (o : Oper) (i : Nat) (outs : List Outc) (dec : List (Nat × Bool)) : Option (List Prop × Nat × Res) :=
 match o.op with
 | .store t x y => match rhoD ops M σ0 outs dec i x with
  | .ptr id off => match Nat.ble nx0 id && loneB M mm i (id - nx0) with
   | true => match opStore P (addsOf nx0 (M.getD i 0) outs outs 0 ++ m0) t (.ptr id off) (rhoD ops M σ0 outs dec i y) with
    | some (ns, m') => match getM m' id with
     | some r => some (ns, id - nx0, r)
     | none => none
    | none => none
   | false => none
  | _ => none
 | _ => none
def appD (o : Oper) (i : Nat) (outs : List Outc) (dec : List (Nat × Bool)) : Option (List Prop × AV × Res × Option Nat) :=
 match o.op with
 | .call c => match c.callee, c.args.toList, c.argTypes.toList with
  | .builtin .append, [s, x], [t, t'] => match Nat.beq t t' with
   | true => match rhoD ops M σ0 outs dec i s with
    | .row id => match Nat.ble nx0 id && eatB M mm i (id - nx0) with
     | true => match opAppend P (nx0 + i) (addsOf nx0 (M.getD i 0) outs outs 0 ++ m0) t (.row id) (rhoD ops M σ0 outs dec i x) with
      | some (ns, val, (_, r) :: _) => some (ns, val, r, some (id - nx0))
      | _ => none
     | false => none
    | .x v => match opAppend P (nx0 + i) (addsOf nx0 (M.getD i 0) outs outs 0 ++ m0) t (.x v) (rhoD ops M σ0 outs dec i x) with
     | some (ns, val, (_, r) :: _) => some (ns, val, r, none)
     | _ => none
    | _ => none
   | false => none
  | _, _, _ => none
 | _ => none
def appE (o : Oper) (i : Nat) (outs : List Outc) (dec : List (Nat × Bool)) : Option (List Prop × AV × Res) :=
 match o.op with
 | .call c => match c.callee, c.args.toList, c.argTypes.toList with
  | .builtin .append, [s, x], [t, t'] => match Nat.beq t t' with
   | true => match rhoD ops M σ0 outs dec i s with
    | .row id => match Nat.blt id nx0 with
     | true => match opAppendA P (nx0 + i) (addsOf nx0 (M.getD i 0) outs outs 0 ++ m0) t id (rhoD ops M σ0 outs dec i x) with
      | some (ns, r) => some (ns, .row (nx0 + i), r)
      | none => none
     | false => none
    | _ => none
   | false => none
  | _, _, _ => none
 | _ => none
def argOfC (X : Ext) (d : Nat) : List Oper → Bool
 | [] => false
 | o :: os => (match o.op with
  | .call c => match c.callee with
   | .value (.func g) => match getC X.C g with
    | some _ => c.args.toList.any fun x => match x with
     | .tmp t => Nat.beq t d
     | _ => false
    | none => false
   | _ => false
  | _ => false) || argOfC X d os
def appZ (X : Ext) (o : Oper) (i : Nat) (outs : List Outc) (dec : List (Nat × Bool)) : Option (List Prop × AV × Option Nat) :=
 match o.dst with
 | some d => match argOfC X d ops with
  | true => match appD P ops M σ0 m0 nx0 mm o i outs dec with
   | some (ns, _, .row _ sz n f, eat) => some (ns, .lst sz n f, eat)
   | _ => none
  | false => none
 | none => none
def runD (o : Oper) (i : Nat) (outs : List Outc) (dec : List (Nat × Bool)) (next : List Outc → List (Nat × Bool) → Tree DT) : Tree DT :=
 match aop P G (nx0 + i) (addsOf nx0 (M.getD i 0) outs outs 0 ++ m0) (rhoD ops M σ0 outs dec i) o.op with
 | some (ns, val, add) => .needT ns (next (outs ++ [⟨val, add, none, none⟩]) dec)
 | none => match storeD P ops M σ0 m0 nx0 mm o i outs dec with
  | some (ns, j, r) => .needT ns (next (outs ++ [⟨.top, none, some (j, r), none⟩]) dec)
  | none => match appZ P ops M σ0 m0 nx0 mm X o i outs dec with
   | some (ns, val, eat) => .needT ns (next (outs ++ [⟨val, none, none, eat⟩]) dec)
   | none => match appD P ops M σ0 m0 nx0 mm o i outs dec with
    | some (ns, val, r, eat) => .needT ns (next (outs ++ [⟨val, some r, none, eat⟩]) dec)
    | none => match callW X (nx0 + i) (addsOf nx0 (M.getD i 0) outs outs 0 ++ m0) (rhoD ops M σ0 outs dec i) o.op with
     | some t => t.det.bind fun r => next (outs ++ [⟨r.1, r.2, none, none⟩]) dec
     | none => match appE P ops M σ0 m0 nx0 o i outs dec with
      | some (ns, val, r) => .needT ns (next (outs ++ [⟨val, some r, none, none⟩]) dec)
      | none => .fail
def drawT : List Oper → Nat → List Outc → List (Nat × Bool) → Tree DT
 | [], _, outs, dec => .leaf (outs, dec)
 | o :: rest, i, outs, dec => match o.guard with
  | none => settleD ops M outs dec i (pickOf o.op) fun dec => runD P G X ops M σ0 m0 nx0 mm o i outs dec (drawT rest (i + 1))
  | some (_, want) => settleD ops M outs dec i (guardSlot ops o) fun dec => match (match guardSlot ops o with | some t => rhoD ops M σ0 outs dec i (.tmp t) | none => .top) with
   | .lit b => match b == want with
    | true => settleD ops M outs dec i (pickOf o.op) fun dec => runD P G X ops M σ0 m0 nx0 mm o i outs dec (drawT rest (i + 1))
    | false => drawT rest (i + 1) (outs ++ [skipOut]) dec
   | .tup _ => drawT rest (i + 1) (outs ++ [skipOut]) dec
   | _ => .fail
def RecOk (outs : List Outc) (dec : List (Nat × Bool)) (i : Nat) (o : Oper) : Prop :=
 ∃ dec', (∀ k d, lookD dec' k = some d → lookD dec k = some d) ∧
  ((((∃ ns, aop P G (nx0 + i) (addsOf nx0 (M.getD i 0) (outs.take i) (outs.take i) 0 ++ m0) (rhoD ops M σ0 (outs.take i) dec' i) o.op = some (ns, (outs.getD i noOut).val, (outs.getD i noOut).add) ∧ (outs.getD i noOut).upd = none ∧ (outs.getD i noOut).eat = none ∧ ∀ p ∈ ns, p) ∨
    (∃ ns j r, storeD P ops M σ0 m0 nx0 mm o i (outs.take i) dec' = some (ns, j, r) ∧ outs.getD i noOut = ⟨.top, none, some (j, r), none⟩ ∧ ∀ p ∈ ns, p) ∨
    (∃ ns val r eat, appD P ops M σ0 m0 nx0 mm o i (outs.take i) dec' = some (ns, val, r, eat) ∧ outs.getD i noOut = ⟨val, some r, none, eat⟩ ∧ ∀ p ∈ ns, p) ∨
    (∃ t val, callW X (nx0 + i) (addsOf nx0 (M.getD i 0) (outs.take i) (outs.take i) 0 ++ m0) (rhoD ops M σ0 (outs.take i) dec' i) o.op = some t ∧ outs.getD i noOut = ⟨val.1, val.2, none, none⟩ ∧ t.sat (fun r => r = val)) ∨
    (∃ ns val eat, appZ P ops M σ0 m0 nx0 mm X o i (outs.take i) dec' = some (ns, val, eat) ∧ outs.getD i noOut = ⟨val, none, none, eat⟩ ∧ ∀ p ∈ ns, p) ∨
    (∃ ns val r, appE P ops M σ0 m0 nx0 o i (outs.take i) dec' = some (ns, val, r) ∧ outs.getD i noOut = ⟨val, some r, none, none⟩ ∧ ∀ p ∈ ns, p)) ∧
    (o.guard = none ∨ ∃ j want t, o.guard = some (j, want) ∧ guardSlot ops o = some t ∧ rhoD ops M σ0 (outs.take i) dec' i (.tmp t) = .lit want)) ∨
   (outs.getD i noOut = skipOut ∧ ∃ j want t, o.guard = some (j, want) ∧ guardSlot ops o = some t ∧ skipB want (rhoD ops M σ0 (outs.take i) dec' i (.tmp t)) = true))
def DecOk (outs : List Outc) (dec : List (Nat × Bool)) : Prop := ∀ k d, lookD dec k = some d → k < outs.length ∧ (outs.getD k noOut).val = .x (.bool d)
def AllOk (outs : List Outc) (dec : List (Nat × Bool)) : Prop := DecOk outs dec ∧ ∀ i o, i < outs.length → ops[i]? = some o → RecOk P G X ops M σ0 m0 nx0 mm outs dec i o
end
section
variable {P : Program} {G : List (Nat × Spec)} {X : Ext} {ops : List Oper} {M : List Nat} {σ0 : List AV} {m0 : Mem} {nx0 mm : Nat}
theorem lookD_cons {k : Nat} {d : Bool} {dec : List (Nat × Bool)} (hno : lookD dec k = none) : ∀ i b, lookD dec i = some b → lookD ((k, d) :: dec) i = some b := by
 intro i b h
 unfold lookD
 split
 ·rename_i hb
  have : k = i := Nat.eq_of_beq_eq_true hb
  subst this
  rw [hno] at h; cases h
 ·exact h
theorem AllOk.more {outs : List Outc} {dec dec2 : List (Nat × Bool)} (h : AllOk P G X ops M σ0 m0 nx0 mm outs dec) (hd : DecOk outs dec2) (hs : ∀ i b, lookD dec i = some b → lookD dec2 i = some b) : AllOk P G X ops M σ0 m0 nx0 mm outs dec2 :=
 ⟨hd, fun i o hi ho => let ⟨dec', h1, h2⟩ := h.2 i o hi ho; ⟨dec', fun k d hk => hs k d (h1 k d hk), h2⟩⟩
theorem settleD_sound {outs : List Outc} {dec : List (Nat × Bool)} {i : Nat} {t : Option Nat} {g : List (Nat × Bool) → Tree DT} {R : DT → Prop} (h : (settleD ops M outs dec i t g).sat R) (ha : AllOk P G X ops M σ0 m0 nx0 mm outs dec) :
  ∃ dec2, AllOk P G X ops M σ0 m0 nx0 mm outs dec2 ∧ (g dec2).sat R ∧ ∀ i b, lookD dec i = some b → lookD dec2 i = some b := by
 unfold settleD at h
 split at h
 ·exact ⟨dec, ha, h, fun _ _ h => h⟩
 ·split at h
  ·rename_i k hk
   split at h
   ·exact ⟨dec, ha, h, fun _ _ h => h⟩
   ·rename_i hno
    split at h
    ·split at h
     ·rename_i b hb
      have hlt : k < outs.length := by
       rcases Nat.lt_or_ge k outs.length with h' | h'
       ·exact h'
       ·rw [List.getD, List.getElem?_eq_none h'] at hb; simp [noOut] at hb
      have key : ∀ d, b = d → AllOk P G X ops M σ0 m0 nx0 mm outs ((k, d) :: dec) := by
       intro d hd
       refine ha.more ?_ (lookD_cons hno)
       intro i b' hl
       unfold lookD at hl
       split at hl
       ·rename_i hki
        have : k = i := Nat.eq_of_beq_eq_true hki
        subst this
        cases hl
        exact ⟨hlt, by rw [hb, hd]⟩
       ·exact ha.1 i b' hl
      cases b
      ·exact ⟨_, key false rfl, h.2 rfl, lookD_cons hno⟩
      ·exact ⟨_, key true rfl, h.1 rfl, lookD_cons hno⟩
     ·exact ⟨dec, ha, h, fun _ _ h => h⟩
    ·exact ⟨dec, ha, h, fun _ _ h => h⟩
  ·exact ⟨dec, ha, h, fun _ _ h => h⟩
theorem rhoD_lit {outs : List Outc} {dec2 dec3 : List (Nat × Bool)} {i t : Nat} {b : Bool} (hext : ∀ i b, lookD dec2 i = some b → lookD dec3 i = some b) (hd : DecOk outs dec3) (h : rhoD ops M σ0 outs dec2 i (.tmp t) = .lit b) : rhoD ops M σ0 outs dec3 i (.tmp t) = .lit b := by
 simp only [rhoD] at h ⊢
 split
 ·rename_i hw; rw [hw] at h; exact h
 ·rename_i k hw
  rw [hw] at h
  simp only at h
  split
  ·rename_i hb
   rw [hb] at h
   simp only [decV] at h ⊢
   cases h2 : lookD dec2 k with
   | some d => rw [h2] at h; rw [hext _ _ h2]; exact h
   | none =>
    rw [h2] at h
    simp only at h
    cases h3 : lookD dec3 k with
    | none => exact h
    | some d => have := (hd k d h3).2; rw [this] at h; cases h
  ·rename_i hb
   rw [hb] at h
   exact h
theorem AllOk.push {outs : List Outc} {dec : List (Nat × Bool)} {o : Oper} {c : Outc} (h : AllOk P G X ops M σ0 m0 nx0 mm outs dec) (ho : ops[outs.length]? = some o) (hr : RecOk P G X ops M σ0 m0 nx0 mm (outs ++ [c]) dec outs.length o) :
  AllOk P G X ops M σ0 m0 nx0 mm (outs ++ [c]) dec := by
 have hget : ∀ i, i < outs.length → (outs ++ [c]).getD i noOut = outs.getD i noOut := fun i hi => by simp [List.getD, List.getElem?_append, hi]
 refine ⟨fun k d hk => ?_, fun i o' hi ho' => ?_⟩
 ·obtain ⟨h1, h2⟩ := h.1 k d hk
  exact ⟨by simp; omega, by rw [hget k h1]; exact h2⟩
 ·by_cases hlt : i < outs.length
  ·obtain ⟨dec', h1, h2⟩ := h.2 i o' hlt ho'
   refine ⟨dec', h1, ?_⟩
   have ht : (outs ++ [c]).take i = outs.take i := by rw [List.take_append_of_le_length (by omega)]
   rw [ht, hget i hlt]
   exact h2
  ·have : i = outs.length := by simp at hi; omega
   subst this
   rw [ho] at ho'; cases ho'
   exact hr
theorem drawT_sound {R : DT → Prop} : ∀ (rest : List Oper) (outs : List Outc) (dec : List (Nat × Bool)) (hh : List Oper), ops = hh ++ rest ++ (ops.drop (hh.length + rest.length)) → hh.length = outs.length → (drawT P G X ops M σ0 m0 nx0 mm rest outs.length outs dec).sat R →
  AllOk P G X ops M σ0 m0 nx0 mm outs dec → ∃ outs' dec', R (outs', dec') ∧ AllOk P G X ops M σ0 m0 nx0 mm outs' dec' ∧ outs'.length = outs.length + rest.length
 | [], outs, dec, hh, _, _, h, ha => ⟨outs, dec, h, ha, by simp⟩
 | o :: rest, outs, dec, hh, hops, hlen, h, ha => by
  have ho : ops[outs.length]? = some o := by
   rw [hops, List.append_assoc, ← hlen]
   simp
  have hops' : ops = (hh ++ [o]) ++ rest ++ (ops.drop ((hh ++ [o]).length + rest.length)) := by
   have e1 : (hh ++ [o]).length + rest.length = hh.length + (o :: rest).length := by simp; omega
   rw [e1]
   simpa using hops
  have run : ∀ dec2, AllOk P G X ops M σ0 m0 nx0 mm outs dec2 → (runD P G X ops M σ0 m0 nx0 mm o outs.length outs dec2 (drawT P G X ops M σ0 m0 nx0 mm rest (outs.length + 1))).sat R →
    (o.guard = none ∨ ∃ j want t, o.guard = some (j, want) ∧ guardSlot ops o = some t ∧ rhoD ops M σ0 outs dec2 outs.length (.tmp t) = .lit want) →
    ∃ outs' dec', R (outs', dec') ∧ AllOk P G X ops M σ0 m0 nx0 mm outs' dec' ∧ outs'.length = outs.length + (o :: rest).length := by
   intro dec2 ha2 h2 hg
   unfold runD at h2
   have fin : ∀ c : Outc, RecOk P G X ops M σ0 m0 nx0 mm (outs ++ [c]) dec2 outs.length o → (drawT P G X ops M σ0 m0 nx0 mm rest (outs.length + 1) (outs ++ [c]) dec2).sat R →
     ∃ outs' dec', R (outs', dec') ∧ AllOk P G X ops M σ0 m0 nx0 mm outs' dec' ∧ outs'.length = outs.length + (o :: rest).length := by
    intro c hrec h3
    have hall := ha2.push ho hrec
    have hl : (outs ++ [c]).length = outs.length + 1 := by simp
    rw [← hl] at h3
    obtain ⟨outs', dec', r1, r2, r3⟩ := drawT_sound rest _ dec2 (hh ++ [o]) hops' (by simp [hlen]) h3 hall
    exact ⟨outs', dec', r1, r2, by rw [r3]; simp; omega⟩
   split at h2
   ·rename_i ns val add haop
    replace h2 := Tree.sat_needT h2
    refine fin ⟨val, add, none, none⟩ ⟨dec2, fun _ _ h => h, .inl ⟨.inl ⟨ns, ?_, ?_, ?_, allP_mem h2.1⟩, ?_⟩⟩ h2.2
    ·simpa [List.getD] using haop
    ·simp [List.getD]
    ·simp [List.getD]
    ·simpa using hg
   ·split at h2
    ·rename_i ns j r hst
     replace h2 := Tree.sat_needT h2
     refine fin ⟨.top, none, some (j, r), none⟩ ⟨dec2, fun _ _ h => h, .inl ⟨.inr (.inl ⟨ns, j, r, ?_, ?_, allP_mem h2.1⟩), ?_⟩⟩ h2.2
     ·simpa using hst
     ·simp [List.getD]
     ·simpa using hg
    ·split at h2
     ·rename_i ns val eat hap
      replace h2 := Tree.sat_needT h2
      refine fin ⟨val, none, none, eat⟩ ⟨dec2, fun _ _ h => h, .inl ⟨.inr (.inr (.inr (.inr (.inl ⟨ns, val, eat, ?_, ?_, allP_mem h2.1⟩)))), ?_⟩⟩ h2.2
      ·simpa using hap
      ·simp [List.getD]
      ·simpa using hg
     ·split at h2
      ·rename_i ns val r eat hap
       replace h2 := Tree.sat_needT h2
       refine fin ⟨val, some r, none, eat⟩ ⟨dec2, fun _ _ h => h, .inl ⟨.inr (.inr (.inl ⟨ns, val, r, eat, ?_, ?_, allP_mem h2.1⟩)), ?_⟩⟩ h2.2
       ·simpa using hap
       ·simp [List.getD]
       ·simpa using hg
      ·split at h2
       ·rename_i t hcd
        obtain ⟨val, h3, h4⟩ := Tree.det_sat (Tree.sat_bind h2)
        refine fin ⟨val.1, val.2, none, none⟩ ⟨dec2, fun _ _ h => h, .inl ⟨.inr (.inr (.inr (.inl ⟨t, val, ?_, ?_, h3⟩))), ?_⟩⟩ h4
        ·simpa using hcd
        ·simp [List.getD]
        ·simpa using hg
       ·split at h2
        ·rename_i ns val r hap
         replace h2 := Tree.sat_needT h2
         refine fin ⟨val, some r, none, none⟩ ⟨dec2, fun _ _ h => h, .inl ⟨.inr (.inr (.inr (.inr (.inr ⟨ns, val, r, ?_, ?_, allP_mem h2.1⟩)))), ?_⟩⟩ h2.2
         ·simpa using hap
         ·simp [List.getD]
         ·simpa using hg
        ·exact h2.elim
  have skip : ∀ {dec2 : List (Nat × Bool)} {j : Nat} {want : Bool} {t : Nat}, AllOk P G X ops M σ0 m0 nx0 mm outs dec2 → (drawT P G X ops M σ0 m0 nx0 mm rest (outs.length + 1) (outs ++ [skipOut]) dec2).sat R → o.guard = some (j, want) → guardSlot ops o = some t →
    skipB want (rhoD ops M σ0 outs dec2 outs.length (.tmp t)) = true → ∃ outs' dec', R (outs', dec') ∧ AllOk P G X ops M σ0 m0 nx0 mm outs' dec' ∧ outs'.length = outs.length + (o :: rest).length := by
   intro dec2 j want t ha2 h2 hg hs hb
   have hrec : RecOk P G X ops M σ0 m0 nx0 mm (outs ++ [skipOut]) dec2 outs.length o := by
    refine ⟨dec2, fun _ _ h => h, .inr ⟨by simp [List.getD], j, want, t, hg, hs, ?_⟩⟩
    simpa using hb
   have hall := ha2.push ho hrec
   have hl : (outs ++ [skipOut]).length = outs.length + 1 := by simp
   rw [← hl] at h2
   obtain ⟨outs', dec', r1, r2, r3⟩ := drawT_sound rest _ dec2 (hh ++ [o]) hops' (by simp [hlen]) h2 hall
   exact ⟨outs', dec', r1, r2, by rw [r3]; simp; omega⟩
  unfold drawT at h
  split at h
  ·rename_i hg
   obtain ⟨dec2, ha2, h2, _⟩ := settleD_sound h ha
   exact run dec2 ha2 h2 (.inl hg)
  ·rename_i j want hg
   obtain ⟨dec2, ha2, h2, _⟩ := settleD_sound h ha
   cases hs : guardSlot ops o with
   | none => simp only [hs] at h2; exact h2.elim
   | some t =>
    simp only [hs] at h2
    split at h2
    ·rename_i b hb
     split at h2
     ·rename_i hbw
      have hbw' : b = want := by simpa using hbw
      subst hbw'
      obtain ⟨dec3, ha3, h3, hext⟩ := settleD_sound h2 ha2
      exact run dec3 ha3 h3 (.inr ⟨j, b, t, hg, hs, rhoD_lit hext ha3.1 hb⟩)
     ·rename_i hbw
      have hbw' : b ≠ want := by simpa using hbw
      exact skip ha2 h2 hg hs (by rw [hb]; simpa [skipB] using hbw')
    ·rename_i l hb
     exact skip ha2 h2 hg hs (by rw [hb]; rfl)
    ·exact h2.elim
end
end Go.Sx
