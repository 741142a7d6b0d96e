/- Texts of this claim, put together: SxJa -/
import Derived.Test.YtlinbkmpkcmniaaMd
import Derived.MapKept
set_option linter.unusedSimpArgs false
set_option linter.unusedVariables false
namespace Go.Sx
open Go Go.RowKit
structure MapKey (P : Program) (t : TypeId) (h : Value → Prop) (k z : Value) : Prop where
 kt : ∃ kt et fs, P.underlying t = some (.map kt et) ∧ P.underlying kt = some (.struct fs) ∧
  (∀ b w, (Instr.checkKey b 10000 kt k).run P w = .ok () w) ∧
  (∀ k', h k' → ∀ w, ∃ r, (Op.equal kt k k').run P w = .ok r w ∧ (r = true → k' = k)) ∧ (∀ w, (zeroValue et).run P w = .ok z w)
 bits : Instr.sameBits 10000 k k = true
theorem findNow_struct {fs : Array Field} {k : Value} : ∀ (es : List MapEntry) (i : Nat), Instr.findNow (.struct fs) k es i = some none ∨ Instr.findNow (.struct fs) k es i = none
 | [], _ => .inl rfl
 | e :: es, i => by
  right
  unfold Instr.findNow
  cases k <;> cases e.key <;> rfl
theorem run_findAsking {P : Program} {kt : TypeId} {h : Value → Prop} {k : Value} (heq : ∀ k', h k' → ∀ w, ∃ r, (Op.equal kt k k').run P w = .ok r w ∧ (r = true → k' = k)) (w : World) :
  ∀ (es : List MapEntry) (i : Nat), (∀ x ∈ es, h x.key) → (Instr.findAsking kt k es i).run P w = .ok none w ∨ ∃ j x, es[j]? = some x ∧ x.key = k ∧ (Instr.findAsking kt k es i).run P w = .ok (some (i + j, x.val)) w
 | [], i, _ => .inl rfl
 | e :: es, i, hh => by
  obtain ⟨r, h1, h2⟩ := heq e.key (hh e List.mem_cons_self) w
  cases r with
  | true => exact .inr ⟨0, e, rfl, h2 rfl, by simp [Instr.findAsking, h1]⟩
  | false =>
   rcases run_findAsking heq w es (i + 1) (fun x hx => hh x (List.mem_cons_of_mem _ hx)) with h3 | ⟨j, x, h3, h4, h5⟩
   ·exact .inl (by simp [Instr.findAsking, h1, h3])
   ·refine .inr ⟨j + 1, x, by simpa using h3, h4, ?_⟩
    simp only [Instr.findAsking, Sem.run_bind, h1, Result.andThen, Bool.false_eq_true, if_false, h5]
    congr 3
    omega
theorem run_findKeyS {P : Program} {kt : TypeId} {fs : Array Field} (hu : P.underlying kt = some (.struct fs)) {h : Value → Prop} {k : Value} (heq : ∀ k', h k' → ∀ w, ∃ r, (Op.equal kt k k').run P w = .ok r w ∧ (r = true → k' = k)) (w : World)
  (es : List MapEntry) (hh : ∀ x ∈ es, h x.key) : (Instr.findKey kt k es).run P w = .ok none w ∨ ∃ j x, es[j]? = some x ∧ x.key = k ∧ (Instr.findKey kt k es).run P w = .ok (some (j, x.val)) w := by
 unfold Instr.findKey
 rcases findNow_struct (fs := fs) (k := k) es 0 with h1 | h1
 ·exact .inl (by simp [run_underlying hu, h1])
 ·rcases run_findAsking heq w es 0 hh with h2 | ⟨j, x, h2, h3, h4⟩
  ·exact .inl (by simp [run_underlying hu, h1, h2])
  ·refine .inr ⟨j, x, h2, h3, ?_⟩
   simp [run_underlying hu, h1, h4]
def lookV (ok : Bool) (v : Value) (b : Bool) : Value := if ok then .tuple #[v, .bool b] else v
theorem run_look {P : Program} {t : TypeId} {h : Value → Prop} {f : Value → Value} {k z : Value} (mk : MapKey P t h k z) {w : World} {b c : Nat} {es : Array MapEntry} (hb : w.heap[b]? = some (.map es c)) (hes : ∀ x ∈ es.toList, h x.key ∧ x.val = f x.key) (ok : Bool) :
  ∃ v, (Instr.lookup t (.map (some b)) k ok).run P w = .ok v w ∧ ((h k ∧ v = lookV ok (f k) true) ∨ v = lookV ok z false) := by
 obtain ⟨⟨kt, et, fs, h1, h2, h3, h4, h5⟩, _⟩ := mk
 rcases run_findKeyS h2 h4 w es.toList (fun x hx => (hes x hx).1) with hf | ⟨j, x, hx, hk, hf⟩
 ·refine ⟨lookV ok z false, ?_, .inr rfl⟩
  simp [Instr.lookup, run_underlying h1, MapKept.run_getObj_map hb, h3, hf, h5, Result.andThen, lookV]
 ·have hm := hes x (List.mem_of_getElem? hx)
  refine ⟨lookV ok (f k) true, ?_, .inl ⟨hk ▸ hm.1, rfl⟩⟩
  have hv : x.val = f k := by rw [hm.2, hk]
  simp [Instr.lookup, run_underlying h1, MapKept.run_getObj_map hb, h3, hf, hv, Result.andThen, lookV]
theorem run_upd {P : Program} {t : TypeId} {h : Value → Prop} {f : Value → Value} {k z v : Value} (mk : MapKey P t h k z) (hk : h k) (hv : v = f k) {w : World} {b c : Nat} {es : Array MapEntry} (hb : w.heap[b]? = some (.map es c)) (hes : ∀ x ∈ es.toList, h x.key ∧ x.val = f x.key) :
  ∃ es' c', (Instr.mapUpdate t (.map (some b)) k v).run P w = .ok () { w with heap := w.heap.setIfInBounds b (.map es' c') } ∧ ∀ x ∈ es'.toList, h x.key ∧ x.val = f x.key := by
 obtain ⟨⟨kt, et, fs, h1, h2, h3, h4, h5⟩, h6⟩ := mk
 rcases run_findKeyS h2 h4 w es.toList (fun x hx => (hes x hx).1) with hf | ⟨j, x, hx, hkx, hf⟩
 ·refine ⟨es.push { key := k, val := v, born := c }, c + 1, ?_, ?_⟩
  ·simp [Instr.mapUpdate, run_underlying h1, MapKept.run_getObj_map hb, h3, hf, MapKept.run_setObj_map _ hb, Result.andThen]
  ·intro y hy
   rw [Array.toList_push, List.mem_append, List.mem_singleton] at hy
   rcases hy with hy | rfl
   ·exact hes y hy
   ·exact ⟨hk, hv⟩
 ·refine ⟨es.modify j fun e => { e with key := k, val := v }, c, ?_, ?_⟩
  ·have hj : es[j]? = some x := by simpa using hx
   simp [Instr.mapUpdate, run_underlying h1, MapKept.run_getObj_map hb, h3, hf, hj, hkx, Instr.keyThatStays, h6, MapKept.run_setObj_map _ hb, Result.andThen]
  ·intro y hy
   rw [Array.toList_modify] at hy
   obtain ⟨n, hn⟩ := List.mem_iff_getElem?.1 hy
   rw [List.getElem?_modify] at hn
   cases hq : es.toList[n]? with
   | none => rw [hq] at hn; simp at hn
   | some q =>
    rw [hq] at hn
    by_cases hjn : j = n
    ·simp [hjn] at hn
     subst hn
     exact ⟨hk, hv⟩
    ·simp [hjn] at hn
     subst hn
     exact hes q (List.mem_of_getElem? hq)
theorem upd_wrote {P : Program} {t : TypeId} {h : Value → Prop} {f : Value → Value} {k z v : Value} {e : Env} {B : Nat} {w : World} {m : Mem} {i : Nat} (hg : getM m i = some (.memo h f)) (mk : MapKey P t h k z) (hk : h k) (hv : v = f k) (hE : EnvOk e B w) (hm : MemOk e m w) :
  ∃ w', (Instr.mapUpdate t (.map (some (e.blk i))) k v).run P w = .ok () w' ∧ ∀ (id : Nat) (u : Value), Wrote e B w id .top ((i, .memo h f) :: delM m i) u w' := by
 obtain ⟨h1, h2, es, c, h3, h4⟩ := hm _ (getM_mem hg)
 obtain ⟨es', c', hr, hes⟩ := run_upd mk hk hv h3 h4
 refine ⟨_, hr, fun id u => ?_⟩
 have hlt := (Array.getElem?_eq_some_iff.1 h3).1
 have hsz : ({ w with heap := w.heap.setIfInBounds (e.blk i) (.map es' c') } : World).heap.size = w.heap.size := by simp
 have hoth : ∀ b, b ≠ e.blk i → ({ w with heap := w.heap.setIfInBounds (e.blk i) (.map es' c') } : World).heap[b]? = w.heap[b]? := fun b hb => by simp [Ne.symm hb]
 have hB := (hE.owned _ _ h2).1
 refine ⟨e, ?_, step_write hE h2 hsz hoth, envOk_write hE hsz, .top _, ?_, fun _ h => .inl h, fun _ h => h⟩
 ·exact ⟨rfl, rfl, rfl, by simp, fun b hb => hoth b (by dsimp only at hB; omega)⟩
 ·intro p hp
  rcases List.mem_cons.1 hp with rfl | hp
  ·exact ⟨h1, h2, es', c', by simp [hlt], hes⟩
  ·exact holds_write hE h2 hsz hoth (delM_mem hp).2 (hm p (delM_mem hp).1)
def xsOf : List AV → Option (List Value)
 | [] => some []
 | .x v :: t => match xsOf t with
  | some vs => some (v :: vs)
  | none => none
 | _ => none
def valOf : AV → Option Value
 | .x v => some v
 | .lit b => some (.bool b)
 | .agg l => match xsOf l with
  | some vs => some (.agg vs.toArray)
  | none => none
 | _ => none
theorem xsOf_rep {e : Env} {w : World} : ∀ {l : List AV} {vs us : List Value}, xsOf l = some vs → RepL e w l us → us = vs
 | [], vs, us, h, r => by
  simp only [xsOf, Option.some.injEq] at h
  rw [r.nil_inv, ← h]
 | a :: l, vs, us, h, r => by
  obtain ⟨u, us', rfl, hu, r'⟩ := r.cons_inv
  unfold xsOf at h
  split at h
  ·rename_i heq; cases heq
  ·rename_i v t heq
   cases heq
   split at h
   ·rename_i vs' ht
    cases h
    rw [hu.x_inv, xsOf_rep ht r']
   ·cases h
  ·cases h
theorem valOf_rep {e : Env} {w : World} {a : AV} {v u : Value} (h : valOf a = some v) (r : Rep e w a u) : u = v := by
 unfold valOf at h
 split at h
 ·cases h; exact r.x_inv
 ·cases h; exact r.lit_inv
 ·split at h
  ·rename_i vs hx
   cases h
   obtain ⟨us, rfl, hr⟩ := r.agg_inv
   rw [xsOf_rep hx hr]
  ·cases h
 ·cases h
def zeroOf (P : Program) (t : TypeId) : Option Value := match P.underlying t with
 | some (.map _ et) => match P.info? et with
  | some i => i.zero
  | none => none
 | _ => none
def lookAV (ok : Bool) (v : Value) (b : Bool) : AV := match ok with
 | true => .tup [.x v, .lit b]
 | false => .x v
theorem lookAV_rep (e : Env) (w : World) (ok : Bool) (v : Value) (b : Bool) : Rep e w (lookAV ok v b) (lookV ok v b) := by
 cases ok with
 | true => exact Rep.tupL (RepL.cons (.x v) (RepL.one (.lit b)))
 | false => exact .x v
def isLitT : AV → Bool
 | .lit true => true
 | _ => false
theorem MapKey.mono {P : Program} {t : TypeId} {h h0 : Value → Prop} {k z : Value} (hm : ∀ v, h v → h0 v) (mk : MapKey P t h0 k z) : MapKey P t h k z := by
 obtain ⟨⟨kt, et, fs, h1, h2, h3, h4, h5⟩, b⟩ := mk
 exact ⟨⟨kt, et, fs, h1, h2, h3, fun k' hk => h4 k' (hm k' hk), h5⟩, b⟩
theorem upd_grow {P : Program} {t : TypeId} {h : Value → Prop} {f : Value → Value} {k z v : Value} {e : Env} {B : Nat} {w : World} {m : Mem} {i : Nat} (hg : getM m i = some (.memo h f)) (hf : ∀ u, h u → f u = v) (mk : MapKey P t (fun u => h u ∨ u = k) k z) (hE : EnvOk e B w) (hm : MemOk e m w) :
  ∃ w', (Instr.mapUpdate t (.map (some (e.blk i))) k v).run P w = .ok () w' ∧ ∀ (id : Nat) (u : Value), Wrote e B w id .top ((i, .memo (fun u => h u ∨ u = k) (fun _ => v)) :: delM m i) u w' := by
 have hm2 : MemOk e ((i, .memo (fun u => h u ∨ u = k) (fun _ => v)) :: delM m i) w := by
  intro p hp
  rcases List.mem_cons.1 hp with rfl | hp
  ·obtain ⟨h1, h2, es, c, h3, h4⟩ := hm _ (getM_mem hg)
   exact ⟨h1, h2, es, c, h3, fun x hx => ⟨.inl (h4 x hx).1, (h4 x hx).2.trans (hf _ (h4 x hx).1)⟩⟩
  ·exact hm p (delM_mem hp).1
 obtain ⟨w', q1, q2⟩ := upd_wrote (P := P) (t := t) (m := (i, .memo (fun u => h u ∨ u = k) (fun _ => v)) :: delM m i) (i := i) (h := fun u => h u ∨ u = k) (f := fun _ => v) (k := k) (z := z) (v := v) (by simp [getM]) mk (.inr rfl) rfl hE hm2
 refine ⟨w', q1, fun id u => ?_⟩
 obtain ⟨e', g1, g2, g3, g4, g5, g6, g7⟩ := q2 id u
 refine ⟨e', g1, g2, g3, g4, fun p hp => ?_, g6, g7⟩
 rcases List.mem_cons.1 hp with rfl | hp
 ·exact g5 _ List.mem_cons_self
 ·refine g5 p (List.mem_cons_of_mem _ ?_)
  have hne := (delM_mem hp).2
  have hd : ∀ (l : Mem), p ∈ l → p ∈ delM l i := by
   intro l hl
   induction l with
   | nil => cases hl
   | cons q t ih =>
    obtain ⟨k', q⟩ := q
    unfold delM
    rcases List.mem_cons.1 hl with rfl | hl
    ·split
     ·rename_i hk
      rw [Bool.or_eq_true] at hk
      rcases hk with hk | hk
      ·exact absurd (Nat.eq_of_beq_eq_true hk) hne.1
      ·rw [hne.2] at hk; cases hk
     ·exact List.mem_cons_self
    ·split
     ·exact ih hl
     ·exact List.mem_cons_of_mem _ (ih hl)
  have h1 : p ∈ (i, Res.memo (fun u => h u ∨ u = k) (fun _ => v)) :: delM m i := List.mem_cons_of_mem _ hp
  exact hd _ h1
end Go.Sx
