/- Texts of this claim, put together: SxNb -/
import Derived.Test.YtlinbkmpkcmniaaMg
import Derived.Still
set_option linter.unusedSimpArgs false
set_option linter.unusedVariables false
namespace Go.Sx
open Go Go.RowKit
def stillOp : Op → Bool
 | .move _ => true
 | .assign _ => true
 | .extract _ _ => true
 | .nilCheck _ => true
 | .fieldAddr _ _ _ => true
 | .load _ _ => true
 | .lookup _ _ _ _ => true
 | _ => false
def lookOp : Op → Bool
 | .lookup _ _ _ _ => true
 | _ => false
section
variable {P : Program}
def stT (P : Program) : List Oper → St → Tree St
 | [], s => .leaf s
 | o :: rest, s => match o.guard with
  | some _ => .fail
  | none => match stillOp o.op with
   | false => .fail
   | true => match aop P [] s.nx s.m (rho s.σ) o.op with
    | some (ns, val, _) => .needT ns (stT P rest { s with σ := setS s.σ o.dst val })
    | none => match aop2 P s.m (rho s.σ) o.op with
     | some (ns, p, v1, v2) => .needT ns (.may p (stT P rest { s with σ := setS s.σ o.dst v1 }) (stT P rest { s with σ := setS s.σ o.dst v2 }))
     | none => .fail
theorem still_value {o : Oper} {a : Act} {w : World} {v : Value} {K : Act → Prop} (h : (execOp a.eval o).run P w = .ok (.value v) w) (k : K (a.put o.dst v)) : o.still P a w K := by
 unfold Oper.still
 rw [h]
 exact ⟨rfl, k⟩
theorem still_of_wp {o : Oper} {a : Act} {w : World} {s : Sem Value} {K : Act → Prop} (hs : execOp a.eval o = (do pure (.value (← s)))) (h : o.wp P a w (fun a' w' => w' = w ∧ K a') (fun _ _ _ => False)) : o.still P a w K := by
 unfold Oper.wp at h
 rw [hs, Sem.run_bind] at h
 unfold Oper.still
 rw [hs, Sem.run_bind]
 cases hr : s.run P w with
 | ok u w' =>
  rw [hr] at h
  simp only [Result.andThen_ok, Sem.run_pure, Oper.upon] at h
  simp only [Result.andThen_ok, Sem.run_pure, Oper.stillUpon]
  exact h
 | halt x w' =>
  rw [hr] at h
  cases x <;> simp [Result.andThen, Oper.upon] at h
theorem aop_still {e : Env} {w : World} {m : Mem} {id : Nat} {ρ : Operand → AV} {o : Oper} {a : Act} {ns : List Prop} {val : AV} {add : Option Res} (ho : stillOp o.op = true)
  (h : aop P [] id m ρ o.op = some (ns, val, add)) (hn : ∀ p ∈ ns, p) (hm : MemOk e m w) (hr : ∀ x, Rep e w (ρ x) (a.eval x))
  {K : Act → Prop} (hK : ∀ v, Rep e w val v → K (a.put o.dst v)) : o.still P a w K := by
 obtain ⟨dst, op, type, pos, after, guard⟩ := o
 cases op <;> try (simp [stillOp] at ho; done)
 case move x =>
  simp only [aop, Option.some.injEq, Prod.mk.injEq] at h
  obtain ⟨rfl, rfl, rfl⟩ := h
  exact still_value (v := a.eval x) (by simp [execOp]) (hK _ (hr x))
 case assign x =>
  simp only [aop, Option.some.injEq, Prod.mk.injEq] at h
  obtain ⟨rfl, rfl, rfl⟩ := h
  exact still_value (v := a.eval x) (by simp [execOp]) (hK _ (hr x))
 case load t x =>
  obtain ⟨rfl, ad, u, hv, hu, hrep⟩ := opLoad_core (P := P) (by simpa only [aop] using h) hn hm (hr x)
  exact still_value (v := u) (by simp [execOp, Instr.loadAt, Instr.sureAddr, hv, hu]) (hK _ hrep)
 case nilCheck x =>
  simp only [aop] at h
  have hx := hr x
  have fin : val = ρ x → (∃ ad, a.eval x = .pointer (some ad)) ∨ (∃ f l l', a.eval x = .func (.func f) l l') → Oper.still P ⟨dst, .nilCheck x, type, pos, after, guard⟩ a w K := by
   rintro rfl hv
   refine still_value (v := a.eval x) ?_ (hK _ (hr x))
   rcases hv with ⟨ad, hv⟩ | ⟨f, l, l', hv⟩ <;> simp [execOp, hv]
  split at h
  ·rename_i heq; rw [heq] at hx; cases h; exact fin heq.symm (.inl hx.ptr_inv)
  ·rename_i heq; rw [heq] at hx; cases h; exact fin heq.symm (.inl hx.ro_inv)
  ·rename_i heq; rw [heq] at hx; cases h; exact fin heq.symm (.inl hx.elt_inv)
  ·rename_i heq; rw [heq] at hx; cases h; exact fin heq.symm (.inl hx.roI_inv)
  ·rename_i heq; rw [heq] at hx; cases h; obtain ⟨vs, vs', hv, _⟩ := hx.fn_inv; exact fin heq.symm (.inr ⟨_, _, _, hv⟩)
  ·cases h
 case fieldAddr t x k =>
  simp only [aop] at h
  unfold opFieldAddr at h
  split at h
  ·rename_i fs hu
   split at h
   ·rename_i f hf
    split at h
    ·rename_i i hi
     split at h
     ·cases h
     ·rename_i s hs
      obtain ⟨k1, rfl, rfl⟩ := pureO_some h
      obtain ⟨ad, hv, hrep⟩ := shiftP_rep k1 (hr x)
      refine still_value (v := _) ?_ (hK _ hrep)
      simp [execOp, hv, Instr.fieldAt, run_underlying hu, hf, Instr.sureAddr, fieldPlace, sizeOf, typeInfo, hi, hs]
    ·cases h
   ·cases h
  ·cases h
 case extract x i =>
  simp only [aop] at h
  have hx := hr x
  split at h
  ·rename_i l heq
   rw [heq] at hx
   obtain ⟨k1, rfl, rfl⟩ := pureO_some h
   obtain ⟨vs, hv, hvs⟩ := hx.tup_inv
   obtain ⟨u, hu, hrep⟩ := hvs.get k1
   exact still_value (v := u) (by simp [execOp, Instr.extract, hv, hu]) (hK _ hrep)
  ·cases h
 case lookup t x k ok => simp [aop] at h
theorem aop2_still {e : Env} {w : World} {m : Mem} {ρ : Operand → AV} {o : Oper} {a : Act} {ns : List Prop} {p : Prop} {v1 v2 : AV} (ho : stillOp o.op = true) (h : aop2 P m ρ o.op = some (ns, p, v1, v2)) (hn : ∀ p ∈ ns, p) (hm : MemOk e m w) (hr : ∀ x, Rep e w (ρ x) (a.eval x))
  {K : Act → Prop} (hK : ∀ v, (p ∧ Rep e w v1 v) ∨ Rep e w v2 v → K (a.put o.dst v)) : o.still P a w K := by
 have hwp := aop2_sound (P := P) (o := o) (a := a) (K := fun a' w' => w' = w ∧ K a') (Q := fun _ _ _ => False) h hn hm hr (fun v hv => ⟨rfl, hK v hv⟩)
 obtain ⟨dst, op, type, pos, after, guard⟩ := o
 cases op <;> try (simp [stillOp] at ho; done)
 case lookup t x k ok => exact still_of_wp rfl hwp
 all_goals simp [aop2] at h
theorem stT_sound {ops : Array Oper} {c : Cx} {w0 : World} {T : Nat → Prop} {e : Env} {w : World} {R : St → Prop} {g : Option Nat} : ∀ (l : List Oper) (s : St) (a : Act), (stT P l s).sat R → s.gh = g → RelE c w0 T e s a w →
  wpStill P ops w (fun a' => ∃ s', R s' ∧ s'.gh = g ∧ RelE c w0 T e s' a' w) l a
 | [], s, a, h, hg, r => ⟨s, h, hg, r⟩
 | o :: rest, s, a, h, hgh, r => by
  unfold stT at h
  split at h
  ·exact h.elim
  ·rename_i hg
   split at h
   ·exact h.elim
   ·rename_i ho
    have hw : Region.wanted o (yielded ops a.tmps) = true := by simp [Region.wanted, hg]
    unfold wpStill
    rw [if_pos hw]
    have keep : ∀ {av : AV} {v : Value}, Rep e w av v → RelE c w0 T e { s with σ := setS s.σ o.dst av } (a.put o.dst v) w := fun hrep =>
     ⟨r.env, r.below, r.mem, r.live, r.foe, by rw [put_defers]; exact r.xt, put_slots r.slots o.dst hrep⟩
    split at h
    ·rename_i ns val add ha
     obtain ⟨hn, h⟩ := Tree.sat_needT h
     exact aop_still ho ha (allP_mem hn) r.mem (rho_rep r.slots) fun v hv => stT_sound rest _ _ h hgh (keep hv)
    ·split at h
     ·rename_i ns p v1 v2 ha
      obtain ⟨hn, h⟩ := Tree.sat_needT h
      refine aop2_still ho ha (allP_mem hn) r.mem (rho_rep r.slots) fun v hv => ?_
      rcases hv with ⟨hp, hv⟩ | hv
      ·exact stT_sound rest _ _ (h.1 hp) hgh (keep hv)
      ·exact stT_sound rest _ _ h.2 hgh (keep hv)
     ·exact h.elim
theorem wpAnyIn_of_still {ops : Array Oper} {md : Region.Mode} {w : World} {ro : Option Nat} {n : Nat} {Q : Act → Prop} {Q' : Exit → Act → World → Prop} (hnd : ∀ (j : Nat) (o : Oper), ops[j]? = some o → ∀ c, o.op ≠ .defer c) (hQ : ∀ a, Q a → Q' .normal a w) :
  ∀ (fuel : Nat) (listed : Array Bool) (a : Act), wpAnyS P md ops w Q fuel listed a → wpAnyIn (fr ro) n P md ops Q' fuel listed a w
 | 0, _, _, h => ⟨h.1, hQ _ h.2⟩
 | fuel + 1, listed, a, h => ⟨fun h0 => hQ _ (h.1 h0), fun i hi => by
  have h := h.2 i hi
  have ih := fun l a => wpAnyIn_of_still (md := md) (ro := ro) (n := n) hnd hQ fuel l a
  unfold stOp at h
  unfold wpOpIn
  cases ho : ops[i]? with
  | none =>
   simp only [ho] at h
   exact ih _ _ h
  | some o =>
   simp only [ho] at h
   simp only
   by_cases hw : Region.wanted o (yielded ops a.tmps) = true
   ·rw [if_pos hw] at h ⊢
    exact wpIn_of_wp (hnd i o ho) (Oper.wp_of_still (fun a' h' => ih _ a' h') h)
   ·rw [if_neg hw] at h ⊢
    exact ⟨fun f _ => trivial, ih _ _ h⟩⟩
def allStill (ops : List Oper) : Bool := ops.any (fun o => lookOp o.op) && (ops.all (fun o => stillOp o.op) && Region.lexB .any ops.toArray)
theorem still_sound {ops : Array Oper} {c : Cx} (hmix : P.follows .mixedOrders = true) {id : Nat} {s : St} {R : St → Prop} {Q : Exit → Act → World → Prop} (hB : allStill ops.toList = true) (h : (stT P ops.toList s).sat R) {a : Act} {w : World} (r : Rel c s a w) {ro : Option Nat} {n : Nat}
  (hQ : ∀ s a w, R s → Rel c s a w → Q .normal a w) : (Code.region id ops true).wpIn (fr ro) n P Q a w := by
 obtain ⟨w0, T, e, hΦ, r⟩ := r
 unfold allStill at hB
 simp only [Bool.and_eq_true] at hB
 obtain ⟨_, hs, hlex⟩ := hB
 have hlex : Region.lexB .any ops = true := by simpa using hlex
 simp only [Region.lexB, Bool.and_eq_true] at hlex
 refine wpIn_region_any hmix ?_
 have h1 := stT_sound (ops := ops) ops.toList s a h rfl r.drew
 have h2 := wpAnyS_lex (md := .any) hlex.1 ops.toList 0 (Array.replicate ops.size false) a (by simp) (by simpa using hlex.2) h1
 refine wpAnyIn_of_still (Q := fun a' => ∃ s', R s' ∧ s'.gh = s.gh ∧ RelE c w0 T e s' a' { w with drawn := w.drawn + 1 }) (fun j o hj c hc => ?_) ?_ ops.size _ a (by simpa using h2)
 rotate_left
 ·rintro a' ⟨s', hR, hgh, r'⟩
  exact hQ s' a' _ hR ⟨w0, T, e, by rw [hgh]; exact hΦ, r'⟩
 have := List.all_eq_true.1 hs o (by
  have : ops.toList[j]? = some o := by simpa using hj
  exact List.mem_of_getElem? this)
 rw [hc] at this
 simp [stillOp] at this
end
def regF (P : Program) (G : List (Nat × Spec)) (X : Ext) (ops : List Oper) (s : St) : Tree St := match allStill ops with
 | true => stT P ops s
 | false => regE P G X ops s
theorem regF_sound {P : Program} {G : List (Nat × Spec)} {X : Ext} {ops : Array Oper} {c : Cx} (hG : SoundG P G) (hX : SoundX P X c) (hmix : P.follows .mixedOrders = true) {id : Nat} {s : St} {R : St → Prop} {Q : Exit → Act → World → Prop} (h : (regF P G X ops.toList s).sat R) {a : Act} {w : World} (r : Rel c s a w) {ro : Option Nat} {n : Nat}
  (hQ : ∀ s a w, R s → Rel c s a w → Q .normal a w) : (Code.region id ops true).wpIn (fr ro) n P Q a w := by
 unfold regF at h
 split at h
 ·rename_i hB
  exact still_sound hmix hB h r hQ
 ·exact regE_sound hG hX hmix h r hQ
end Go.Sx
