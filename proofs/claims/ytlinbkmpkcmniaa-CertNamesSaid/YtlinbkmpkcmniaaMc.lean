/- Texts of this claim, put together: SxD, SxE -/
import Derived.Test.YtlinbkmpkcmniaaMb
import Derived.Great.BuildSlice
set_option linter.unusedSimpArgs false
set_option linter.unusedVariables false
namespace Go.Sx
open Go Go.RowKit
section
variable {P : Program}
def pureO (a : Option AV) : Option Out := match a with | some r => some ([], r, none) | none => none
theorem pureO_some {a : Option AV} {ns : List Prop} {r : AV} {add : Option Res} (h : pureO a = some (ns, r, add)) : a = some r ∧ ns = [] ∧ add = none := by
 cases a with
 | none => simp [pureO] at h
 | some x => simp only [pureO, Option.some.injEq, Prod.mk.injEq] at h; obtain ⟨rfl, rfl, rfl⟩ := h; exact ⟨rfl, rfl, rfl⟩
theorem addrAdd (b o j : Nat) : (⟨b, o, none⟩ : Addr).add j = ⟨b, o + j, none⟩ := by unfold Addr.add; split <;> simp_all
def lstsL : List AV → Option (Nat × List (Nat × (Nat → List AV)))
 | [] => none
 | .lst sz n f :: t => match t with
  | [] => some (sz, [(n, f)])
  | _ :: _ => match lstsL t with
   | some (sz', r) => match Nat.beq sz sz' with
    | true => some (sz, (n, f) :: r)
    | false => none
   | none => none
 | _ => none
def nthN (l : List (Nat × (Nat → List AV))) (i : Nat) : Nat := (l.getD i (0, fun _ => [])).1
def nthF (l : List (Nat × (Nat → List AV))) (i : Nat) : Nat → List AV := (l.getD i (0, fun _ => [])).2
theorem lstsL_get : ∀ {l : List AV} {sz : Nat} {r : List (Nat × (Nat → List AV))}, lstsL l = some (sz, r) → ∀ i, i < l.length → l[i]? = some (.lst sz (nthN r i) (nthF r i))
 | [], _, _, h, _, _ => by simp [lstsL] at h
 | a :: t, sz, r, h, i, hi => by
  cases a with
  | lst sz1 n f =>
   cases t with
   | nil =>
    simp only [lstsL, Option.some.injEq, Prod.mk.injEq] at h
    obtain ⟨rfl, rfl⟩ := h
    have : i = 0 := by simp at hi; omega
    subst this
    rfl
   | cons b t =>
    simp only [lstsL] at h
    split at h
    ·rename_i sz' r' hr
     split at h
     ·rename_i hb
      have := Nat.eq_of_beq_eq_true hb
      subst this
      simp only [Option.some.injEq, Prod.mk.injEq] at h
      obtain ⟨rfl, rfl⟩ := h
      cases i with
      | zero => rfl
      | succ i =>
       have := lstsL_get hr i (by simpa using hi)
       simpa [nthN, nthF] using this
     ·cases h
    ·cases h
  | _ => simp [lstsL] at h
def lstsT (P : Program) (t : TypeId) (l : List AV) : Option (Nat × List (Nat × (Nat → List AV))) :=
 match P.underlying t with
 | some (.slice _) => match l with
  | _ :: _ :: _ => lstsL l
  | _ => none
 | _ => none
def subN : Nat → List AV → Nat
 | q, [] => q
 | q, _ :: l => subN (q - 1) l
theorem subN_eq : ∀ (l : List AV) (q : Nat), subN q l = q - l.length
 | [], q => rfl
 | _ :: l, q => by simp only [subN, subN_eq l, List.length_cons]; omega
def ldI (P : Program) (t : TypeId) (pre : List AV) (n : Nat) (f : Nat → Int) (off : Nat) : Option Out :=
 match Nat.ble (off + 1) pre.length with
 | true => pureO (ldL P t ((pre ++ intsL n f).drop off))
 | false => match P.underlying t, P.info? t with
  | some (.struct _), some i => some ([subN off pre + i.size ≤ n], .agg ((List.range i.size).map fun j => .x (.int .i64 (f (subN off pre + j)))), none)
  | some (.array _ _), some i => some ([subN off pre + i.size ≤ n], .agg ((List.range i.size).map fun j => .x (.int .i64 (f (subN off pre + j)))), none)
  | some _, some _ => some ([subN off pre < n], .x (.int .i64 (f (subN off pre))), none)
  | _, _ => none
theorem intsL_get {n : Nat} {f : Nat → Int} {k : Nat} (h : k < n) : (intsL n f)[k]? = some (.x (.int .i64 (f k))) := by simp [intsL, h]
theorem intsL_length (n : Nat) (f : Nat → Int) : (intsL n f).length = n := by simp [intsL]
theorem ldI_eq {t : TypeId} {pre : List AV} {n : Nat} {f : Nat → Int} {off : Nat} {ns : List Prop} {val : AV} {add : Option Res} (h : ldI P t pre n f off = some (ns, val, add)) (hn : ∀ p ∈ ns, p) :
  add = none ∧ ldL P t ((pre ++ intsL n f).drop off) = some val := by
 unfold ldI at h
 split at h
 ·obtain ⟨h1, _, h2⟩ := pureO_some h
  exact ⟨h2, h1⟩
 ·rename_i hb
  have hle : pre.length ≤ off := by
   rcases Nat.lt_or_ge off pre.length with h' | h'
   ·rw [Nat.ble_eq_true_of_le h'] at hb; cases hb
   ·exact h'
  have hd : ∀ j, ((pre ++ intsL n f).drop off)[j]? = (intsL n f)[subN off pre + j]? := by
   intro j
   rw [List.getElem?_drop, List.getElem?_append, if_neg (by omega), subN_eq]
   congr 1
   omega
  have agg : ∀ sz, subN off pre + sz ≤ n → ((pre ++ intsL n f).drop off).take sz = (List.range sz).map fun j => .x (.int .i64 (f (subN off pre + j))) := by
   intro sz hsz
   apply List.ext_getElem?
   intro j
   rw [List.getElem?_take]
   by_cases hj : j < sz
   ·rw [if_pos hj, hd, intsL_get (by omega)]
    simp [hj]
   ·rw [if_neg hj]
    simp [hj]
  have hlen : ((pre ++ intsL n f).drop off).length = n - subN off pre := by
   rw [List.length_drop, List.length_append, intsL_length, subN_eq]; omega
  split at h
  ·rename_i fs i hu hi
   simp only [Option.some.injEq, Prod.mk.injEq] at h
   obtain ⟨rfl, rfl, rfl⟩ := h
   have hsz : subN off pre + i.size ≤ n := hn _ (by simp)
   refine ⟨rfl, ?_⟩
   unfold ldL
   rw [hu, hi]
   simp only
   rw [Nat.ble_eq_true_of_le (by rw [hlen]; omega), ← agg _ hsz]
  ·rename_i k el i hu hi
   simp only [Option.some.injEq, Prod.mk.injEq] at h
   obtain ⟨rfl, rfl, rfl⟩ := h
   have hsz : subN off pre + i.size ≤ n := hn _ (by simp)
   refine ⟨rfl, ?_⟩
   unfold ldL
   rw [hu, hi]
   simp only
   rw [Nat.ble_eq_true_of_le (by rw [hlen]; omega), ← agg _ hsz]
  ·rename_i u i h1 h2 hu hi
   simp only [Option.some.injEq, Prod.mk.injEq] at h
   obtain ⟨rfl, rfl, rfl⟩ := h
   have hlt : subN off pre < n := hn _ (by simp)
   refine ⟨rfl, ?_⟩
   unfold ldL
   rw [hu, hi]
   have hh : ((pre ++ intsL n f).drop off).head? = some (.x (.int .i64 (f (subN off pre)))) := by
    rw [List.head?_eq_getElem?, hd, Nat.add_zero, intsL_get hlt]
   split
   ·rename_i fs _ he _; cases he; exact absurd rfl (h1 _)
   ·rename_i k el _ he _; cases he; exact absurd rfl (h2 _ _)
   ·exact hh
   ·rename_i hno; exact (hno _ _ rfl rfl).elim
  ·cases h
def opLoad (P : Program) (m : Mem) (t : TypeId) : AV → Option Out
 | .ptr id off => match getM m id with
  | some (.cells _ l) => match lstsT P t l with
   | some (sz, r) => some ([off < l.length], .lst sz (nthN r off) (nthF r off), none)
   | none => pureO (ldL P t (l.drop off))
  | some (.ints _ pre n f) => ldI P t pre n f off
  | _ => none
 | .roI pre n f off => ldI P t pre n f off
 | .ro l => pureO (ldL P t l)
 | .elt id sz i j => match getM m id with
  | some (.row _ sz' n f) => match Nat.beq sz sz' with
   | true => match ldL P t ((f i).drop j) with
    | some r => some ([i < n], r, none)
    | none => none
   | false => none
  | _ => none
 | _ => none
theorem cells_drop {w : World} {b : Nat} {vs : List Value} {o : Nat} (hc : ∀ (j : Nat) (v : Value), vs[j]? = some v → w.cell? ⟨b, o + j, none⟩ = some v) (k : Nat) :
  ∀ (j : Nat) (v : Value), (vs.drop k)[j]? = some v → w.cell? ⟨b, o + k + j, none⟩ = some v := by
 intro j v hj
 rw [List.getElem?_drop] at hj
 have := hc _ _ hj
 rwa [Nat.add_assoc]
theorem opLoad_core {e : Env} {w : World} {m : Mem} {t : TypeId} {a : AV} {v : Value} {ns : List Prop} {val : AV} {add : Option Res} (h : opLoad P m t a = some (ns, val, add)) (hn : ∀ p ∈ ns, p)
  (hm : MemOk e m w) (ra : Rep e w a v) : add = none ∧ ∃ ad u, v = .pointer (some ad) ∧ (loadVar t ad).run P w = .ok u w ∧ Rep e w val u := by
 cases ra with
 | ptr k off hl =>
  simp only [opLoad] at h
  split at h
  ·rename_i T l hg
   obtain ⟨_, _, vs, h3, h4⟩ := hm _ (getM_mem hg)
   have hc : ∀ (j : Nat) (v : Value), vs[j]? = some v → w.cell? ⟨e.blk k, 0 + j, none⟩ = some v := by
    intro j v hj
    simp [World.cell?, h3, hj]
   split at h
   ·rename_i sz r hlt
    simp only [Option.some.injEq, Prod.mk.injEq] at h
    obtain ⟨rfl, rfl, rfl⟩ := h
    have hlen : off < l.length := hn _ (by simp)
    unfold lstsT at hlt
    split at hlt
    ·rename_i el hu
     split at hlt
     ·obtain ⟨v, hv, hr⟩ := h4.get (lstsL_get hlt off hlen)
      refine ⟨rfl, _, v, rfl, ?_, hr⟩
      have := hc off v hv
      simp only [Nat.zero_add] at this
      simp [loadVar, isAgg, run_underlying hu, this]
     ·cases hlt
    ·cases hlt
   obtain ⟨h1, rfl, rfl⟩ := pureO_some h
   obtain ⟨u, hu, hr⟩ := run_loadVar_cells (P := P) h1 (h4.drop off) (cells_drop hc off)
   simp only [Nat.zero_add] at hu
   exact ⟨rfl, _, u, rfl, hu, hr⟩
  ·rename_i T pre n f hg
   obtain ⟨_, _, vs, h3, h4⟩ := hm _ (getM_mem hg)
   have hc : ∀ (j : Nat) (v : Value), vs[j]? = some v → w.cell? ⟨e.blk k, 0 + j, none⟩ = some v := by
    intro j v hj
    simp [World.cell?, h3, hj]
   obtain ⟨rfl, h1⟩ := ldI_eq h hn
   obtain ⟨u, hu, hr⟩ := run_loadVar_cells (P := P) h1 (h4.drop off) (cells_drop hc off)
   simp only [Nat.zero_add] at hu
   exact ⟨rfl, _, u, rfl, hu, hr⟩
  ·cases h
 | roI pre n f off b o hr0 =>
  simp only [opLoad] at h
  obtain ⟨rfl, h1⟩ := ldI_eq h hn
  cases hr0 with
  | ro l vs _ _ g1 g2 hf g3 g4 g5 =>
   obtain ⟨u, hu, hr⟩ := run_loadVar_cells (P := P) h1 (RepL.drop (⟨g3, g5⟩ : RepL e w _ vs) off) (cells_drop g4 off)
   exact ⟨rfl, _, u, rfl, hu, hr⟩
 | ro l vs b o h1 h2 hf h3 h4 h5 =>
  simp only [opLoad] at h
  obtain ⟨k1, rfl, rfl⟩ := pureO_some h
  obtain ⟨u, hu, hr⟩ := run_loadVar_cells (P := P) k1 (⟨h3, h5⟩ : RepL e w l vs) h4
  exact ⟨rfl, _, u, rfl, hu, hr⟩
 | elt k sz i j b n cap hl hv =>
  simp only [opLoad] at h
  split at h
  ·rename_i T sz' n' f hg
   split at h
   ·rename_i hs
    have hs' : sz = sz' := Nat.eq_of_beq_eq_true hs
    subst hs'
    split at h
    ·rename_i r hr
     simp only [Option.some.injEq, Prod.mk.injEq] at h
     obtain ⟨rfl, rfl, rfl⟩ := h
     have hi : i < n' := hn _ (by simp)
     obtain ⟨_, _, hf, xs, hx, hrep⟩ := hm _ (getM_mem hg)
     have hcell : ∀ (q : Nat) (u : Value), xs[q]? = some u → w.cell? ⟨b, q, none⟩ = some u := by
      intro q u hq
      have := hx.cells (g := b) (by rw [hv]; rfl) q u hq
      rwa [addrAdd, Nat.zero_add] at this
     have hxl : xs.length = n' * sz := hx.1
     have hle : i * sz + sz ≤ n' * sz := by
      have := Nat.mul_le_mul_right sz (Nat.succ_le_of_lt hi)
      rwa [Nat.succ_mul] at this
     have hR : RepL e w (f i) ((xs.drop (i * sz)).take sz) := by
      refine ⟨by rw [(hf i hi).1, List.length_take, List.length_drop, hxl]; omega, fun q a v ha hv' => ?_⟩
      rw [List.getElem?_take] at hv'
      split at hv'
      ·rw [List.getElem?_drop] at hv'; exact hrep i q a v hi ha hv'
      ·cases hv'
     have hc : ∀ (q : Nat) (u : Value), ((xs.drop (i * sz)).take sz)[q]? = some u → w.cell? ⟨b, i * sz + q, none⟩ = some u := by
      intro q u hq
      rw [List.getElem?_take] at hq
      split at hq
      ·rw [List.getElem?_drop] at hq; exact hcell _ _ hq
      ·cases hq
     obtain ⟨u, hu, hr'⟩ := run_loadVar_cells (P := P) hr (hR.drop j) (cells_drop hc j)
     exact ⟨rfl, _, u, rfl, hu, hr'⟩
    ·cases h
   ·cases h
  ·cases h
 | _ => simp [opLoad] at h
theorem opLoad_sound {e : Env} {B : Nat} {w : World} {m : Mem} {id : Nat} {t : TypeId} {a : AV} {v : Value} {ns : List Prop} {val : AV} {add : Option Res} (h : opLoad P m t a = some (ns, val, add)) (hn : ∀ p ∈ ns, p)
  (hE : EnvOk e B w) (hm : MemOk e m w) (ra : Rep e w a v) : ∃ u w', (Instr.loadAt t v).run P w = .ok u w' ∧ Came e B w m id val add u w' := by
 obtain ⟨rfl, ad, u, rfl, hu, hr⟩ := opLoad_core h hn hm ra
 exact ⟨u, w, by simp [Instr.loadAt, Instr.sureAddr, hu], came_same hE hm hr⟩
def opField (P : Program) (t : TypeId) (k : Nat) : AV → Option Out
 | .agg l => match P.underlying t with
  | some (.struct fs) => match fs[k]? with
   | some f => pureO (partL P f.type l f.offset)
   | none => none
  | _ => none
 | _ => none
theorem opField_sound {e : Env} {B : Nat} {w : World} {m : Mem} {id : Nat} {t : TypeId} {k : Nat} {a : AV} {v : Value} {ns : List Prop} {val : AV} {add : Option Res} (h : opField P t k a = some (ns, val, add))
  (hE : EnvOk e B w) (hm : MemOk e m w) (ra : Rep e w a v) : ∃ u w', (Instr.field t v k).run P w = .ok u w' ∧ Came e B w m id val add u w' := by
 cases ra with
 | agg l vs h1 h2 =>
  simp only [opField] at h
  split at h
  ·rename_i fs hu
   split at h
   ·rename_i f hf
    obtain ⟨k1, rfl, rfl⟩ := pureO_some h
    obtain ⟨u, hu', hr⟩ := run_part (P := P) k1 (⟨h1, h2⟩ : RepL e w l vs)
    exact ⟨u, w, by simp [Instr.field, run_underlying hu, hf, asAgg, hu'], came_same hE hm hr⟩
   ·cases h
  ·cases h
 | _ => simp [opField] at h
def shiftP (off : Nat) : AV → Option AV
 | .ptr id o => some (.ptr id (o + off))
 | .ro l => match Nat.ble off l.length with
  | true => some (.ro (l.drop off))
  | false => none
 | .elt id sz i j => some (.elt id sz i (j + off))
 | .roI pre n f o => some (.roI pre n f (o + off))
 | _ => none
theorem shiftP_rep {e : Env} {w : World} {off : Nat} {a r : AV} {v : Value} (h : shiftP off a = some r) (ra : Rep e w a v) : ∃ ad : Addr, v = .pointer (some ad) ∧ Rep e w r (.pointer (some (ad.add off))) := by
 cases ra with
 | ptr id o hl => simp only [shiftP, Option.some.injEq] at h; subst h; exact ⟨_, rfl, by rw [addrAdd]; exact .ptr id (o + off) hl⟩
 | elt id sz i j b n cap hl hv =>
  simp only [shiftP, Option.some.injEq] at h; subst h
  exact ⟨_, rfl, by rw [addrAdd, Nat.add_assoc]; exact .elt id sz i (j + off) b n cap hl hv⟩
 | roI pre n f o b o0 hr0 =>
  simp only [shiftP, Option.some.injEq] at h; subst h
  exact ⟨_, rfl, by rw [addrAdd, Nat.add_assoc]; exact .roI pre n f (o + off) b o0 hr0⟩
 | ro l vs b o h1 h2 hf h3 h4 h5 =>
  simp only [shiftP] at h
  split at h
  ·cases h
   refine ⟨_, rfl, ?_⟩
   rw [addrAdd]
   exact .ro _ (vs.drop off) b (o + off) h1 h2 (fun a ha => hf a (List.mem_of_mem_drop ha)) (by simp [h3]) (cells_drop h4 off) (RepL.drop (⟨h3, h5⟩ : RepL e w l vs) off).2
  ·cases h
 | _ => simp [shiftP] at h
def isI (m : Mem) : AV → Bool
 | .roI _ _ _ _ => true
 | .ptr id _ => match getM m id with
  | some (.ints _ _ _ _) => true
  | _ => false
 | _ => false
def idxP (m : Mem) (off : Nat) (a : AV) : Option AV := match isI m a with
 | true => match a with
  | .roI pre n f o => some (.roI pre n f (off + o))
  | .ptr id o => some (.ptr id (off + o))
  | _ => none
 | false => shiftP off a
theorem idxP_eq {m : Mem} {off : Nat} {a r : AV} (h : idxP m off a = some r) : shiftP off a = some r := by
 unfold idxP at h
 split at h
 ·split at h
  ·cases h; simp only [shiftP]; rw [Nat.add_comm]
  ·cases h; simp only [shiftP]; rw [Nat.add_comm]
  ·cases h
 ·exact h
def opFieldAddr (P : Program) (t : TypeId) (k : Nat) (a : AV) : Option Out :=
 match P.underlying t with
 | some (.struct fs) => match fs[k]? with
  | some f => match P.info? f.type with
   | some i => match i.size with
    | 0 => none
    | _ + 1 => pureO (shiftP f.offset a)
   | none => none
  | none => none
 | _ => none
theorem opFieldAddr_sound {e : Env} {B : Nat} {w : World} {m : Mem} {id : Nat} {t : TypeId} {k : Nat} {a : AV} {v : Value} {ns : List Prop} {val : AV} {add : Option Res} (h : opFieldAddr P t k a = some (ns, val, add))
  (hE : EnvOk e B w) (hm : MemOk e m w) (ra : Rep e w a v) : ∃ u w', (Instr.fieldAt t v k).run P w = .ok u w' ∧ Came e B w m id val add u w' := by
 unfold opFieldAddr at h
 split at h
 ·rename_i fs hu
  split at h
  ·rename_i f hf
   split at h
   ·rename_i i hi
    split at h
    ·cases h
    ·rename_i s hs
     obtain ⟨k1, rfl, rfl⟩ := pureO_some h
     obtain ⟨ad, rfl, hr⟩ := shiftP_rep k1 ra
     exact ⟨_, w, by simp [Instr.fieldAt, run_underlying hu, hf, Instr.sureAddr, fieldPlace, sizeOf, typeInfo, hi, hs], came_same hE hm hr⟩
   ·cases h
  ·cases h
 ·cases h
def opIndexAddr (P : Program) (m : Mem) (t : TypeId) (a ix : AV) : Option Out :=
 match ix with
 | .x (.int _ i) => match P.underlying t with
  | some (.slice el) => match P.info? el with
   | some info => match a with
    | .lst sz n f => match Nat.beq info.size sz with
     | true => some ([0 ≤ i ∧ i < (n : Int)], .ro (f i.toNat), none)
     | false => none
    | .row id => match getM m id with
     | some (.row _ sz n _) => match Nat.beq info.size sz with
      | true => some ([0 ≤ i ∧ i < (n : Int)], .elt id sz i.toNat 0, none)
      | false => none
     | _ => none
    | _ => none
   | none => none
  | some (.array n el) => match P.info? el with
   | some info => match idxP m (i.toNat * info.size) a with
    | some r => some ([0 ≤ i ∧ i < (n : Int)], r, none)
    | none => none
   | none => none
  | _ => none
 | _ => none
theorem elem_eq {t el : TypeId} (hu : P.underlying t = some (.slice el)) : P.elem t = el := by simp [Program.elem, hu]
theorem opIndexAddr_sound {e : Env} {B : Nat} {w : World} {m : Mem} {id : Nat} {t : TypeId} {a ix : AV} {v vi : Value} {ns : List Prop} {val : AV} {add : Option Res} (h : opIndexAddr P m t a ix = some (ns, val, add)) (hn : ∀ p ∈ ns, p)
  (hE : EnvOk e B w) (hm : MemOk e m w) (ra : Rep e w a v) (ri : Rep e w ix vi) : ∃ u w', (Instr.indexAt t v vi).run P w = .ok u w' ∧ Came e B w m id val add u w' := by
 unfold opIndexAddr at h
 split at h
 ·rename_i k i
  cases ri.x_inv
  split at h
  ·rename_i el hu
   have hel := elem_eq hu
   split at h
   ·rename_i info hi
    split at h
    ·rename_i sz n f
     split at h
     ·rename_i hs
      have hs' : info.size = sz := Nat.eq_of_beq_eq_true hs
      subst hs'
      simp only [Option.some.injEq, Prod.mk.injEq] at h
      obtain ⟨rfl, rfl, rfl⟩ := h
      have hb : 0 ≤ i ∧ i < (n : Int) := hn _ (by simp)
      cases ra with
      | lstNil sz f => omega
      | lst sz n f b o cap g h1 h2 hid h3 h3' h4 h5 h6 ad had =>
       have hlt : i.toNat < n := by omega
       obtain rfl := had (by omega)
       refine ⟨.pointer (some ⟨b, o + i.toNat * info.size, none⟩), w, ?_, came_same hE hm ?_⟩
       ·rw [run_indexAt_slice w t _ n cap k i (by rw [hel]; exact hu), if_pos hb]
        simp [sizeOf, typeInfo, hel, hi, addrAdd]
       ·refine .ro _ ((List.range info.size).map (g i.toNat)) b _ (h1 (by omega)) (h2 (by omega)) (hid _ hlt) (by simp [h5 _ hlt]) ?_ ?_
        ·intro j u hj
         simp only [List.getElem?_map, Option.map_eq_some_iff] at hj
         obtain ⟨q, hq, rfl⟩ := hj
         obtain ⟨hq1, hq2⟩ := List.getElem?_eq_some_iff.1 hq
         simp at hq1 hq2
         subst hq2
         rw [Nat.add_assoc]
         exact h4 _ _ hlt hq1
        ·intro j a u ha hj
         simp only [List.getElem?_map, Option.map_eq_some_iff] at hj
         obtain ⟨q, hq, rfl⟩ := hj
         obtain ⟨hq1, hq2⟩ := List.getElem?_eq_some_iff.1 hq
         simp at hq1 hq2
         subst hq2
         exact h6 _ _ _ hlt ha
     ·cases h
    ·rename_i k'
     split at h
     ·rename_i T sz n f hg
      split at h
      ·rename_i hs
       have hs' : info.size = sz := Nat.eq_of_beq_eq_true hs
       subst hs'
       simp only [Option.some.injEq, Prod.mk.injEq] at h
       obtain ⟨rfl, rfl, rfl⟩ := h
       have hb : 0 ≤ i ∧ i < (n : Int) := hn _ (by simp)
       obtain ⟨hlv, hown, hf, xs, hx, hrep⟩ := hm _ (getM_mem hg)
       cases ra with
       | row _ a n' c hl hv =>
        rcases hx.2 with ⟨hv0, hn0⟩ | ⟨g, cap, cur, hv0, _, _⟩
        ·omega
        ·rw [hv] at hv0
         cases hv0
         refine ⟨.pointer (some ⟨g, i.toNat * info.size + 0, none⟩), w, ?_, came_same hE hm (.elt _ _ _ _ g _ _ hl hv)⟩
         rw [run_indexAt_slice w t _ _ _ k i (by rw [hel]; exact hu), if_pos hb]
         simp [sizeOf, typeInfo, hel, hi, addrAdd]
      ·cases h
     ·cases h
    ·cases h
   ·cases h
  ·rename_i n el hu
   split at h
   ·rename_i info hi
    split at h
    ·rename_i r hr
     simp only [Option.some.injEq, Prod.mk.injEq] at h
     obtain ⟨rfl, rfl, rfl⟩ := h
     have hb : 0 ≤ i ∧ i < (n : Int) := hn _ (by simp)
     obtain ⟨ad, rfl, hrep⟩ := shiftP_rep (idxP_eq hr) ra
     refine ⟨.pointer (some (ad.add (i.toNat * info.size))), w, ?_, came_same hE hm hrep⟩
     have hel : P.elem t = el := by simp [Program.elem, hu]
     have hal : P.arrayLen t = n := by simp [Program.arrayLen, hu]
     rw [run_indexAt_array w t ad k i (by rw [hel, hal]; exact hu), hal, if_pos hb]
     simp [sizeOf, typeInfo, hel, hi]
    ·cases h
   ·cases h
  ·cases h
 ·cases h
end
end Go.Sx
namespace Go.Sx
open Go Go.RowKit
section
variable {P : Program}
def boolOf : AV → Option Bool
 | .lit b => some b
 | .x (.bool b) => some b
 | _ => none
theorem boolOf_rep {e : Env} {w : World} {a : AV} {v : Value} {b : Bool} (h : boolOf a = some b) (r : Rep e w a v) : v = .bool b := by
 cases r with
 | lit b' => simp [boolOf] at h; rw [h]
 | x v => cases v <;> simp [boolOf] at h; rw [h]
 | _ => simp [boolOf] at h
def eqA (P : Program) : Nat → TypeId → AV → AV → Option Bool
 | 0, _, _, _ => none
 | d + 1, t, a, b =>
  match P.underlying t with
  | some (.int _) => match a, b with
   | .x (.int k x), .x (.int k' y) => match decide (k = k') with
    | true => some (x == y)
    | false => none
   | _, _ => none
  | some .bool => match boolOf a, boolOf b with
   | some x, some y => some (x == y)
   | _, _ => none
  | some .string => match a, b with
   | .x (.string x), .x (.string y) => some (x.toList == y.toList)
   | _, _ => none
  | some (.struct fs) => match a, b with
   | .agg xs, .agg ys => match P.stoodInHeld t with
    | true => none
    | false => fs.toList.foldr (fun f acc => match decide (f.name = "_") with
      | true => acc
      | false => match partL P f.type xs f.offset, partL P f.type ys f.offset with
       | some p, some q => match eqA P d f.type p q, acc with
        | some r, some s => some (r && s)
        | _, _ => none
       | _, _ => none) (some true)
   | _, _ => none
  | _ => none
theorem eqA_sound {e : Env} {w : World} : ∀ (d : Nat) (t : TypeId) (a b : AV) (va vb : Value) (r : Bool), eqA P d t a b = some r → Rep e w a va → Rep e w b vb → (Op.equalIn d t va vb).run P w = .ok r w
 | 0, _, _, _, _, _, _, h, _, _ => by simp [eqA] at h
 | d + 1, t, a, b, va, vb, r, h, ra, rb => by
  unfold eqA at h
  split at h
  ·rename_i k0 hu
   split at h
   ·rename_i k x k' y
    cases ra.x_inv; cases rb.x_inv
    split at h
    ·rename_i hk
     have hk' : k = k' := of_decide_eq_true hk
     subst hk'
     cases h
     exact run_equalIn_int w d t k k0 x y hu
    ·cases h
   ·cases h
  ·rename_i hu
   split at h
   ·rename_i x y hx hy
    cases boolOf_rep hx ra; cases boolOf_rep hy rb
    cases h
    exact run_equalIn_bool' w d t x y hu
   ·cases h
  ·rename_i hu
   split at h
   ·rename_i x y
    cases ra.x_inv; cases rb.x_inv
    cases h
    exact run_equalIn_string w d t x y hu
   ·cases h
  ·rename_i fs hu
   split at h
   ·rename_i xs ys
    obtain ⟨vs, rfl, hvs⟩ := ra.agg_inv
    obtain ⟨us, rfl, hus⟩ := rb.agg_inv
    split at h
    ·cases h
    ·rename_i hst
     have hfs : P.fieldsOf t = fs := by simp [Program.fieldsOf, hu]
     rw [run_equalIn_struct w d t _ _ (by rw [hfs]; exact hu) hst, hfs]
     clear hfs hu
     generalize fs.toList = l at h
     induction l generalizing r with
     | nil => simp at h; subst h; rfl
     | cons f l ih =>
      simp only [List.foldr_cons] at h
      split at h
      ·rename_i hn
       have hn' : f.name = "_" := of_decide_eq_true hn
       simp only [Op.eqFields, hn', ne_eq, not_true_eq_false, if_false]
       exact ih r h
      ·rename_i hn
       have hn' : f.name ≠ "_" := of_decide_eq_false hn
       split at h
       ·rename_i p q hp hq
        split at h
        ·rename_i r1 s hr1 hacc
         cases h
         obtain ⟨v1, hv1, rep1⟩ := run_part (P := P) hp hvs
         obtain ⟨v2, hv2, rep2⟩ := run_part (P := P) hq hus
         have h1 := eqA_sound d f.type p q v1 v2 r1 hr1 rep1 rep2
         have h2 := ih s hacc
         simp only [Op.eqFields, hn', ne_eq, not_false_eq_true, if_true, Sem.run_bind, hv1, Result.andThen_ok, hv2, h1]
         cases r1
         ·simp
         ·simp [h2]
        ·cases h
       ·cases h
   ·cases h
  ·cases h
def cmpI (op : BinOp) (a b : Int) : Option Bool :=
 match op with
 | .eql => some (a == b)
 | .neq => some (a != b)
 | .lss => some (decide (a < b))
 | .leq => some (decide (a ≤ b))
 | .gtr => some (decide (a > b))
 | .geq => some (decide (a ≥ b))
 | _ => none
def andI (a b : Int) : Int := IntKind.i64.wrap (BitVec.ofInt 64 a &&& BitVec.ofInt 64 b).toNat
def orI (a b : Int) : Int := IntKind.i64.wrap (BitVec.ofInt 64 a ||| BitVec.ofInt 64 b).toNat
def anI (a b : Int) : Int := IntKind.i64.wrap (BitVec.ofInt 64 a &&& ~~~(BitVec.ofInt 64 b)).toNat
def arI (op : BinOp) (a b : Int) : Option (List Prop × Int) :=
 match op with
 | .add => some ([inI64 (a + b)], a + b)
 | .sub => some ([inI64 (a - b)], a - b)
 | .mul => some ([inI64 (a * b)], a * b)
 | .quo => some ([b ≠ 0, inI64 (a.tdiv b)], a.tdiv b)
 | .rem => some ([b ≠ 0], a.tmod b)
 | .and => some ([], andI a b)
 | .or => some ([], orI a b)
 | .andNot => some ([], anI a b)
 | .shl => some ([0 ≤ b ∧ b ≤ 64, inI64 (a * 2 ^ b.toNat)], a * 2 ^ b.toNat)
 | .shr => some ([0 ≤ b ∧ b ≤ 64], a / 2 ^ b.toNat)
 | _ => none
def shI (op : BinOp) (k : IntKind) (a b : Int) : Option (List Prop × Int) := match decide (k = .i64) with
 | true => match op with
  | .shl => some ([0 ≤ b ∧ b ≤ 64, inI64 (a * 2 ^ b.toNat)], a * 2 ^ b.toNat)
  | .shr => some ([0 ≤ b ∧ b ≤ 64], a / 2 ^ b.toNat)
  | _ => none
 | false => none
theorem shI_sound {op : BinOp} {k yk : IntKind} {a b r : Int} {t : TypeId} {ns : List Prop} (h : shI op k a b = some (ns, r)) (hn : ∀ p ∈ ns, p) (w : World) : (binOp op t (.int k a) (.int yk b)).run P w = .ok (.int .i64 r) w := by
 unfold shI at h
 split at h
 ·rename_i hk
  have hk' : k = .i64 := of_decide_eq_true hk
  subst hk'
  split at h
  ·cases h
   have h1 : 0 ≤ b ∧ b ≤ 64 := hn _ (by simp)
   have h2 : inI64 (a * 2 ^ b.toNat) := hn _ (by simp)
   have h3 : ¬ b < 0 := by omega
   have h4 : min b.toNat 64 = b.toNat := by omega
   simp [binOp, Op.shift, h3, IntKind.bits, h4, wrap_i64 h2]
  ·cases h
   have h1 : 0 ≤ b ∧ b ≤ 64 := hn _ (by simp)
   have h3 : ¬ b < 0 := by omega
   have h4 : min b.toNat 64 = b.toNat := by omega
   simp [binOp, Op.shift, h3, IntKind.bits, h4]
  ·cases h
 ·cases h
def opBin (P : Program) (op : BinOp) (t : TypeId) (x y : AV) : Option Out :=
 match x, y with
 | .x (.int k a), .x (.int k' b) => match decide (k = k') with
  | true => match cmpI op a b with
   | some r => some ([], .x (.bool r), none)
   | none => match decide (k = .i64) with
    | true => match arI op a b with
     | some (ns, r) => some (ns, .x (.int .i64 r), none)
     | none => none
    | false => match op, decide (k = .u16) with
     | .quo, true => some ([b ≠ 0, 0 ≤ a.tdiv b ∧ a.tdiv b ≤ 65535], .x (.int .u16 (a.tdiv b)), none)
     | _, _ => none
  | false => match shI op k a b with
   | some (ns, r) => some (ns, .x (.int .i64 r), none)
   | none => none
 | .x (.string a), .x (.string b) => match op with
  | .eql => some ([], .x (.bool (a.toList == b.toList)), none)
  | .neq => some ([], .x (.bool (!(a.toList == b.toList))), none)
  | _ => none
 | .agg l, .agg l' => match P.eqGuardType P.depth t with
  | true => none
  | false => match op, eqA P 10000 t (.agg l) (.agg l') with
   | .eql, some r => some ([], .x (.bool r), none)
   | .neq, some r => some ([], .x (.bool !r), none)
   | _, _ => none
 | x, y => match boolOf x, boolOf y, P.underlying t with
  | some a, some b, some .bool => match op with
   | .eql => some ([], .x (.bool (a == b)), none)
   | .neq => some ([], .x (.bool (!(a == b))), none)
   | _ => none
  | _, _, _ => none
theorem opBin_sound {e : Env} {B : Nat} {w : World} {m : Mem} {id : Nat} {op : BinOp} {t : TypeId} {ox oy : Operand} {x y : AV} {vx vy : Value} {ns : List Prop} {val : AV} {add : Option Res} (h : opBin P op t x y = some (ns, val, add)) (hn : ∀ p ∈ ns, p)
  (hE : EnvOk e B w) (hm : MemOk e m w) (rx : Rep e w x vx) (ry : Rep e w y vy) :
  ∃ u w', (do eqGuard op t ox oy vx vy; binOp op t vx vy : Sem Value).run P w = .ok u w' ∧ Came e B w m id val add u w' := by
 unfold opBin at h
 split at h
 ·rename_i k a k' b
  cases rx.x_inv; cases ry.x_inv
  have hg : (eqGuard op t ox oy (.int k a) (.int k' b)).run P w = .ok () w := by cases op <;> simp [eqGuard]
  split at h
  ·rename_i hk
   have hk' : k = k' := of_decide_eq_true hk
   subst hk'
   split at h
   ·rename_i r hr
    cases h
    refine ⟨.bool r, w, ?_, came_same hE hm (.x _)⟩
    rw [Sem.run_bind, hg]
    cases op <;> simp [cmpI] at hr <;> subst hr <;> simp [binOp, Op.intCmp]
   ·rename_i hr
    split at h
    ·rename_i hi
     have hi' : k = .i64 := of_decide_eq_true hi
     subst hi'
     split at h
     ·rename_i ns' r har
      cases h
      refine ⟨.int .i64 r, w, ?_, came_same hE hm (.x _)⟩
      rw [Sem.run_bind, hg]
      cases op <;> simp [arI] at har
      case add =>
       obtain ⟨rfl, rfl⟩ := har
       have h1 : inI64 (a + b) := hn _ (by simp)
       simp [binOp, Op.intArith, wrap_i64 h1]
      case sub =>
       obtain ⟨rfl, rfl⟩ := har
       have h1 : inI64 (a - b) := hn _ (by simp)
       simp [binOp, Op.intArith, wrap_i64 h1]
      case mul =>
       obtain ⟨rfl, rfl⟩ := har
       have h1 : inI64 (a * b) := hn _ (by simp)
       simp [binOp, Op.intArith, wrap_i64 h1]
      case quo =>
       obtain ⟨rfl, rfl⟩ := har
       have h0 : b ≠ 0 := hn _ (by simp)
       have h1 : inI64 (a.tdiv b) := hn _ (by simp)
       simp [binOp, Op.intDiv, h0, wrap_i64 h1]
      case rem =>
       obtain ⟨rfl, rfl⟩ := har
       have h0 : b ≠ 0 := hn _ (by simp)
       simp [binOp, Op.intDiv, h0]
      case and =>
       obtain ⟨rfl, rfl⟩ := har
       rfl
      case or =>
       obtain ⟨rfl, rfl⟩ := har
       rfl
      case andNot =>
       obtain ⟨rfl, rfl⟩ := har
       rfl
      case shl =>
       obtain ⟨rfl, rfl⟩ := har
       have h1 : 0 ≤ b ∧ b ≤ 64 := hn _ (by simp)
       have h2 : inI64 (a * 2 ^ b.toNat) := hn _ (by simp)
       have h3 : ¬ b < 0 := by omega
       have h4 : min b.toNat 64 = b.toNat := by omega
       simp [binOp, Op.shift, h3, IntKind.bits, h4, wrap_i64 h2]
      case shr =>
       obtain ⟨rfl, rfl⟩ := har
       have h1 : 0 ≤ b ∧ b ≤ 64 := hn _ (by simp)
       have h3 : ¬ b < 0 := by omega
       have h4 : min b.toNat 64 = b.toNat := by omega
       simp [binOp, Op.shift, h3, IntKind.bits, h4]
     ·cases h
    ·split at h
     ·rename_i hk2
      have hk3 : k = .u16 := of_decide_eq_true hk2
      subst hk3
      cases h
      refine ⟨.int .u16 (a.tdiv b), w, ?_, came_same hE hm (.x _)⟩
      rw [Sem.run_bind, hg]
      have h0 : b ≠ 0 := hn _ (by simp)
      have h1 : 0 ≤ a.tdiv b ∧ a.tdiv b ≤ 65535 := hn _ (by simp)
      have e : IntKind.u16.wrap (a.tdiv b) = a.tdiv b := by
       have e1 : IntKind.u16.wrap (a.tdiv b) = (a.tdiv b) % 2 ^ 16 := rfl
       rw [e1, Int.emod_eq_of_lt (by omega) (by omega)]
      simp [binOp, Op.intDiv, h0, e]
     ·cases h
  ·split at h
   ·rename_i ns' r hsh
    cases h
    refine ⟨.int .i64 r, w, ?_, came_same hE hm (.x _)⟩
    rw [Sem.run_bind, hg]
    exact shI_sound hsh hn w
   ·cases h
 ·rename_i a b
  cases rx.x_inv; cases ry.x_inv
  have hg : (eqGuard op t ox oy (.string a) (.string b)).run P w = .ok () w := by cases op <;> simp [eqGuard]
  split at h
  ·cases h
   refine ⟨_, w, ?_, came_same hE hm (.x _)⟩
   rw [Sem.run_bind, hg]; simp [binOp, Op.stringOp]
  ·cases h
   refine ⟨_, w, ?_, came_same hE hm (.x _)⟩
   rw [Sem.run_bind, hg]; simp [binOp, Op.stringOp]
  ·cases h
 ·rename_i l l'
  split at h
  ·cases h
  ·rename_i hgt
   obtain ⟨vs, rfl, _⟩ := rx.agg_inv
   obtain ⟨us, rfl, _⟩ := ry.agg_inv
   have hg := run_eqGuard_agg (P := P) w op t ox oy vs.toArray us.toArray hgt
   split at h
   ·rename_i r hr
    cases h
    have := eqA_sound (P := P) 10000 t _ _ _ _ r hr rx ry
    refine ⟨_, w, ?_, came_same hE hm (.x _)⟩
    rw [Sem.run_bind, hg, Result.andThen_ok, run_eql_struct, this]; rfl
   ·rename_i r hr
    cases h
    have := eqA_sound (P := P) 10000 t _ _ _ _ r hr rx ry
    refine ⟨_, w, ?_, came_same hE hm (.x _)⟩
    rw [Sem.run_bind, hg, Result.andThen_ok, run_neq_struct, this]; rfl
   ·cases h
 ·split at h
  ·rename_i a b ha hb hu
   cases boolOf_rep ha rx; cases boolOf_rep hb ry
   have hg : (eqGuard op t ox oy (.bool a) (.bool b)).run P w = .ok () w := by cases op <;> simp [eqGuard]
   have he : (Op.equal t (.bool a) (.bool b)).run P w = .ok (a == b) w := run_equalIn_bool' w 9999 t a b hu
   split at h
   ·cases h
    refine ⟨_, w, ?_, came_same hE hm (.x _)⟩
    rw [Sem.run_bind, hg]; simp [binOp, he]
   ·cases h
    refine ⟨_, w, ?_, came_same hE hm (.x _)⟩
    rw [Sem.run_bind, hg]; simp [binOp, he]
   ·cases h
  ·cases h
end
end Go.Sx
