/- The operations one by one, second part: from an operation's operands to what it yields. -/
import Derived.Test.YtchcegfhamngkaaSxC
import Derived.Great.BuildSlice
namespace Go.Sx
open Go Go.RowKit

section
variable {P : Program}

def pureO (a : Option AV) : Option Out := match a with | some r => some ([], r, none) | none => none

theorem pureO_some {a : Option AV} {ns : List Prop} {r : AV} {add : Option Res} (h : pureO a = some (ns, r, add)) : a = some r ∧ ns = [] ∧ add = none := by
  cases a with
  | none => simp [pureO] at h
  | some x => simp only [pureO, Option.some.injEq, Prod.mk.injEq] at h; obtain ⟨rfl, rfl, rfl⟩ := h; exact ⟨rfl, rfl, rfl⟩

theorem addrAdd (b o j : Nat) : (⟨b, o, none⟩ : Addr).add j = ⟨b, o + j, none⟩ := by unfold Addr.add; split <;> simp_all

/-- Cells that are lists, all of them. -/
def lstsL : List AV → Option (Nat × List (Nat × (Nat → List AV)))
  | [] => none
  | .lst sz n f :: t => match t with
    | [] => some (sz, [(n, f)])
    | _ :: _ => match lstsL t with
      | some (sz', r) => match Nat.beq sz sz' with
        | true => some (sz, (n, f) :: r)
        | false => none
      | none => none
  | _ => none

def nthN (l : List (Nat × (Nat → List AV))) (i : Nat) : Nat := (l.getD i (0, fun _ => [])).1
def nthF (l : List (Nat × (Nat → List AV))) (i : Nat) : Nat → List AV := (l.getD i (0, fun _ => [])).2

theorem lstsL_get : ∀ {l : List AV} {sz : Nat} {r : List (Nat × (Nat → List AV))}, lstsL l = some (sz, r) → ∀ i, i < l.length → l[i]? = some (.lst sz (nthN r i) (nthF r i))
  | [], _, _, h, _, _ => by simp [lstsL] at h
  | a :: t, sz, r, h, i, hi => by
    cases a with
    | lst sz1 n f =>
      cases t with
      | nil =>
        simp only [lstsL, Option.some.injEq, Prod.mk.injEq] at h
        obtain ⟨rfl, rfl⟩ := h
        have : i = 0 := by simp at hi; omega
        subst this
        rfl
      | cons b t =>
        simp only [lstsL] at h
        split at h
        · rename_i sz' r' hr
          split at h
          · rename_i hb
            have := Nat.eq_of_beq_eq_true hb
            subst this
            simp only [Option.some.injEq, Prod.mk.injEq] at h
            obtain ⟨rfl, rfl⟩ := h
            cases i with
            | zero => rfl
            | succ i =>
              have := lstsL_get hr i (by simpa using hi)
              simpa [nthN, nthF] using this
          · cases h
        · cases h
    | _ => simp [lstsL] at h

def lstsT (P : Program) (t : TypeId) (l : List AV) : Option (Nat × List (Nat × (Nat → List AV))) :=
  match P.underlying t with
  | some (.slice _) => match l with
    | _ :: _ :: _ => lstsL l
    | _ => none
  | _ => none

def opLoad (P : Program) (m : Mem) (t : TypeId) : AV → Option Out
  | .ptr id off => match getM m id with
    | some (.cells _ l) => match lstsT P t l with
      | some (sz, r) => some ([off < l.length], .lst sz (nthN r off) (nthF r off), none)
      | none => pureO (ldL P t (l.drop off))
    | _ => none
  | .ro l => pureO (ldL P t l)
  | .elt id sz i j => match getM m id with
    | some (.row _ sz' n f) => match Nat.beq sz sz' with
      | true => match ldL P t ((f i).drop j) with
        | some r => some ([i < n], r, none)
        | none => none
      | false => none
    | _ => none
  | _ => none

theorem cells_drop {w : World} {b : Nat} {vs : List Value} {o : Nat} (hc : ∀ (j : Nat) (v : Value), vs[j]? = some v → w.cell? ⟨b, o + j, none⟩ = some v) (k : Nat) :
    ∀ (j : Nat) (v : Value), (vs.drop k)[j]? = some v → w.cell? ⟨b, o + k + j, none⟩ = some v := by
  intro j v hj
  rw [List.getElem?_drop] at hj
  have := hc _ _ hj
  rwa [Nat.add_assoc]

theorem opLoad_core {e : Env} {w : World} {m : Mem} {t : TypeId} {a : AV} {v : Value} {ns : List Prop} {val : AV} {add : Option Res} (h : opLoad P m t a = some (ns, val, add)) (hn : ∀ p ∈ ns, p)
    (hm : MemOk e m w) (ra : Rep e w a v) : add = none ∧ ∃ ad u, v = .pointer (some ad) ∧ (loadVar t ad).run P w = .ok u w ∧ Rep e w val u := by
  cases ra with
  | ptr k off hl =>
    simp only [opLoad] at h
    split at h
    · rename_i T l hg
      obtain ⟨_, _, vs, h3, h4⟩ := hm _ (getM_mem hg)
      have hc : ∀ (j : Nat) (v : Value), vs[j]? = some v → w.cell? ⟨e.blk k, 0 + j, none⟩ = some v := by
        intro j v hj
        simp [World.cell?, h3, hj]
      split at h
      · rename_i sz r hlt
        simp only [Option.some.injEq, Prod.mk.injEq] at h
        obtain ⟨rfl, rfl, rfl⟩ := h
        have hlen : off < l.length := hn _ (by simp)
        unfold lstsT at hlt
        split at hlt
        · rename_i el hu
          split at hlt
          · obtain ⟨v, hv, hr⟩ := h4.get (lstsL_get hlt off hlen)
            refine ⟨rfl, _, v, rfl, ?_, hr⟩
            have := hc off v hv
            simp only [Nat.zero_add] at this
            simp [loadVar, isAgg, run_underlying hu, this]
          · cases hlt
        · cases hlt
      obtain ⟨h1, rfl, rfl⟩ := pureO_some h
      obtain ⟨u, hu, hr⟩ := run_loadVar_cells (P := P) h1 (h4.drop off) (cells_drop hc off)
      simp only [Nat.zero_add] at hu
      exact ⟨rfl, _, u, rfl, hu, hr⟩
    · cases h
  | ro l vs b o h1 h2 hf h3 h4 h5 =>
    simp only [opLoad] at h
    obtain ⟨k1, rfl, rfl⟩ := pureO_some h
    obtain ⟨u, hu, hr⟩ := run_loadVar_cells (P := P) k1 (⟨h3, h5⟩ : RepL e w l vs) h4
    exact ⟨rfl, _, u, rfl, hu, hr⟩
  | elt k sz i j b n cap hl hv =>
    simp only [opLoad] at h
    split at h
    · rename_i T sz' n' f hg
      split at h
      · rename_i hs
        have hs' : sz = sz' := Nat.eq_of_beq_eq_true hs
        subst hs'
        split at h
        · rename_i r hr
          simp only [Option.some.injEq, Prod.mk.injEq] at h
          obtain ⟨rfl, rfl, rfl⟩ := h
          have hi : i < n' := hn _ (by simp)
          obtain ⟨_, _, hf, xs, hx, hrep⟩ := hm _ (getM_mem hg)
          have hcell : ∀ (q : Nat) (u : Value), xs[q]? = some u → w.cell? ⟨b, q, none⟩ = some u := by
            intro q u hq
            have := hx.cells (g := b) (by rw [hv]; rfl) q u hq
            rwa [addrAdd, Nat.zero_add] at this
          have hxl : xs.length = n' * sz := hx.1
          have hle : i * sz + sz ≤ n' * sz := by
            have := Nat.mul_le_mul_right sz (Nat.succ_le_of_lt hi)
            rwa [Nat.succ_mul] at this
          have hR : RepL e w (f i) ((xs.drop (i * sz)).take sz) := by
            refine ⟨by rw [(hf i hi).1, List.length_take, List.length_drop, hxl]; omega, fun q a v ha hv' => ?_⟩
            rw [List.getElem?_take] at hv'
            split at hv'
            · rw [List.getElem?_drop] at hv'; exact hrep i q a v hi ha hv'
            · cases hv'
          have hc : ∀ (q : Nat) (u : Value), ((xs.drop (i * sz)).take sz)[q]? = some u → w.cell? ⟨b, i * sz + q, none⟩ = some u := by
            intro q u hq
            rw [List.getElem?_take] at hq
            split at hq
            · rw [List.getElem?_drop] at hq; exact hcell _ _ hq
            · cases hq
          obtain ⟨u, hu, hr'⟩ := run_loadVar_cells (P := P) hr (hR.drop j) (cells_drop hc j)
          exact ⟨rfl, _, u, rfl, hu, hr'⟩
        · cases h
      · cases h
    · cases h
  | _ => simp [opLoad] at h

theorem opLoad_sound {e : Env} {B : Nat} {w : World} {m : Mem} {id : Nat} {t : TypeId} {a : AV} {v : Value} {ns : List Prop} {val : AV} {add : Option Res} (h : opLoad P m t a = some (ns, val, add)) (hn : ∀ p ∈ ns, p)
    (hE : EnvOk e B w) (hm : MemOk e m w) (ra : Rep e w a v) : ∃ u w', (Instr.loadAt t v).run P w = .ok u w' ∧ Came e B w m id val add u w' := by
  obtain ⟨rfl, ad, u, rfl, hu, hr⟩ := opLoad_core h hn hm ra
  exact ⟨u, w, by simp [Instr.loadAt, Instr.sureAddr, hu], came_same hE hm hr⟩

def opField (P : Program) (t : TypeId) (k : Nat) : AV → Option Out
  | .agg l => match P.underlying t with
    | some (.struct fs) => match fs[k]? with
      | some f => pureO (partL P f.type l f.offset)
      | none => none
    | _ => none
  | _ => none

theorem opField_sound {e : Env} {B : Nat} {w : World} {m : Mem} {id : Nat} {t : TypeId} {k : Nat} {a : AV} {v : Value} {ns : List Prop} {val : AV} {add : Option Res} (h : opField P t k a = some (ns, val, add))
    (hE : EnvOk e B w) (hm : MemOk e m w) (ra : Rep e w a v) : ∃ u w', (Instr.field t v k).run P w = .ok u w' ∧ Came e B w m id val add u w' := by
  cases ra with
  | agg l vs h1 h2 =>
    simp only [opField] at h
    split at h
    · rename_i fs hu
      split at h
      · rename_i f hf
        obtain ⟨k1, rfl, rfl⟩ := pureO_some h
        obtain ⟨u, hu', hr⟩ := run_part (P := P) k1 (⟨h1, h2⟩ : RepL e w l vs)
        exact ⟨u, w, by simp [Instr.field, run_underlying hu, hf, asAgg, hu'], came_same hE hm hr⟩
      · cases h
    · cases h
  | _ => simp [opField] at h

def shiftP (off : Nat) : AV → Option AV
  | .ptr id o => some (.ptr id (o + off))
  | .ro l => match Nat.ble off l.length with
    | true => some (.ro (l.drop off))
    | false => none
  | .elt id sz i j => some (.elt id sz i (j + off))
  | _ => none

theorem shiftP_rep {e : Env} {w : World} {off : Nat} {a r : AV} {v : Value} (h : shiftP off a = some r) (ra : Rep e w a v) : ∃ ad : Addr, v = .pointer (some ad) ∧ Rep e w r (.pointer (some (ad.add off))) := by
  cases ra with
  | ptr id o hl => simp only [shiftP, Option.some.injEq] at h; subst h; exact ⟨_, rfl, by rw [addrAdd]; exact .ptr id (o + off) hl⟩
  | elt id sz i j b n cap hl hv =>
    simp only [shiftP, Option.some.injEq] at h; subst h
    exact ⟨_, rfl, by rw [addrAdd, Nat.add_assoc]; exact .elt id sz i (j + off) b n cap hl hv⟩
  | ro l vs b o h1 h2 hf h3 h4 h5 =>
    simp only [shiftP] at h
    split at h
    · cases h
      refine ⟨_, rfl, ?_⟩
      rw [addrAdd]
      exact .ro _ (vs.drop off) b (o + off) h1 h2 (fun a ha => hf a (List.mem_of_mem_drop ha)) (by simp [h3]) (cells_drop h4 off) (RepL.drop (⟨h3, h5⟩ : RepL e w l vs) off).2
    · cases h
  | _ => simp [shiftP] at h

def opFieldAddr (P : Program) (t : TypeId) (k : Nat) (a : AV) : Option Out :=
  match P.underlying t with
  | some (.struct fs) => match fs[k]? with
    | some f => match P.info? f.type with
      | some i => match i.size with
        | 0 => none
        | _ + 1 => pureO (shiftP f.offset a)
      | none => none
    | none => none
  | _ => none

theorem opFieldAddr_sound {e : Env} {B : Nat} {w : World} {m : Mem} {id : Nat} {t : TypeId} {k : Nat} {a : AV} {v : Value} {ns : List Prop} {val : AV} {add : Option Res} (h : opFieldAddr P t k a = some (ns, val, add))
    (hE : EnvOk e B w) (hm : MemOk e m w) (ra : Rep e w a v) : ∃ u w', (Instr.fieldAt t v k).run P w = .ok u w' ∧ Came e B w m id val add u w' := by
  unfold opFieldAddr at h
  split at h
  · rename_i fs hu
    split at h
    · rename_i f hf
      split at h
      · rename_i i hi
        split at h
        · cases h
        · rename_i s hs
          obtain ⟨k1, rfl, rfl⟩ := pureO_some h
          obtain ⟨ad, rfl, hr⟩ := shiftP_rep k1 ra
          exact ⟨_, w, by simp [Instr.fieldAt, run_underlying hu, hf, Instr.sureAddr, fieldPlace, sizeOf, typeInfo, hi, hs], came_same hE hm hr⟩
      · cases h
    · cases h
  · cases h

def opIndexAddr (P : Program) (m : Mem) (t : TypeId) (a ix : AV) : Option Out :=
  match ix with
  | .x (.int _ i) => match P.underlying t with
    | some (.slice el) => match P.info? el with
      | some info => match a with
        | .lst sz n f => match Nat.beq info.size sz with
          | true => some ([0 ≤ i ∧ i < (n : Int)], .ro (f i.toNat), none)
          | false => none
        | .row id => match getM m id with
          | some (.row _ sz n _) => match Nat.beq info.size sz with
            | true => some ([0 ≤ i ∧ i < (n : Int)], .elt id sz i.toNat 0, none)
            | false => none
          | _ => none
        | _ => none
      | none => none
    | some (.array n el) => match P.info? el with
      | some info => match shiftP (i.toNat * info.size) a with
        | some r => some ([0 ≤ i ∧ i < (n : Int)], r, none)
        | none => none
      | none => none
    | _ => none
  | _ => none

theorem elem_eq {t el : TypeId} (hu : P.underlying t = some (.slice el)) : P.elem t = el := by simp [Program.elem, hu]

theorem opIndexAddr_sound {e : Env} {B : Nat} {w : World} {m : Mem} {id : Nat} {t : TypeId} {a ix : AV} {v vi : Value} {ns : List Prop} {val : AV} {add : Option Res} (h : opIndexAddr P m t a ix = some (ns, val, add)) (hn : ∀ p ∈ ns, p)
    (hE : EnvOk e B w) (hm : MemOk e m w) (ra : Rep e w a v) (ri : Rep e w ix vi) : ∃ u w', (Instr.indexAt t v vi).run P w = .ok u w' ∧ Came e B w m id val add u w' := by
  unfold opIndexAddr at h
  split at h
  · rename_i k i
    cases ri.x_inv
    split at h
    · rename_i el hu
      have hel := elem_eq hu
      split at h
      · rename_i info hi
        split at h
        · rename_i sz n f
          split at h
          · rename_i hs
            have hs' : info.size = sz := Nat.eq_of_beq_eq_true hs
            subst hs'
            simp only [Option.some.injEq, Prod.mk.injEq] at h
            obtain ⟨rfl, rfl, rfl⟩ := h
            have hb : 0 ≤ i ∧ i < (n : Int) := hn _ (by simp)
            cases ra with
            | lstNil sz f => omega
            | lst sz n f b o cap g h1 h2 hid h3 h3' h4 h5 h6 =>
              have hlt : i.toNat < n := by omega
              refine ⟨.pointer (some ⟨b, o + i.toNat * info.size, none⟩), w, ?_, came_same hE hm ?_⟩
              · rw [run_indexAt_slice w t _ n cap k i (by rw [hel]; exact hu), if_pos hb]
                simp [sizeOf, typeInfo, hel, hi, addrAdd]
              · refine .ro _ ((List.range info.size).map (g i.toNat)) b _ h1 h2 (hid _ hlt) (by simp [h5 _ hlt]) ?_ ?_
                · intro j u hj
                  simp only [List.getElem?_map, Option.map_eq_some_iff] at hj
                  obtain ⟨q, hq, rfl⟩ := hj
                  obtain ⟨hq1, hq2⟩ := List.getElem?_eq_some_iff.1 hq
                  simp at hq1 hq2
                  subst hq2
                  rw [Nat.add_assoc]
                  exact h4 _ _ hlt hq1
                · intro j a u ha hj
                  simp only [List.getElem?_map, Option.map_eq_some_iff] at hj
                  obtain ⟨q, hq, rfl⟩ := hj
                  obtain ⟨hq1, hq2⟩ := List.getElem?_eq_some_iff.1 hq
                  simp at hq1 hq2
                  subst hq2
                  exact h6 _ _ _ hlt ha
          · cases h
        · rename_i k'
          split at h
          · rename_i T sz n f hg
            split at h
            · rename_i hs
              have hs' : info.size = sz := Nat.eq_of_beq_eq_true hs
              subst hs'
              simp only [Option.some.injEq, Prod.mk.injEq] at h
              obtain ⟨rfl, rfl, rfl⟩ := h
              have hb : 0 ≤ i ∧ i < (n : Int) := hn _ (by simp)
              obtain ⟨hlv, hown, hf, xs, hx, hrep⟩ := hm _ (getM_mem hg)
              cases ra with
              | row _ a n' c hl hv =>
                rcases hx.2 with ⟨hv0, hn0⟩ | ⟨g, cap, cur, hv0, _, _⟩
                · omega
                · rw [hv] at hv0
                  cases hv0
                  refine ⟨.pointer (some ⟨g, i.toNat * info.size + 0, none⟩), w, ?_, came_same hE hm (.elt _ _ _ _ g _ _ hl hv)⟩
                  rw [run_indexAt_slice w t _ _ _ k i (by rw [hel]; exact hu), if_pos hb]
                  simp [sizeOf, typeInfo, hel, hi, addrAdd]
            · cases h
          · cases h
        · cases h
      · cases h
    · rename_i n el hu
      split at h
      · rename_i info hi
        split at h
        · rename_i r hr
          simp only [Option.some.injEq, Prod.mk.injEq] at h
          obtain ⟨rfl, rfl, rfl⟩ := h
          have hb : 0 ≤ i ∧ i < (n : Int) := hn _ (by simp)
          obtain ⟨ad, rfl, hrep⟩ := shiftP_rep hr ra
          refine ⟨.pointer (some (ad.add (i.toNat * info.size))), w, ?_, came_same hE hm hrep⟩
          have hel : P.elem t = el := by simp [Program.elem, hu]
          have hal : P.arrayLen t = n := by simp [Program.arrayLen, hu]
          rw [run_indexAt_array w t ad k i (by rw [hel, hal]; exact hu), hal, if_pos hb]
          simp [sizeOf, typeInfo, hel, hi]
        · cases h
      · cases h
    · cases h
  · cases h
end
end Go.Sx
