/- Texts of this claim, put together: SxF, SxG, SxH, SxI, SxJ -/
import Derived.Test.YtlinbkmpkcmniaaMc
import Derived.Laws.MakeOwn
set_option linter.unusedSimpArgs false
set_option linter.unusedVariables false
namespace Go.Sx
open Go Go.RowKit
section
variable {P : Program}
def opUn (op : UnOp) : AV → Option Out
 | .x (.int .i64 n) => match op with
  | .neg => some ([inI64 (-n)], .x (.int .i64 (-n)), none)
  | _ => none
 | .lit b => match op with
  | .not => some ([], .lit (!b), none)
  | _ => none
 | .x (.bool b) => match op with
  | .not => some ([], .x (.bool (!b)), none)
  | _ => none
 | _ => none
theorem opUn_sound {e : Env} {B : Nat} {w : World} {m : Mem} {id : Nat} {op : UnOp} {x : AV} {v : Value} {ns : List Prop} {val : AV} {add : Option Res} (h : opUn op x = some (ns, val, add)) (hn : ∀ p ∈ ns, p)
  (hE : EnvOk e B w) (hm : MemOk e m w) (rx : Rep e w x v) : ∃ u w', (Op.unary op v).run P w = .ok u w' ∧ Came e B w m id val add u w' := by
 unfold opUn at h
 split at h
 ·rename_i n
  cases rx.x_inv
  split at h
  ·cases h
   have h1 : inI64 (-n) := hn _ (by simp)
   refine ⟨_, w, ?_, came_same hE hm (.x _)⟩
   have h2 : (0 : Int) - n = -n := by omega
   simp [Op.unary, Op.intArith, h2, wrap_i64 h1]
  ·cases h
 ·rename_i b
  cases rx.lit_inv
  split at h
  ·cases h; exact ⟨_, w, by simp [Op.unary], came_same hE hm (.lit _)⟩
  ·cases h
 ·rename_i b
  cases rx.x_inv
  split at h
  ·cases h; exact ⟨_, w, by simp [Op.unary], came_same hE hm (.x _)⟩
  ·cases h
 ·cases h
def opConv (P : Program) (src dst : TypeId) : AV → Option Out
 | .x (.int _ n) => match P.underlying src, P.underlying dst with
  | some _, some (.int k) => match decide (k = .i64) with
   | true => some ([inI64 n], .x (.int .i64 n), none)
   | false => some ([], .x (.int k (k.wrap n)), none)
  | _, _ => none
 | .x (.string s) => match P.underlying src, P.underlying dst with
  | some .string, some .string => some ([], .x (.string s), none)
  | _, _ => none
 | _ => none
theorem opConv_sound {e : Env} {B : Nat} {w : World} {m : Mem} {id : Nat} {src dst : TypeId} {x : AV} {v : Value} {ns : List Prop} {val : AV} {add : Option Res} (h : opConv P src dst x = some (ns, val, add)) (hn : ∀ p ∈ ns, p)
  (hE : EnvOk e B w) (hm : MemOk e m w) (rx : Rep e w x v) : ∃ u w', (convert src dst v).run P w = .ok u w' ∧ Came e B w m id val add u w' := by
 unfold opConv at h
 split at h
 ·rename_i k0 n
  cases rx.x_inv
  split at h
  ·rename_i d k hs hd
   split at h
   ·rename_i hk
    have hk' : k = .i64 := of_decide_eq_true hk
    subst hk'
    cases h
    have h1 : inI64 n := hn _ (by simp)
    exact ⟨_, w, by simp [convert, run_underlying hs, run_underlying hd, Conv.intToInt, wrap_i64 h1], came_same hE hm (.x _)⟩
   ·cases h
    exact ⟨_, w, by simp [convert, run_underlying hs, run_underlying hd, Conv.intToInt], came_same hE hm (.x _)⟩
  ·cases h
 ·rename_i s
  cases rx.x_inv
  split at h
  ·rename_i hs hd
   cases h
   exact ⟨_, w, by simp [convert, run_underlying hs, run_underlying hd], came_same hE hm (.x _)⟩
  ·cases h
 ·cases h
def splice (off : Nat) : List AV → List AV → List AV
 | [], cells => cells
 | c :: cs, cells => splice (off + 1) cs (cells.set off c)
theorem splice_rep {e : Env} {w : World} : ∀ (cs : List AV) (vs : List Value) (off : Nat) (cells : List AV) (us : List Value), RepL e w cs vs → RepL e w cells us →
  RepL e w (splice off cs cells) ((vs.zipIdx).foldl (fun (acc : List Value) (p : Value × Nat) => acc.set (off + p.2) p.1) us)
 | [], vs, off, cells, us, h, k => by cases h.nil_inv; simpa [splice] using k
 | c :: cs, vs, off, cells, us, h, k => by
  obtain ⟨v, vs', rfl, hv, hvs⟩ := h.cons_inv
  have ih := splice_rep cs vs' (off + 1) (cells.set off c) (us.set off v) hvs (k.set hv off)
  simp only [splice, List.zipIdx_cons, List.foldl_cons, Nat.add_zero, Nat.zero_add]
  have e1 : ∀ (l : List Value) (n : Nat) (acc : List Value), (l.zipIdx (n + 1)).foldl (fun (acc : List Value) (p : Value × Nat) => acc.set (off + p.2) p.1) acc = (l.zipIdx n).foldl (fun (acc : List Value) (p : Value × Nat) => acc.set (off + 1 + p.2) p.1) acc := by
   intro l
   induction l with
   | nil => intro n acc; simp
   | cons a l ih => intro n acc; simp only [List.zipIdx_cons, List.foldl_cons]; rw [ih, show off + (n + 1) = off + 1 + n by omega]
  rw [e1 vs' 0]
  exact ih
def fillA (place : Nat → Option (Nat × Nat)) (cells : List AV) : List (Nat × AV) → Option (List AV)
 | [] => some cells
 | (i, a) :: rest => match place i, a.cellsOf with
  | some (off, size), some cs => match Nat.beq cs.length size && Nat.ble (off + cs.length) cells.length with
   | true => fillA place (splice off cs cells) rest
   | false => none
  | _, _ => none
theorem foldl_set_toArray (off : Nat) : ∀ (l : List (Value × Nat)) (us : List Value), l.foldl (fun (cs : Array Value) (x : Value × Nat) => cs.setIfInBounds (off + x.2) x.1) us.toArray = (l.foldl (fun (acc : List Value) (p : Value × Nat) => acc.set (off + p.2) p.1) us).toArray
 | [], us => rfl
 | (v, j) :: l, us => by simp only [List.foldl_cons, List.setIfInBounds_toArray]; exact foldl_set_toArray off l _
theorem fillA_sound {e : Env} {w : World} {place : Nat → Option (Nat × Nat)} : ∀ (parts : List (Nat × AV)) (vparts : List (Nat × Value)) (cells : List AV) (us : List Value) (r : List AV), fillA place cells parts = some r →
  RepL e w cells us → parts.map (·.1) = vparts.map (·.1) → RepL e w (parts.map (·.2)) (vparts.map (·.2)) → ∃ rs : List Value, Instr.fill place us.toArray vparts = some rs.toArray ∧ RepL e w r rs ∧ rs.length = us.length
 | [], vparts, cells, us, r, h, k, hi, hp => by
  simp [fillA] at h; subst h
  have : vparts = [] := by simpa using hi
  subst this
  exact ⟨us, rfl, k, rfl⟩
 | (i, a) :: rest, vparts, cells, us, r, h, k, hi, hp => by
  cases vparts with
  | nil => simp at hi
  | cons p vrest =>
   obtain ⟨i', v⟩ := p
   simp only [List.map_cons, List.cons.injEq] at hi
   obtain ⟨rfl, hi⟩ := hi
   obtain ⟨v', vs', hvv, hv, hvs⟩ := RepL.cons_inv (by simpa using hp)
   simp only [List.cons.injEq] at hvv
   obtain ⟨rfl, rfl⟩ := hvv
   unfold fillA at h
   split at h
   ·rename_i off size cs hpl hcs
    split at h
    ·rename_i hb
     simp only [Bool.and_eq_true] at hb
     have h1 : cs.length = size := Nat.eq_of_beq_eq_true hb.1
     have h2 : off + cs.length ≤ cells.length := Nat.le_of_ble_eq_true hb.2
     have hc := cellsOf_rep hcs hv
     have hs := splice_rep cs v.cells.toList off cells us hc k
     obtain ⟨rs, g1, g2, g3⟩ := fillA_sound rest vrest _ _ r h hs hi hvs
     refine ⟨rs, ?_, g2, ?_⟩
     ·have hsz : v.cells.size = size := by rw [← h1, hc.1]; simp
      have hle : ¬ off + v.cells.size > us.toArray.size := by
       have : cs.length = v.cells.size := by rw [hc.1]; simp
       simp [← k.1]; omega
      unfold Instr.fill
      simp only [hpl]
      rw [if_neg (by simp [hsz] at hle ⊢; omega)]
      rw [← g1]
      congr 1
      rw [← Array.foldl_toList, Array.toList_zipIdx]
      exact foldl_set_toArray off _ us
     ·rw [g3, ← hs.1]
      have hl : ∀ (cs : List AV) (off : Nat) (cells : List AV), (splice off cs cells).length = cells.length := by
       intro cs
       induction cs with
       | nil => intro off cells; rfl
       | cons c cs ih => intro off cells; simp [splice, ih]
      rw [hl, k.1]
    ·cases h
   ·cases h
def opBuild (P : Program) (t : TypeId) (parts : List (Nat × AV)) : Option Out :=
 match P.info? t, P.underlying t with
 | some it, some (.struct fields) => match it.zero, fields.toList.mapM (fun f => (P.info? f.type).map fun i => (f.offset, i.size)) with
  | some z, some places => match fillA (places[·]?) (z.cells.toList.map .x) parts with
   | some l => some ([], .agg l, none)
   | none => none
  | _, _ => none
 | some it, some (.array _ el) => match it.zero, P.info? el with
  | some z, some ie => match fillA (fun i => some (i * ie.size, ie.size)) (z.cells.toList.map .x) parts with
   | some l => some ([], .agg l, none)
   | none => none
  | _, _ => none
 | _, _ => none
theorem opBuild_sound {e : Env} {B : Nat} {w : World} {m : Mem} {id : Nat} {t : TypeId} {parts : List (Nat × AV)} {vparts : Array (Nat × Value)} {ns : List Prop} {val : AV} {add : Option Res} (h : opBuild P t parts = some (ns, val, add))
  (hE : EnvOk e B w) (hm : MemOk e m w) (hi : parts.map (·.1) = vparts.toList.map (·.1)) (hp : RepL e w (parts.map (·.2)) (vparts.toList.map (·.2))) :
  ∃ u w', (Instr.build t vparts).run P w = .ok u w' ∧ Came e B w m id val add u w' := by
 unfold opBuild at h
 split at h
 ·rename_i it fields hit hu
  split at h
  ·rename_i z places hz hpl
   split at h
   ·rename_i l hl
    cases h
    obtain ⟨rs, g1, g2, _⟩ := fillA_sound parts vparts.toList _ _ l hl (RepL.xs e w z.cells.toList) hi hp
    refine ⟨.agg rs.toArray, w, run_build w t vparts rs.toArray ?_, came_same hE hm (Rep.aggL g2)⟩
    simp only [Program.built, hit, hu, hz, hpl]
    simpa using g1
   ·cases h
  ·cases h
 ·rename_i it n el hit hu
  split at h
  ·rename_i z ie hz hie
   split at h
   ·rename_i l hl
    cases h
    obtain ⟨rs, g1, g2, _⟩ := fillA_sound parts vparts.toList _ _ l hl (RepL.xs e w z.cells.toList) hi hp
    refine ⟨.agg rs.toArray, w, run_build w t vparts rs.toArray ?_, came_same hE hm (Rep.aggL g2)⟩
    simp only [Program.built, hit, hu, hz, hie]
    simpa using g1
   ·cases h
  ·cases h
 ·cases h
def AV.idf : AV → Bool
 | .top | .lit _ | .x _ | .ro _ | .lst .. | .roI .. => true
 | _ => false
theorem idf_of {e : Env} {w : World} {a : AV} {v : Value} (h : Rep e w a v) (k : a.idf = true) : Idf a := by
 cases h with
 | top v => exact .top
 | lit b => exact .lit b
 | x v => exact .x v
 | ro l vs b o h1 h2 h3 h4 h5 h6 => exact .ro l h3
 | lstNil sz f => exact .lst sz 0 f (fun i hi => by omega)
 | lst sz n f b o cap g h1 h2 h3 h4 h5 h6 h7 h8 ad had => exact .lst sz n f h3
 | roI pre n f off b o hr => cases hr with | ro _ vs _ _ h1 h2 h3 h4 h5 h6 => exact .roI pre n f off (.ro _ h3)
 | _ => simp [AV.idf] at k
theorem idf_all {e : Env} {w : World} {l : List AV} {vs : List Value} (h : RepL e w l vs) (k : l.all AV.idf = true) : ∀ a ∈ l, Idf a := by
 intro a ha
 obtain ⟨i, hi⟩ := List.mem_iff_getElem?.1 ha
 obtain ⟨v, hv, r⟩ := h.get hi
 exact idf_of r (List.all_eq_true.1 k a ha)
def chunk (sz : Nat) (l : List AV) (i : Nat) : List AV := (l.drop (i * sz)).take sz
def opBuildSlice (P : Program) (id : Nat) (t : TypeId) (len : Nat) (parts : List (Nat × AV)) : Option Out :=
 match P.underlying t with
 | some (.slice el) => match P.info? el with
  | some ie => match ie.zero with
   | some z => match Nat.ble 1 (len * ie.size) && Nat.ble (len * ie.size) 16777216 && Nat.ble 1 len with
    | true => match fillA (fun i => some (i * ie.size, ie.size)) (((List.range (len * ie.size)).map (z.cells[· % z.cells.size]!)).map .x) parts with
     | some l => match l.all AV.idf with
      | true => some ([], .row id, some (.row el ie.size len (chunk ie.size l)))
      | false => none
     | none => none
    | false => match Nat.beq len 0 with
     | true => some ([], .row id, some (.row el ie.size 0 (fun _ => [])))
     | false => none
   | none => none
  | none => none
 | _ => none
theorem opBuildSlice_sound {e : Env} {B : Nat} {w : World} {m : Mem} {id : Nat} {t : TypeId} {len : Nat} {parts : List (Nat × AV)} {vparts : Array (Nat × Value)} {ns : List Prop} {val : AV} {add : Option Res} (h : opBuildSlice P id t len parts = some (ns, val, add))
  (hE : EnvOk e B w) (hB : B ≤ w.heap.size) (hm : MemOk e m w) (hid : ¬ e.live id) (hi : parts.map (·.1) = vparts.toList.map (·.1)) (hp : RepL e w (parts.map (·.2)) (vparts.toList.map (·.2))) (h0 : len = 0 → vparts = #[]) :
  ∃ u w', (Instr.buildSlice t len vparts).run P w = .ok u w' ∧ Came e B w m id val add u w' := by
 unfold opBuildSlice at h
 split at h
 ·rename_i el hu
  split at h
  ·rename_i ie hie
   split at h
   ·rename_i z hz
    split at h
    ·rename_i hb
     simp only [Bool.and_eq_true] at hb
     obtain ⟨⟨hb1, hb2⟩, hb3⟩ := hb
     have hb1 := Nat.le_of_ble_eq_true hb1
     have hb2 := Nat.le_of_ble_eq_true hb2
     have hb3 := Nat.le_of_ble_eq_true hb3
     split at h
     ·rename_i l hl
      split at h
      rotate_left
      ·cases h
      rename_i hidf
      cases h
      obtain ⟨rs, g1, g2, g3⟩ := fillA_sound parts vparts.toList _ _ l hl (RepL.xs e w _) hi hp
      have hlen : rs.length = len * ie.size := by rw [g3]; simp
      have hll : l.length = len * ie.size := by rw [g2.1, hlen]
      have hsz : 1 ≤ ie.size := by
       rcases Nat.eq_zero_or_pos ie.size with h0 | h0
       ·rw [h0] at hb1; omega
       ·exact h0
      have hle : len ≤ len * ie.size := Nat.le_mul_of_pos_right len hsz
      have hall := idf_all g2 hidf
      have hchunk : ∀ i, i < len → (chunk ie.size l i).length = ie.size ∧ ∀ a ∈ chunk ie.size l i, Idf a := by
       intro i hi'
       refine ⟨?_, fun a ha => hall a (List.mem_of_mem_drop (List.mem_of_mem_take ha))⟩
       have := Nat.mul_le_mul_right ie.size (Nat.succ_le_of_lt hi')
       rw [Nat.succ_mul] at this
       simp only [chunk, List.length_take, List.length_drop, hll]
       omega
      refine ⟨_, _, run_buildSlice w t el len vparts rs.toArray ie z hu hie hz (by omega) (by omega) ?_, ?_⟩
      ·rw [← g1]
       have hr : (Array.range (len * ie.size)).map (z.cells[· % z.cells.size]!) = ((List.range (len * ie.size)).map (z.cells[· % z.cells.size]!)).toArray := Array.ext' (by simp)
       rw [hr]
      ·refine came_row hE hB hm hid (Nat.le_refl _) (by unfold maxLen; omega) hlen hchunk ?_
       intro i j a v hi' ha hv
       simp only [chunk, List.getElem?_take, List.getElem?_drop] at ha
       split at ha
       ·exact g2.2 _ _ _ ha hv
       ·cases ha
     ·cases h
    ·split at h
     ·rename_i hl
      have hl' : len = 0 := Nat.eq_of_beq_eq_true hl
      subst hl'
      cases h
      cases h0 rfl
      refine ⟨_, _, ?_, came_row (cs := []) (c := 0) hE hB hm hid (Nat.le_refl _) (by unfold maxLen; omega) (by simp) (fun i hi => by omega) (fun i j a v hi => by omega)⟩
      have hr : Array.range 0 = #[] := rfl
      simp [Instr.buildSlice, run_underlying hu, sizeOf, typeInfo, hie, Instr.fill, newRow, hr]
     ·cases h
   ·cases h
  ·cases h
 ·cases h
def opMakeSlice (P : Program) (id : Nat) (t : TypeId) (l c : AV) : Option Out :=
 match l, c with
 | .x (.int _ n), .x (.int _ c) => match P.underlying t with
  | some (.slice el) => match P.info? el with
   | some ie => match ie.zero with
    | some z => match Nat.beq z.cells.size ie.size && Nat.ble 1 ie.size && Nat.ble ie.bytes 1000000 with
     | true => some ([0 ≤ n ∧ n ≤ 1000000, n = c], .row id, some (.row el ie.size n.toNat (fun _ => z.cells.toList.map .x)))
     | false => none
    | none => none
   | none => none
  | _ => none
 | _, _ => none
theorem opMakeSlice_sound {e : Env} {B : Nat} {w : World} {m : Mem} {id : Nat} {t : TypeId} {l c : AV} {vl vc : Value} {ns : List Prop} {val : AV} {add : Option Res} (h : opMakeSlice P id t l c = some (ns, val, add)) (hn : ∀ p ∈ ns, p)
  (hE : EnvOk e B w) (hB : B ≤ w.heap.size) (hm : MemOk e m w) (hid : ¬ e.live id) (rl : Rep e w l vl) (rc : Rep e w c vc) :
  ∃ u w', (Instr.makeSlice t vl vc).run P w = .ok u w' ∧ Came e B w m id val add u w' := by
 unfold opMakeSlice at h
 split at h
 ·rename_i k n k' c'
  cases rl.x_inv
  cases rc.x_inv
  split at h
  ·rename_i el hu
   split at h
   ·rename_i ie hie
    split at h
    ·rename_i z hz
     split at h
     ·rename_i hb
      simp only [Bool.and_eq_true] at hb
      obtain ⟨⟨hb1, hb2⟩, hb3⟩ := hb
      have hb1 := Nat.eq_of_beq_eq_true hb1
      have hb2 := Nat.le_of_ble_eq_true hb2
      have hb3 := Nat.le_of_ble_eq_true hb3
      cases h
      obtain ⟨n0, n1⟩ : 0 ≤ n ∧ n ≤ 1000000 := hn _ (by simp)
      have hnc : n = c' := hn _ (by simp)
      subst hnc
      have hbytes : (ie.bytes : Int) * n ≤ 281474976710656 := by
       have h1 : (ie.bytes : Int) * n ≤ 1000000 * 1000000 := Int.mul_le_mul (by omega) n1 n0 (by omega)
       omega
      refine ⟨_, _, run_make (P := P) w t el ie z hu hie hz k k' n n n0 (Int.le_refl _) hbytes (by omega), ?_⟩
      have hcs : (madeCells z.cells (n.toNat * ie.size)) = ((madeCells z.cells (n.toNat * ie.size)).toList).toArray := by simp
      rw [hcs]
      refine came_row hE hB hm hid (Nat.le_refl _) (by unfold maxLen; omega) (by simp [size_madeCells]) (fun i hi => ⟨by simp [hb1], fun a ha => ?_⟩) ?_
      ·obtain ⟨v, _, rfl⟩ := List.mem_map.1 ha
       exact .x v
      ·intro i j a v hi ha hv
       rw [List.getElem?_map] at ha
       obtain ⟨v0, hv0, rfl⟩ := Option.map_eq_some_iff.1 ha
       have hj : j < ie.size := by
        have := (List.getElem?_eq_some_iff.1 hv0).1
        simp at this
        omega
       have hv1 : v = z.cells[(i * ie.size + j) % z.cells.size]! := by
        have hlt := (List.getElem?_eq_some_iff.1 hv).1
        have := (List.getElem?_eq_some_iff.1 hv).2
        rw [← this]
        simp [madeCells]
       have hm : (i * ie.size + j) % z.cells.size = j := by
        rw [hb1, Nat.mul_comm, Nat.mul_add_mod, Nat.mod_eq_of_lt hj]
       rw [hm] at hv1
       have : v = v0 := by
        rw [hv1]
        have h1 : z.cells[j]? = some v0 := by simpa using hv0
        rw [getElem!_def, h1]
       rw [this]
       exact .x _
     ·cases h
    ·cases h
   ·cases h
  ·cases h
 ·cases h
end
end Go.Sx
namespace Go.Sx
open Go Go.RowKit
section
variable {P : Program}
def loI : Option AV → Option Int
 | none => some 0
 | some (.x (.int _ i)) => some i
 | _ => none
def hiI (n : Nat) : Option AV → Option Int
 | none => some n
 | some (.x (.int _ i)) => some i
 | _ => none
def opSlice (P : Program) (t : TypeId) (x : AV) (lo hi : Option AV) : Option Out :=
 match x with
 | .lst sz n f => match P.underlying t with
  | some (.slice el) => match P.info? el with
   | some info => match Nat.beq info.size sz with
    | true => match loI lo, hiI n hi with
     | some l, some h => some ([0 ≤ l ∧ l ≤ h ∧ h ≤ (n : Int)], .lst sz (h.toNat - l.toNat) (fun i => f (l.toNat + i)), none)
     | _, _ => none
    | false => none
   | none => none
  | _ => none
 | .x (.string s) => match P.underlying t with
  | some .string => match loI lo, hiI s.size hi with
   | some l, some h => some ([0 ≤ l ∧ l ≤ h ∧ h ≤ (s.size : Int)], .x (.string (s.extract l.toNat h.toNat)), none)
   | _, _ => none
  | _ => none
 | _ => none
def RepO (e : Env) (w : World) : Option AV → Option Value → Prop
 | none, none => True
 | some a, some v => Rep e w a v
 | _, _ => False
theorem run_bounds {e : Env} {w : World} (isSlice : Bool) (len cap : Nat) (lo hi : Option AV) (vlo vhi : Option Value) (l h : Int) (hl : loI lo = some l) (hh : hiI len hi = some h) (rl : RepO e w lo vlo) (rh : RepO e w hi vhi)
  (b : 0 ≤ l ∧ l ≤ h ∧ h ≤ (len : Int)) (hc : len ≤ cap) : (Instr.sliceBounds isSlice len cap vlo vhi none).run P w = .ok (l.toNat, h.toNat, cap) w := by
 obtain ⟨b1, b2, b3⟩ := b
 have hhi : (match vhi with | some v => Instr.sliceBound v cap (if isSlice then .sliceAcap else .sliceAlen) | none => pure len : Sem Nat).run P w = .ok h.toNat w := by
  cases hi with
  | none =>
   cases vhi with
   | none => simp [hiI] at hh; subst hh; simp
   | some v => exact rh.elim
  | some a =>
   cases vhi with
   | none => exact rh.elim
   | some v =>
    cases a with
    | x u =>
     cases u <;> simp [hiI] at hh
     rename_i k i
     subst hh
     cases Rep.x_inv rh
     simp only [Instr.sliceBound, asIntOf, Sem.run_bind, Sem.run_pure, Result.andThen_ok, Sem.run_ite]
     rw [if_pos (by omega)]
    | _ => simp [hiI] at hh
 have hlo : ∀ hn : Nat, hn = h.toNat → (match vlo with | some v => Instr.sliceBound v hn .sliceB | none => pure 0 : Sem Nat).run P w = .ok l.toNat w := by
  intro hn hhn
  subst hhn
  cases lo with
  | none =>
   cases vlo with
   | none => simp [loI] at hl; subst hl; simp
   | some v => exact rl.elim
  | some a =>
   cases vlo with
   | none => exact rl.elim
   | some v =>
    cases a with
    | x u =>
     cases u <;> simp [loI] at hl
     rename_i k i
     subst hl
     cases Rep.x_inv rl
     simp only [Instr.sliceBound, asIntOf, Sem.run_bind, Sem.run_pure, Result.andThen_ok, Sem.run_ite]
     rw [if_pos (by omega)]
    | _ => simp [loI] at hl
 unfold Instr.sliceBounds
 cases vhi <;> cases vlo <;> simp at hhi hlo ⊢ <;> simp [hhi, hlo]
theorem opSlice_sound {e : Env} {B : Nat} {w : World} {m : Mem} {id : Nat} {t : TypeId} {x : AV} {lo hi : Option AV} {v : Value} {vlo vhi : Option Value} {ns : List Prop} {val : AV} {add : Option Res} (h : opSlice P t x lo hi = some (ns, val, add)) (hn : ∀ p ∈ ns, p)
  (hE : EnvOk e B w) (hm : MemOk e m w) (rx : Rep e w x v) (rl : RepO e w lo vlo) (rh : RepO e w hi vhi) : ∃ u w', (Instr.sliceAt t v vlo vhi none).run P w = .ok u w' ∧ Came e B w m id val add u w' := by
 unfold opSlice at h
 split at h
 ·rename_i sz n f
  split at h
  ·rename_i el hu
   split at h
   ·rename_i info hi'
    split at h
    ·rename_i hs
     have hs' : info.size = sz := Nat.eq_of_beq_eq_true hs
     subst hs'
     split at h
     ·rename_i l hh hl hhh
      simp only [Option.some.injEq, Prod.mk.injEq] at h
      obtain ⟨rfl, rfl, rfl⟩ := h
      have b := hn _ (List.mem_singleton.2 rfl)
      cases rx with
      | lstNil sz f =>
       have hb := run_bounds (P := P) true 0 0 lo hi vlo vhi l hh hl hhh rl rh b (Nat.le_refl _)
       have hl0 : l.toNat = 0 := by omega
       have hh0 : hh.toNat = 0 := by omega
       refine ⟨.slice none 0 0, w, ?_, came_same hE hm ?_⟩
       ·simp [Instr.sliceAt, Instr.slice, run_underlying hu, hb, sizeOf, typeInfo, hi', hl0, hh0]
       ·rw [hl0, hh0]; exact .lstNil _ _
      | lst sz n f bb o cap g h1 h2 hid h3 h3' h4 h5 h6 ad had =>
       have hb := run_bounds (P := P) true n cap lo hi vlo vhi l hh hl hhh rl rh b h3
       by_cases hz : cap = l.toNat
       ·subst hz
        refine ⟨.slice (some ad) (hh.toNat - l.toNat) (l.toNat - l.toNat), w, ?_, came_same hE hm ?_⟩
        ·simp [Instr.sliceAt, Instr.slice, run_underlying hu, hb, sizeOf, typeInfo, hi']
        ·have hz0 : hh.toNat - l.toNat = 0 := by omega
         exact .lst _ _ _ bb o _ (fun _ _ => .nilIface) (fun h => by omega) (fun h => by omega) (fun i hi => by omega) (by omega) (by omega) (fun i j hi => by omega) (fun i hi => by omega) (fun i j a hi => by omega) ad (fun h => by omega)
       ·refine ⟨.slice (some (ad.add (l.toNat * info.size))) (hh.toNat - l.toNat) (cap - l.toNat), w, ?_, came_same hE hm ?_⟩
        ·simp [Instr.sliceAt, Instr.slice, run_underlying hu, hb, sizeOf, typeInfo, hi', hz, addrAdd]
        ·refine .lst _ _ _ bb _ _ (fun i j => g (l.toNat + i) j) (fun h => h1 (by omega)) (fun h => h2 (by omega)) (fun i hi => hid _ (by omega)) (by omega) (by omega) ?_ ?_ ?_ _ (fun h => by rw [had (by omega), addrAdd])
         ·intro i j hi hj
          have := h4 (l.toNat + i) j (by omega) hj
          rw [Nat.add_mul] at this
          rw [← this]
          congr 2
          omega
         ·exact fun i hi => h5 _ (by omega)
         ·exact fun i j a hi ha => h6 _ _ _ (by omega) ha
     ·cases h
    ·cases h
   ·cases h
  ·cases h
 ·rename_i s
  cases rx.x_inv
  split at h
  ·rename_i hu
   split at h
   ·rename_i l hh hl hhh
    simp only [Option.some.injEq, Prod.mk.injEq] at h
    obtain ⟨rfl, rfl, rfl⟩ := h
    have b := hn _ (List.mem_singleton.2 rfl)
    have hb := run_bounds (P := P) false s.size s.size lo hi vlo vhi l hh hl hhh rl rh b (Nat.le_refl _)
    exact ⟨_, w, by simp [Instr.sliceAt, Instr.slice, run_underlying hu, hb], came_same hE hm (.x _)⟩
   ·cases h
  ·cases h
 ·cases h
def opLen (P : Program) (m : Mem) (t : TypeId) (x : AV) : Option Out :=
 match P.underlying t with
 | some (.slice _) => match x with
  | .lst _ n _ => some ([], .x (.int .i64 (n : Int)), none)
  | .row id => match getM m id with
   | some (.row _ _ n _) => some ([], .x (.int .i64 (n : Int)), none)
   | _ => none
  | .x (.slice _ n _) => some ([], .x (.int .i64 (n : Int)), none)
  | _ => none
 | some .string => match x with
  | .x (.string s) => some ([], .x (.int .i64 (s.size : Int)), none)
  | _ => none
 | some (.array n _) => some ([], .x (.int .i64 (n : Int)), none)
 | _ => none
theorem opLen_sound {e : Env} {B : Nat} {w : World} {m : Mem} {id : Nat} {t ty : TypeId} {x : AV} {v : Value} {ns : List Prop} {val : AV} {add : Option Res} (h : opLen P m t x = some (ns, val, add))
  (hE : EnvOk e B w) (hm : MemOk e m w) (rx : Rep e w x v) : ∃ u w', (Builtin.len_ #[t] ty #[v]).run P w = .ok u w' ∧ Came e B w m id val add u w' := by
 unfold opLen at h
 split at h
 ·rename_i el hu
  have key : ∀ (a : Option Addr) (n c : Nat), v = .slice a n c → val = .x (.int .i64 (n : Int)) → add = none → ∃ u w', (Builtin.len_ #[t] ty #[v]).run P w = .ok u w' ∧ Came e B w m id val add u w' := by
   rintro a n c rfl rfl rfl
   exact ⟨_, w, by simp [Builtin.len_, run_underlying hu, goInt], came_same hE hm (.x _)⟩
  split at h
  ·rename_i sz n f
   cases h
   cases rx with
   | lstNil sz f => exact key _ _ _ rfl rfl rfl
   | lst sz n f b o cap g h1 h2 hid h3 h3' h4 h5 h6 ad had => exact key _ _ _ rfl rfl rfl
  ·rename_i k
   split at h
   ·rename_i T sz n f hg
    cases h
    obtain ⟨hlv, hown, hf, xs, hx, hrep⟩ := hm _ (getM_mem hg)
    cases rx with
    | row _ a n' c hl hv =>
     rcases hx.2 with ⟨hv0, hn0⟩ | ⟨g, cap, cur, hv0, _, _⟩
     ·rw [hv] at hv0; cases hv0; subst hn0; exact key _ _ _ rfl rfl rfl
     ·rw [hv] at hv0; cases hv0; exact key _ _ _ rfl rfl rfl
   ·cases h
  ·rename_i a n c
   cases h
   cases rx.x_inv
   exact key _ _ _ rfl rfl rfl
  ·cases h
 ·rename_i hu
  split at h
  ·rename_i s
   cases h
   cases rx.x_inv
   exact ⟨_, w, by simp [Builtin.len_, run_underlying hu, goInt], came_same hE hm (.x _)⟩
  ·cases h
 ·rename_i n el hu
  cases h
  exact ⟨_, w, by simp [Builtin.len_, run_underlying hu, goInt], came_same hE hm (.x _)⟩
 ·cases h
def opMin (isMax : Bool) (acc : Int) : List AV → Option Int
 | [] => some acc
 | .x (.int .i64 b) :: r => opMin isMax (match isMax with | true => max acc b | false => min acc b) r
 | _ => none
theorem opMin_min {e : Env} {w : World} : ∀ (l : List AV) (vs : List Value) (acc r : Int), opMin false acc l = some r → RepL e w l vs → (vs.foldlM Builtin.min2 (.int .i64 acc)).run P w = .ok (.int .i64 r) w
 | [], vs, acc, r, h, k => by cases k.nil_inv; simp [opMin] at h; subst h; rfl
 | a :: l, vs, acc, r, h, k => by
  obtain ⟨v, vs', rfl, hv, hvs⟩ := k.cons_inv
  unfold opMin at h
  split at h
  ·rename_i hnil; cases hnil
  ·rename_i b r' heq
   cases heq
   cases hv.x_inv
   have hm : (if b < acc then b else acc) = min acc b := by omega
   simp only [List.foldlM_cons, Builtin.min2, hm, Sem.run_bind, Sem.run_pure, Result.andThen_ok]
   exact opMin_min l vs' _ r h hvs
  ·cases h
theorem opMin_max {e : Env} {w : World} : ∀ (l : List AV) (vs : List Value) (acc r : Int), opMin true acc l = some r → RepL e w l vs → (vs.foldlM Builtin.max2 (.int .i64 acc)).run P w = .ok (.int .i64 r) w
 | [], vs, acc, r, h, k => by cases k.nil_inv; simp [opMin] at h; subst h; rfl
 | a :: l, vs, acc, r, h, k => by
  obtain ⟨v, vs', rfl, hv, hvs⟩ := k.cons_inv
  unfold opMin at h
  split at h
  ·rename_i hnil; cases hnil
  ·rename_i b r' heq
   cases heq
   cases hv.x_inv
   have hm : (if b > acc then b else acc) = max acc b := by omega
   simp only [List.foldlM_cons, Builtin.max2, hm, Sem.run_bind, Sem.run_pure, Result.andThen_ok]
   exact opMin_max l vs' _ r h hvs
  ·cases h
def opBuiltin (P : Program) (m : Mem) (b : Builtin) (ts : List TypeId) (args : List AV) : Option Out :=
 match b with
 | .len => match ts, args with
  | [t], [x] => opLen P m t x
  | _, _ => none
 | .min => match args with
  | .x (.int .i64 a) :: r => match opMin false a r with
   | some n => some ([], .x (.int .i64 n), none)
   | none => none
  | _ => none
 | .max => match args with
  | .x (.int .i64 a) :: r => match opMin true a r with
   | some n => some ([], .x (.int .i64 n), none)
   | none => none
  | _ => none
 | _ => none
theorem opBuiltin_sound {e : Env} {B : Nat} {w : World} {m : Mem} {id : Nat} {b : Builtin} {ts : Array TypeId} {ty : TypeId} {cs : Array Bool} {args : List AV} {vs : List Value} {ns : List Prop} {val : AV} {add : Option Res} (h : opBuiltin P m b ts.toList args = some (ns, val, add))
  (hE : EnvOk e B w) (hm : MemOk e m w) (r : RepL e w args vs) : ∃ u w', (builtin b ts ty cs vs.toArray).run P w = .ok (.value u) w' ∧ Came e B w m id val add u w' := by
 unfold opBuiltin at h
 split at h
 ·split at h
  ·rename_i t x hts
   obtain ⟨v, vs', rfl, hv, hvs⟩ := r.cons_inv
   cases hvs.nil_inv
   obtain ⟨u, w', h1, h2⟩ := opLen_sound (P := P) (ty := ty) (id := id) h hE hm hv
   have hts' : ts = #[t] := Array.ext' (by simpa using hts)
   exact ⟨u, w', by simp [builtin, hts', h1], h2⟩
  ·cases h
 ·split at h
  ·rename_i a l
   split at h
   ·rename_i n hn
    cases h
    obtain ⟨v, vs', rfl, hv, hvs⟩ := r.cons_inv
    cases hv.x_inv
    exact ⟨_, w, by simp [builtin, Builtin.min_, opMin_min (P := P) l vs' a n hn hvs], came_same hE hm (.x _)⟩
   ·cases h
  ·cases h
 ·split at h
  ·rename_i a l
   split at h
   ·rename_i n hn
    cases h
    obtain ⟨v, vs', rfl, hv, hvs⟩ := r.cons_inv
    cases hv.x_inv
    exact ⟨_, w, by simp [builtin, Builtin.max_, opMin_max (P := P) l vs' a n hn hvs], came_same hE hm (.x _)⟩
   ·cases h
  ·cases h
 ·cases h
end
end Go.Sx
namespace Go.Sx
open Go Go.RowKit
def viewA (m : Mem) : Nat → AV → AV
 | 0, a => match a with
  | .lit b => .lit b
  | .x v => .x v
  | .ro l => .ro l
  | .lst a b c => .lst a b c
  | .roI a b c d => .roI a b c d
  | _ => .top
 | d + 1, a => match a with
  | .ptr id off => match getM m id with
   | some (.cells _ l) => match Nat.ble off l.length with
    | true => .ro ((l.drop off).map (viewA m d))
    | false => .top
   | some (.ints _ pre n f) => .roI (pre.map (viewA m d)) n f off
   | _ => .top
  | .row id => match getM m id with
   | some (.row _ sz n f) => .lst sz n f
   | _ => .top
  | .agg l => .agg (l.map (viewA m d))
  | .tup l => .tup (l.map (viewA m d))
  | .fn f l l' => .fn f (l.map (viewA m d)) (l'.map (viewA m d))
  | .elt _ _ _ _ => .top
  | .mp _ => .top
  | a => a
def Env.view (e : Env) : Env := { e with ro := fun b => e.ro b ∨ ∃ id, e.own b = some id, own := fun _ => none }
theorem Step.view {e : Env} (w : World) : Step e e.view w w := ⟨fun _ _ h => ⟨.inl h, rfl⟩, fun _ h => ⟨h, rfl, rfl⟩, Nat.le_refl _⟩
theorem RepL.map {e e' : Env} {w : World} {l : List AV} {vs : List Value} (g : AV → AV) (hg : ∀ a v, Rep e w a v → Rep e' w (g a) v) (h : RepL e w l vs) : RepL e' w (l.map g) vs := by
 refine ⟨by simp [h.1], fun i a v ha hv => ?_⟩
 rw [List.getElem?_map, Option.map_eq_some_iff] at ha
 obtain ⟨a', ha', rfl⟩ := ha
 exact hg _ _ (h.2 i a' v ha' hv)
theorem idf_map {g : AV → AV} {e : Env} {w : World} (hg : ∀ a v, Rep e w a v → Idf (g a)) {l : List AV} {vs : List Value} (h : RepL e w l vs) : ∀ a ∈ l.map g, Idf a := by
 intro a ha
 obtain ⟨b, hb, rfl⟩ := List.mem_map.1 ha
 obtain ⟨i, hi⟩ := List.mem_iff_getElem?.1 hb
 obtain ⟨v, hv, r⟩ := h.get hi
 exact hg b v r
theorem viewA_ints (m : Mem) (d : Nat) (pre : List AV) (n : Nat) (f : Nat → Int) : (pre ++ intsL n f).map (viewA m d) = pre.map (viewA m d) ++ intsL n f := by
 rw [List.map_append]
 congr 1
 unfold intsL
 rw [List.map_map]
 congr 1
 funext k
 cases d <;> rfl
theorem viewA_idf {e : Env} {w : World} {m : Mem} (hm : MemOk e m w) : ∀ (d : Nat) (a : AV) (v : Value), Rep e w a v → Idf (viewA m d a)
 | 0, a, v, h => by
  cases h with
  | lit b => exact .lit b
  | x v => exact .x v
  | ro l vs b o h1 h2 h3 h4 h5 h6 => exact .ro l h3
  | lstNil sz f => exact .lst sz 0 f (fun i hi => by omega)
  | lst sz n f b o cap g h1 h2 h3 h4 h5 h6 h7 h8 ad had => exact .lst sz n f h3
  | roI pre n f off b o hr => cases hr with | ro _ vs _ _ h1 h2 h3 h4 h5 h6 => exact .roI pre n f off (.ro _ h3)
  | _ => exact .top
 | d + 1, a, v, h => by
  have ih := viewA_idf hm d
  cases h with
  | top v => exact .top
  | lit b => exact .lit b
  | x v => exact .x v
  | agg l vs h1 h2 => exact .agg _ (idf_map ih (⟨h1, h2⟩ : RepL e w l vs))
  | tup l vs h1 h2 => exact .tup _ (idf_map ih (⟨h1, h2⟩ : RepL e w l vs))
  | fn f l l' vs vs' h1 h2 h3 h4 => exact .fn f _ _ (idf_map ih (⟨h1, h2⟩ : RepL e w l vs)) (idf_map ih (⟨h3, h4⟩ : RepL e w l' vs'))
  | ptr id off hl =>
   simp only [viewA]
   split
   ·rename_i T l hg
    split
    ·obtain ⟨_, hown, vs, h3, h4⟩ := hm _ (getM_mem hg)
     exact .ro _ (idf_map ih (h4.drop off))
    ·exact .top
   ·rename_i T pre n f hg
    obtain ⟨_, hown, vs, h3, h4⟩ := hm _ (getM_mem hg)
    have := idf_map ih h4
    rw [viewA_ints] at this
    exact .roI _ n f off (.ro _ this)
   ·exact .top
  | row id a n c hl hv =>
   simp only [viewA]
   split
   ·rename_i T sz n' f hg
    obtain ⟨_, hown, hf, _⟩ := hm _ (getM_mem hg)
    exact .lst sz n' f (fun i hi => (hf i hi).2)
   ·exact .top
  | elt id sz i j b n cap hl hv => exact .top
  | mp id hl => exact .top
  | roI pre n f off b o hr => cases hr with | ro _ vs _ _ h1 h2 h3 h4 h5 h6 => exact .roI pre n f off (.ro _ h3)
  | ro l vs b o h1 h2 h3 h4 h5 h6 => exact .ro l h3
  | lstNil sz f => exact .lst sz 0 f (fun i hi => by omega)
  | lst sz n f b o cap g h1 h2 h3 h4 h5 h6 h7 h8 ad had => exact .lst sz n f h3
theorem viewA_rep {e : Env} {B : Nat} {w : World} {m : Mem} (hE : EnvOk e B w) (hm : MemOk e m w) : ∀ (d : Nat) (a : AV) (v : Value), Rep e w a v → Rep e.view w (viewA m d a) v
 | 0, a, v, h => by
  have := h.step (Step.view w)
  cases a <;> first | exact this | exact .top v
 | d + 1, a, v, h => by
  have ih := viewA_rep hE hm d
  have ihf := viewA_idf hm d
  cases h with
  | top v => exact .top v
  | lit b => exact .lit b
  | x v => exact .x v
  | agg l vs h1 h2 => exact Rep.aggL (RepL.map _ ih ⟨h1, h2⟩)
  | tup l vs h1 h2 => exact Rep.tupL (RepL.map _ ih ⟨h1, h2⟩)
  | fn f l l' vs vs' h1 h2 h3 h4 =>
   have k1 : RepL e w l vs := ⟨h1, h2⟩
   have k2 : RepL e w l' vs' := ⟨h3, h4⟩
   exact .fn f _ _ vs vs' (RepL.map _ ih k1).1 (RepL.map _ ih k1).2 (RepL.map _ ih k2).1 (RepL.map _ ih k2).2
  | ptr id off hl =>
   simp only [viewA]
   split
   ·rename_i T l hg
    split
    ·obtain ⟨_, hown, vs, h3, h4⟩ := hm _ (getM_mem hg)
     have hlt := (hE.owned _ _ hown).2
     have k := RepL.map (viewA m d) ih (h4.drop off)
     refine .ro _ (vs.drop off) (e.blk id) off (.inr ⟨_, hown⟩) hlt (idf_map ihf (h4.drop off)) k.1 ?_ k.2
     intro j v hj
     rw [List.getElem?_drop] at hj
     simp [World.cell?, h3, hj]
    ·exact .top _
   ·rename_i T pre n f hg
    obtain ⟨_, hown, vs, h3, h4⟩ := hm _ (getM_mem hg)
    have hlt := (hE.owned _ _ hown).2
    have k := RepL.map (viewA m d) ih h4
    have kf := idf_map ihf h4
    rw [viewA_ints] at k kf
    have hc : ∀ (j : Nat) (v : Value), vs[j]? = some v → w.cell? ⟨e.blk id, 0 + j, none⟩ = some v := by
     intro j v hj
     simp [World.cell?, h3, hj]
    have := Rep.roI (e := e.view) (w := w) (pre.map (viewA m d)) n f off (e.blk id) 0 (.ro _ vs _ 0 (.inr ⟨_, hown⟩) hlt kf k.1 hc k.2)
    rwa [Nat.zero_add] at this
   ·exact .top _
  | row id a n c hl hv =>
   simp only [viewA]
   split
   ·rename_i T sz n' f hg
    obtain ⟨_, hown, hf, xs, hx, hrep⟩ := hm _ (getM_mem hg)
    rcases hx.2 with ⟨hv0, hn0⟩ | ⟨g, cap, cur, hv0, _, hgg, hnc, hcm, hcs, htake⟩
    ·rw [hv] at hv0; cases hv0; subst hn0; exact .lstNil _ _
    ·have hob : e.own g = some id := hown g (by rw [hv0]; rfl)
     have hlt := (hE.owned _ _ hob).2
     rw [hv] at hv0; cases hv0
     refine Rep.lst (e := e.view) (w := w) sz _ _ g 0 _ (fun i j => xs.getD (i * sz + j) .nilIface) (fun _ => .inr ⟨_, hob⟩) (fun _ => hlt) (fun i hi => (hf i hi).2) hnc hcm ?_ (fun i hi => (hf i hi).1) ?_ _ (fun _ => rfl)
     ·intro i j hi hj
      have hle : i * sz + sz ≤ n * sz := by
       have := Nat.mul_le_mul_right sz (Nat.succ_le_of_lt hi)
       rwa [Nat.succ_mul] at this
      have hlt2 : i * sz + j < xs.length := by rw [hx.1]; omega
      have hc := hx.cells (g := g) (by rw [hv]; rfl) (i * sz + j) xs[i * sz + j] (List.getElem?_eq_getElem hlt2)
      rw [addrAdd] at hc
      rw [hc]
      simp [List.getD, List.getElem?_eq_getElem hlt2]
     ·intro i j a ha' ha
      have hj : j < sz := by rw [← (hf i ha').1]; exact (List.getElem?_eq_some_iff.1 ha).1
      have hle : i * sz + sz ≤ n * sz := by
       have := Nat.mul_le_mul_right sz (Nat.succ_le_of_lt ha')
       rwa [Nat.succ_mul] at this
      have hlt2 : i * sz + j < xs.length := by rw [hx.1]; omega
      have := hrep i j a xs[i * sz + j] ha' ha (List.getElem?_eq_getElem hlt2)
      simp only [List.getD, List.getElem?_eq_getElem hlt2, Option.getD_some]
      exact this.step (Step.view w)
   ·exact .top _
  | elt id sz i j b n cap hl hv => exact .top _
  | mp id hl => exact .top _
  | roI pre n f off b o hr => exact (Rep.roI (e := e) (w := w) pre n f off b o hr).step (Step.view w)
  | ro l vs b o h1 h2 h3 h4 h5 h6 => exact (Rep.ro (e := e) (w := w) l vs b o h1 h2 h3 h4 h5 h6).step (Step.view w)
  | lstNil sz f => exact .lstNil sz f
  | lst sz n f b o cap g h1 h2 h3 h4 h5 h6 h7 h8 ad had => exact (Rep.lst (e := e) (w := w) sz n f b o cap g h1 h2 h3 h4 h5 h6 h7 h8 ad had).step (Step.view w)
def freshE (w w' : World) : Env := { ro := fun b => w.heap.size ≤ b ∧ b < w'.heap.size, own := fun _ => none, live := fun _ => False, blk := fun _ => 0, val := fun _ => .nilIface }
def SoundAt (P : Program) (f : FuncId) (avs : List AV) (res : AV) : Prop :=
 ∀ (e : Env) (w : World) (args : List Value), (∀ b, e.ro b → b < w.heap.size) → (∀ a ∈ avs, Idf a) → RepL e w avs args →
  Calls P f args.toArray w fun en w' => ∃ v, en = .returned v ∧ Below w.heap.size w w' ∧ Rep (freshE w w') w' res v
abbrev Spec := List AV → Option (List Prop × AV)
def Enters (P : Program) (f : FuncId) : Prop := ∃ fn, P.funcs[f]? = some fn ∧ (fn.name == "runtime.NumGoroutine") = false ∧ fn.body.isNone = false
def SoundSpec (P : Program) (f : FuncId) (s : Spec) : Prop := Enters P f ∧ ∀ avs ns res, s avs = some (ns, res) → (∀ p ∈ ns, p) → SoundAt P f avs res
def SoundG (P : Program) (G : List (Nat × Spec)) : Prop := ∀ p ∈ G, SoundSpec P p.1 p.2
theorem SoundG.nil (P : Program) : SoundG P [] := fun _ h => by cases h
theorem SoundG.cons {P : Program} {f : Nat} {s : Spec} {G : List (Nat × Spec)} (h : SoundSpec P f s) (k : SoundG P G) : SoundG P ((f, s) :: G) := by
 intro p hp
 rcases List.mem_cons.1 hp with rfl | hp
 ·exact h
 ·exact k p hp
def getG : List (Nat × Spec) → Nat → Option Spec
 | [], _ => none
 | (k, s) :: t, f => match Nat.beq k f with
  | true => some s
  | false => getG t f
theorem getG_mem {G : List (Nat × Spec)} {f : Nat} {s : Spec} (h : getG G f = some s) : (f, s) ∈ G := by
 induction G with
 | nil => simp [getG] at h
 | cons p t ih =>
  obtain ⟨k, r'⟩ := p
  unfold getG at h
  split at h
  ·rename_i hk
   have : k = f := Nat.eq_of_beq_eq_true hk
   subst this
   cases h
   exact List.mem_cons_self
  ·exact List.mem_cons_of_mem _ (ih h)
theorem run_callFunc {P : Program} {f : FuncId} (h : Enters P f) (args : Array Value) (w : World) : (callFunc f args).run P w = .ok (.enter f args) w := by
 obtain ⟨fn, h1, h2, h3⟩ := h
 have h2' : fn.name ≠ "runtime.NumGoroutine" := by simpa using h2
 have h3' : fn.body ≠ none := by intro h; rw [h] at h3; cases h3
 simp [callFunc, h1, h2', h3']
def Env.more (e : Env) (w w' : World) : Env := { e with ro := fun b => e.ro b ∨ (w.heap.size ≤ b ∧ b < w'.heap.size) }
theorem came_call {e : Env} {B : Nat} {w w' : World} {m : Mem} {id : Nat} {res : AV} {v : Value} (hE : EnvOk e B w) (hm : MemOk e m w) (hb : Below w.heap.size w w') (r : Rep (freshE w w') w' res v) : Came e B w m id res none v w' := by
 have st : Step e (e.more w w') w w' := ⟨fun b hlt hr => ⟨.inl hr, hb.block b hlt⟩, fun _ h => ⟨h, rfl, rfl⟩, hb.size⟩
 refine ⟨e.more w w', hb, st, ⟨?_, ?_⟩, fun _ _ h => h, ?_, hm.ext hb st (fun _ _ h => h), fun _ h => .inl h, fun _ h => h.imp (fun h => h) (fun h => h.1)⟩
 ·rintro b (hr | ⟨h1, h2⟩)
  ·have := hE.apart b hr; have := hb.size; exact ⟨(hE.apart b hr).1, by omega⟩
  ·refine ⟨?_, h2⟩
   cases ho : (e.more w w').own b with
   | none => rfl
   | some k => have := (hE.owned b k ho).2; omega
 ·intro b k hk
  have := hE.owned b k hk
  have := hb.size
  exact ⟨(hE.owned b k hk).1, by omega⟩
 ·have st2 : Step (freshE w w') (e.more w w') w' w' := ⟨fun b _ h => ⟨Or.inr h, rfl⟩, fun _ h => False.elim h, Nat.le_refl _⟩
  exact r.step st2
def opCall (G : List (Nat × Spec)) (m : Mem) (f : AV) (args : List AV) : Option Out :=
 match f with
 | .fn (.func g) first caps => match getG G g with
  | some s => match s ((first ++ args ++ caps).map (viewA m 40)) with
   | some (ns, r) => some (ns, r, none)
   | none => none
  | none => none
 | _ => none
def aop (P : Program) (G : List (Nat × Spec)) (id : Nat) (m : Mem) (ρ : Operand → AV) (op : Op) : Option Out :=
 match op with
 | .move x => some ([], ρ x, none)
 | .assign x => some ([], ρ x, none)
 | .pick c a b => match ρ c with
  | .lit true => some ([], ρ a, none)
  | .lit false => some ([], ρ b, none)
  | _ => none
 | .alloc t => match P.info? t with
  | some i => match i.zero with
   | some z => some ([], .ptr id 0, some (boxRes true t (z.cells.toList.map .x)))
   | none => none
  | none => none
 | .box t x => match (ρ x).cellsOf with
  | some l => some ([], .ptr id 0, some (boxRes false t l))
  | none => none
 | .build t parts => opBuild P t (parts.toList.map fun p => (p.1, ρ p.2))
 | .buildSlice t len parts => match Nat.beq len 0 && !parts.toList.isEmpty with
  | true => none
  | false => opBuildSlice P id t len (parts.toList.map fun p => (p.1, ρ p.2))
 | .load t x => opLoad P m t (ρ x)
 | .nilCheck x => match ρ x with
  | .ptr i o => some ([], .ptr i o, none)
  | .ro l => some ([], .ro l, none)
  | .elt a b c d => some ([], .elt a b c d, none)
  | .roI a b c d => some ([], .roI a b c d, none)
  | .fn (.func f) l l' => some ([], .fn (.func f) l l', none)
  | _ => none
 | .binOp op t x y _ => opBin P op t (ρ x) (ρ y)
 | .unOp op _ x => opUn op (ρ x)
 | .convert s d x => opConv P s d (ρ x)
 | .makeFunc fn first caps => some ([], .fn fn (first.toList.map ρ) (caps.toList.map ρ), none)
 | .slice t x lo hi mx => match mx with
  | none => opSlice P t (ρ x) (lo.map ρ) (hi.map ρ)
  | some _ => none
 | .fieldAddr t x k => opFieldAddr P t k (ρ x)
 | .field t x k => opField P t k (ρ x)
 | .indexAddr t x i => opIndexAddr P m t (ρ x) (ρ i)
 | .makeSlice t l c => opMakeSlice P id t (ρ l) (ρ c)
 | .extract x i => match ρ x with
  | .tup l => pureO l[i]?
  | _ => none
 | .makeMap _ r => match r with
  | none => some ([], .mp id, some (.memo (fun _ => False) (fun v => v)))
  | some _ => none
 | .call c => match c.callee with
  | .builtin b => opBuiltin P m b c.argTypes.toList (c.args.toList.map ρ)
  | .value f => opCall G m (ρ f) (c.args.toList.map ρ)
  | _ => none
 | _ => none
theorem Rep.ptr_inv {e : Env} {w : World} {i o : Nat} {v : Value} (h : Rep e w (.ptr i o) v) : ∃ ad, v = .pointer (some ad) := by cases h; exact ⟨_, rfl⟩
theorem Rep.ro_inv {e : Env} {w : World} {l : List AV} {v : Value} (h : Rep e w (.ro l) v) : ∃ ad, v = .pointer (some ad) := by cases h; exact ⟨_, rfl⟩
theorem Rep.roI_inv {e : Env} {w : World} {p : List AV} {i o : Nat} {f : Nat → Int} {v : Value} (h : Rep e w (.roI p i f o) v) : ∃ ad, v = .pointer (some ad) := by cases h; exact ⟨_, rfl⟩
theorem Rep.elt_inv {e : Env} {w : World} {i o p q : Nat} {v : Value} (h : Rep e w (.elt i o p q) v) : ∃ ad, v = .pointer (some ad) := by cases h; exact ⟨_, rfl⟩
theorem wp_value {P : Program} {o : Oper} {a : Act} {w w' : World} {v : Value} {K : Act → World → Prop} {Q : Exit → Act → World → Prop} (h : (execOp a.eval o).run P w = .ok (.value v) w') (k : K (a.put o.dst v) w') : o.wp P a w K Q := by
 unfold Oper.wp; rw [h]; exact k
theorem RepL.ops {e : Env} {w : World} {ρ : Operand → AV} {a : Act} (hr : ∀ x, Rep e w (ρ x) (a.eval x)) : ∀ l : List Operand, RepL e w (l.map ρ) (l.map a.eval)
 | [] => RepL.nil e w
 | x :: l => RepL.cons (hr x) (RepL.ops hr l)
theorem parts_rep {e : Env} {w : World} {ρ : Operand → AV} {a : Act} (hr : ∀ x, Rep e w (ρ x) (a.eval x)) (ps : Array (Nat × Operand)) :
  (ps.toList.map fun p => (p.1, ρ p.2)).map (·.1) = (ps.map fun (i, x) => (i, a.eval x)).toList.map (·.1) ∧
  RepL e w ((ps.toList.map fun p => (p.1, ρ p.2)).map (·.2)) ((ps.map fun (i, x) => (i, a.eval x)).toList.map (·.2)) := by
 refine ⟨by simp, ?_⟩
 have := RepL.ops hr (ps.toList.map (·.2))
 simpa [List.map_map, Function.comp_def] using this
theorem aop_sound {P : Program} {G : List (Nat × Spec)} (hG : SoundG P G) {e : Env} {B : Nat} {w : World} {m : Mem} {id : Nat} {ρ : Operand → AV} {o : Oper} {a : Act} {ns : List Prop} {val : AV} {add : Option Res}
  (h : aop P G id m ρ o.op = some (ns, val, add)) (hn : ∀ p ∈ ns, p) (hE : EnvOk e B w) (hB : B ≤ w.heap.size) (hm : MemOk e m w) (hid : ¬ e.live id) (hr : ∀ x, Rep e w (ρ x) (a.eval x))
  {K : Act → World → Prop} {Q : Exit → Act → World → Prop} (hK : ∀ v w', Came e B w m id val add v w' → K (a.put o.dst v) w') : o.wp P a w K Q := by
 obtain ⟨dst, op, type, pos, after, guard⟩ := o
 have val1 : ∀ (s : Sem Value), execOp a.eval ⟨dst, op, type, pos, after, guard⟩ = (do pure (.value (← s))) → (∃ u w', s.run P w = .ok u w' ∧ Came e B w m id val add u w') → Oper.wp P ⟨dst, op, type, pos, after, guard⟩ a w K Q := by
  rintro s hs ⟨u, w', h1, h2⟩
  exact wp_value (v := u) (w' := w') (by rw [hs]; simp [h1]) (hK u w' h2)
 cases op <;> try (simp [aop] at h; done)
 case move x =>
  simp only [aop, Option.some.injEq, Prod.mk.injEq] at h
  obtain ⟨rfl, rfl, rfl⟩ := h
  exact wp_value (v := a.eval x) (w' := w) (by simp [execOp]) (hK _ _ (came_same hE hm (hr x)))
 case assign x =>
  simp only [aop, Option.some.injEq, Prod.mk.injEq] at h
  obtain ⟨rfl, rfl, rfl⟩ := h
  exact wp_value (v := a.eval x) (w' := w) (by simp [execOp]) (hK _ _ (came_same hE hm (hr x)))
 case pick c x y =>
  simp only [aop] at h
  have hc := hr c
  split at h
  ·rename_i heq
   rw [heq] at hc
   cases h
   exact wp_value (v := a.eval x) (w' := w) (by simp [execOp, hc.lit_inv, asBool]) (hK _ _ (came_same hE hm (hr x)))
  ·rename_i heq
   rw [heq] at hc
   cases h
   exact wp_value (v := a.eval y) (w' := w) (by simp [execOp, hc.lit_inv, asBool]) (hK _ _ (came_same hE hm (hr y)))
  ·cases h
 case alloc t =>
  simp only [aop] at h
  split at h
  ·rename_i i hi
   split at h
   ·rename_i z hz
    cases h
    have hcm := came_new (e := e) (B := B) (w := w) (m := m) (id := id) (T := t) hE hB hm hid (RepL.xs e w z.cells.toList)
    exact wp_value (by simp [execOp, Instr.alloc, zeroValue, typeInfo, hi, hz, newVar, newRow]; exact ⟨rfl, rfl⟩) (hK _ _ (came_box (by simpa using hcm)))
   ·cases h
  ·cases h
 case box t x =>
  simp only [aop] at h
  split at h
  ·rename_i l hl
   cases h
   have hcm := came_new (e := e) (B := B) (w := w) (m := m) (id := id) (T := t) hE hB hm hid (cellsOf_rep hl (hr x))
   exact wp_value (by simp [execOp, Instr.box, newVar, newRow]; exact ⟨rfl, rfl⟩) (hK _ _ (came_box (by simpa using hcm)))
  ·cases h
 case build t parts =>
  simp only [aop] at h
  obtain ⟨h1, h2⟩ := parts_rep hr parts
  exact val1 _ rfl (opBuild_sound (P := P) h hE hm h1 h2)
 case buildSlice t len parts =>
  simp only [aop] at h
  split at h
  ·cases h
  ·rename_i hc
   obtain ⟨h1, h2⟩ := parts_rep hr parts
   refine val1 _ rfl (opBuildSlice_sound (P := P) h hE hB hm hid h1 h2 ?_)
   rintro rfl
   have : parts = #[] := by simpa using hc
   subst this
   simp
 case load t x => exact val1 _ rfl (opLoad_sound (P := P) (by simpa only [aop] using h) hn hE hm (hr x))
 case nilCheck x =>
  simp only [aop] at h
  have hx := hr x
  have fin : val = ρ x → add = none → (∃ ad, a.eval x = .pointer (some ad)) ∨ (∃ f l l', a.eval x = .func (.func f) l l') → Oper.wp P ⟨dst, .nilCheck x, type, pos, after, guard⟩ a w K Q := by
   rintro rfl rfl hv
   refine wp_value (v := a.eval x) (w' := w) ?_ (hK _ _ (came_same hE hm (hr x)))
   rcases hv with ⟨ad, hv⟩ | ⟨f, l, l', hv⟩ <;> simp [execOp, hv]
  split at h
  ·rename_i heq; rw [heq] at hx; cases h; exact fin heq.symm rfl (.inl hx.ptr_inv)
  ·rename_i heq; rw [heq] at hx; cases h; exact fin heq.symm rfl (.inl hx.ro_inv)
  ·rename_i heq; rw [heq] at hx; cases h; exact fin heq.symm rfl (.inl hx.elt_inv)
  ·rename_i heq; rw [heq] at hx; cases h; exact fin heq.symm rfl (.inl hx.roI_inv)
  ·rename_i heq; rw [heq] at hx; cases h; obtain ⟨vs, vs', hv, _⟩ := hx.fn_inv; exact fin heq.symm rfl (.inr ⟨_, _, _, hv⟩)
  ·cases h
 case binOp op t x y t' => exact val1 _ rfl (opBin_sound (P := P) (by simpa only [aop] using h) hn hE hm (hr x) (hr y))
 case unOp op t x => exact val1 _ rfl (opUn_sound (P := P) (by simpa only [aop] using h) hn hE hm (hr x))
 case convert s d x => exact val1 _ rfl (opConv_sound (P := P) (by simpa only [aop] using h) hn hE hm (hr x))
 case makeMap t r =>
  cases r with
  | some r => simp [aop] at h
  | none =>
   simp only [aop, Option.some.injEq, Prod.mk.injEq] at h
   obtain ⟨rfl, rfl, rfl⟩ := h
   refine wp_value (v := .map (some w.heap.size)) (w' := w.alloc (.map #[] 0)) ?_ (hK _ _ (came_map hE hB hm hid))
   simp [execOp, Instr.makeMap]
 case makeFunc fn first caps =>
  simp only [aop, Option.some.injEq, Prod.mk.injEq] at h
  obtain ⟨rfl, rfl, rfl⟩ := h
  have h1 := RepL.ops hr first.toList
  have h2 := RepL.ops hr caps.toList
  refine wp_value (v := .func fn (first.toList.map a.eval).toArray (caps.toList.map a.eval).toArray) (w' := w) ?_ (hK _ _ (came_same hE hm (.fn fn _ _ _ _ h1.1 h1.2 h2.1 h2.2)))
  have e1 : ∀ l : Array Operand, (l.toList.map a.eval).toArray = l.map a.eval := fun l => Array.ext' (by simp)
  rw [e1, e1]
  simp [execOp, Instr.makeFunc]
 case slice t x lo hi mx =>
  simp only [aop] at h
  split at h
  ·refine val1 (Instr.sliceAt t (a.eval x) (lo.map a.eval) (hi.map a.eval) none) rfl (opSlice_sound (P := P) h hn hE hm (hr x) ?_ ?_)
   ·cases lo with | none => trivial | some y => exact hr y
   ·cases hi with | none => trivial | some y => exact hr y
  ·cases h
 case fieldAddr t x k => exact val1 _ rfl (opFieldAddr_sound (P := P) (by simpa only [aop] using h) hE hm (hr x))
 case field t x k => exact val1 _ rfl (opField_sound (P := P) (by simpa only [aop] using h) hE hm (hr x))
 case indexAddr t x i => exact val1 _ rfl (opIndexAddr_sound (P := P) (by simpa only [aop] using h) hn hE hm (hr x) (hr i))
 case makeSlice t l c => exact val1 _ rfl (opMakeSlice_sound (P := P) (by simpa only [aop] using h) hn hE hB hm hid (hr l) (hr c))
 case extract x i =>
  simp only [aop] at h
  have hx := hr x
  split at h
  ·rename_i l heq
   rw [heq] at hx
   obtain ⟨k1, rfl, rfl⟩ := pureO_some h
   obtain ⟨vs, hv, hvs⟩ := hx.tup_inv
   obtain ⟨u, hu, hrep⟩ := hvs.get k1
   exact val1 _ rfl ⟨u, w, by simp [Instr.extract, hv, hu], came_same hE hm hrep⟩
  ·cases h
 case call c =>
  obtain ⟨callee, args, argTypes⟩ := c
  have ha := RepL.ops hr args.toList
  cases callee with
  | builtin b =>
   simp only [aop] at h
   obtain ⟨u, w', h1, h2⟩ := opBuiltin_sound (P := P) (ty := type) (cs := args.map fun | .const _ => true | _ => false) (id := id) h hE hm ha
   have e1 : (args.toList.map a.eval).toArray = args.map a.eval := Array.ext' (by simp)
   rw [e1] at h1
   exact wp_value (v := u) (w' := w') (by simp only [execOp, resolve, Sem.run_bind, Sem.run_pure, Result.andThen_ok, invoke]; exact h1) (hK u w' h2)
  | value f =>
   simp only [aop] at h
   have hf := hr f
   unfold opCall at h
   split at h
   ·rename_i g first caps heq
    rw [heq] at hf
    obtain ⟨vs, vs', hv, r1, r2⟩ := hf.fn_inv
    split at h
    ·rename_i s hs
     split at h
     ·rename_i ns' r hres
      cases h
      obtain ⟨hent, hsound⟩ := hG _ (getG_mem hs)
      have hall : RepL e w (first ++ args.toList.map ρ ++ caps) (vs ++ args.toList.map a.eval ++ vs') := (r1.append ha).append r2
      have hview := RepL.map (viewA m 40) (viewA_rep hE hm 40) hall
      have hcall := hsound _ _ _ hres hn e.view w _ (by
       rintro b (hb | ⟨k, hb⟩)
       ·exact (hE.apart b hb).2
       ·exact (hE.owned b k hb).2) (idf_map (viewA_idf hm 40) hall) hview
      unfold Oper.wp
      have hrun : (execOp a.eval ⟨dst, .call ⟨.value f, args, argTypes⟩, type, pos, after, guard⟩).run P w = .ok (.enter g (vs ++ args.toList.map a.eval ++ vs').toArray) w := by
       have e1 : (vs ++ args.toList.map a.eval ++ vs').toArray = vs.toArray ++ args.map a.eval ++ vs'.toArray := Array.ext' (by simp)
       simp only [execOp, resolve, hv, Deferred.ofValue, Sem.run_bind, Sem.run_pure, Result.andThen_ok, invoke]
       rw [e1]
       exact run_callFunc hent _ w
      rw [hrun, Oper.upon_enter]
      refine hcall.mono fun en w' hq => ?_
      obtain ⟨v, rfl, hb, hrep⟩ := hq
      exact hK v w' (came_call hE hm hb hrep)
     ·cases h
    ·cases h
   ·cases h
  | invoke r mm => simp [aop] at h
end Go.Sx
namespace Go.Sx
open Go Go.RowKit
def setM : Mem → Nat → Res → Mem
 | [], _, _ => []
 | (k, q) :: t, id, r => match Nat.beq k id with
  | true => (k, r) :: setM t id r
  | false => match akaOf id q with
   | true => setM t id r
   | false => (k, q) :: setM t id r
def delM : Mem → Nat → Mem
 | [], _ => []
 | (k, q) :: t, id => match Nat.beq k id || akaOf id q with
  | true => delM t id
  | false => (k, q) :: delM t id
theorem setM_mem {m : Mem} {id : Nat} {r : Res} {p : Nat × Res} (h : p ∈ setM m id r) : p = (id, r) ∨ (p ∈ m ∧ p.1 ≠ id ∧ akaOf id p.2 = false) := by
 induction m with
 | nil => cases h
 | cons q t ih =>
  obtain ⟨k, q⟩ := q
  unfold setM at h
  split at h
  ·rename_i hk
   have hk' : k = id := Nat.eq_of_beq_eq_true hk
   rcases List.mem_cons.1 h with rfl | h
   ·exact .inl (by rw [hk'])
   ·exact (ih h).imp (fun h => h) (fun h => ⟨List.mem_cons_of_mem _ h.1, h.2⟩)
  ·rename_i hk
   have hk' : k ≠ id := fun e => by subst e; simp at hk
   split at h
   ·exact (ih h).imp (fun h => h) (fun h => ⟨List.mem_cons_of_mem _ h.1, h.2⟩)
   ·rename_i ha
    rcases List.mem_cons.1 h with rfl | h
    ·exact .inr ⟨List.mem_cons_self, hk', ha⟩
    ·exact (ih h).imp (fun h => h) (fun h => ⟨List.mem_cons_of_mem _ h.1, h.2⟩)
theorem delM_mem {m : Mem} {id : Nat} {p : Nat × Res} (h : p ∈ delM m id) : p ∈ m ∧ p.1 ≠ id ∧ akaOf id p.2 = false := by
 induction m with
 | nil => cases h
 | cons q t ih =>
  obtain ⟨k, q⟩ := q
  unfold delM at h
  split at h
  ·exact ⟨List.mem_cons_of_mem _ (ih h).1, (ih h).2⟩
  ·rename_i hk
   rw [Bool.or_eq_false_iff] at hk
   have hk' : k ≠ id := fun e => by subst e; simp at hk
   rcases List.mem_cons.1 h with rfl | h
   ·exact ⟨List.mem_cons_self, hk', hk.2⟩
   ·exact ⟨List.mem_cons_of_mem _ (ih h).1, (ih h).2⟩
def Wrote (e : Env) (B : Nat) (w : World) (id : Nat) (val : AV) (m' : Mem) (v : Value) (w' : World) : Prop :=
 ∃ e', Below B w w' ∧ Step e e' w w' ∧ EnvOk e' B w' ∧ Rep e' w' val v ∧ MemOk e' m' w' ∧ (∀ k, e'.live k → e.live k ∨ k = id) ∧ (∀ b, e'.ro b → e.ro b)
def Wrote' (e : Env) (B : Nat) (w : World) (_id : Nat) (val : AV) (F : Nat → Res → Prop) (v : Value) (w' : World) : Prop :=
 ∃ e', Below B w w' ∧ Step e e' w w' ∧ EnvOk e' B w' ∧ Rep e' w' val v ∧ (∀ k r, F k r → Holds e' w' k r) ∧ (∀ k, e'.live k → e.live k ∨ k = _id) ∧ (∀ b, e'.ro b → e.ro b)
def rowAt (T : TypeId) (sz : Nat) : Res → Bool
 | .row T' sz' _ _ => Nat.beq T' T && Nat.beq sz' sz
 | _ => false
def mergeAV (c : Bool) : AV → AV → AV
 | .x (.int k a), .x (.int k' b) => match decide (k = k') with
  | true => .x (.int k (if c then a else b))
  | false => .top
 | .x (.bool a), .x (.bool b) => .x (.bool (if c then a else b))
 | a, b => match c with
  | true => a
  | false => b
theorem mergeAV_rep {e : Env} {w : World} {c : Bool} {a b : AV} {v : Value} (h : Rep e w (if c then a else b) v) : Rep e w (mergeAV c a b) v := by
 unfold mergeAV
 split
 ·rename_i k a' k' b'
  split
  ·rename_i hk
   have hk' : k = k' := of_decide_eq_true hk
   subst hk'
   cases c <;> simpa using h
  ·exact .top v
 ·cases c <;> simpa using h
 ·cases c <;> simpa using h
theorem mergeAV_idf {c : Bool} {a b : AV} (ha : Idf a) (hb : Idf b) : Idf (mergeAV c a b) := by
 unfold mergeAV
 split
 ·split
  ·exact .x _
  ·exact .top
 ·exact .x _
 ·cases c
  ·exact hb
  ·exact ha
def mergeL (c : Bool) : List AV → List AV → List AV
 | a :: l, b :: l' => mergeAV c a b :: mergeL c l l'
 | [], l' => match c with
  | true => []
  | false => l'
 | l, [] => match c with
  | true => l
  | false => []
theorem mergeL_get {c : Bool} : ∀ (l l' : List AV) (j : Nat) (a : AV), l.length = l'.length → (mergeL c l l')[j]? = some a → ∃ x y, l[j]? = some x ∧ l'[j]? = some y ∧ a = mergeAV c x y
 | [], [], j, a, _, h => by cases c <;> simp [mergeL] at h
 | x :: l, y :: l', 0, a, _, h => by simp [mergeL] at h; exact ⟨x, y, rfl, rfl, h.symm⟩
 | x :: l, y :: l', j + 1, a, hl, h => by simp only [mergeL, List.getElem?_cons_succ] at h ⊢; exact mergeL_get l l' j a (by simpa using hl) h
 | [], _ :: _, _, _, hl, _ => by simp at hl
 | _ :: _, [], _, _, hl, _ => by simp at hl
theorem mergeL_length {c : Bool} : ∀ (l l' : List AV), l.length = l'.length → (mergeL c l l').length = l.length
 | [], [], _ => by cases c <;> rfl
 | x :: l, y :: l', hl => by simp [mergeL, mergeL_length l l' (by simpa using hl)]
 | [], _ :: _, hl => by simp at hl
 | _ :: _, [], hl => by simp at hl
section
variable {P : Program}
def opStoreC (P : Program) (m : Mem) (t : TypeId) (x v : AV) : Option (List Prop × Mem) :=
 match v.cellsOf with
 | some cs => match P.info? t with
  | some i => match Nat.beq i.size cs.length && cs.all AV.one with
   | true => match x with
    | .ptr id off => match getM m id with
     | some (.cells T l) => match Nat.ble (off + cs.length) l.length with
      | true => some ([], setM m id (.cells T (splice off cs l)))
      | false => none
     | _ => none
    | .elt id sz p j => match getM m id with
     | some (.row T sz' n f) => match Nat.beq sz sz' && cs.all AV.idf && Nat.ble (j + cs.length) sz with
      | true => some ([p < n], setM m id (.row T sz n (fun k => mergeL (decide (k = p)) (splice j cs (f k)) (f k))))
      | false => none
     | _ => none
    | _ => none
   | false => none
  | none => none
 | none => none
theorem splice_length : ∀ (cs : List AV) (off : Nat) (cells : List AV), (splice off cs cells).length = cells.length
 | [], _, _ => rfl
 | c :: cs, off, cells => by simp [splice, splice_length cs]
theorem step_write {e : Env} {B g id : Nat} {w w' : World} (hE : EnvOk e B w) (hown : e.own g = some id) (hsz : w'.heap.size = w.heap.size) (hoth : ∀ b, b ≠ g → w'.heap[b]? = w.heap[b]?) : Step e e w w' :=
 ⟨fun b _ hr => ⟨hr, hoth b (fun he => by subst he; rw [(hE.apart b hr).1] at hown; cases hown)⟩, fun _ h => ⟨h, rfl, rfl⟩, by omega⟩
theorem holds_write {e : Env} {B g id : Nat} {w w' : World} (hE : EnvOk e B w) (hown : e.own g = some id) (hsz : w'.heap.size = w.heap.size) (hoth : ∀ b, b ≠ g → w'.heap[b]? = w.heap[b]?) {k : Nat} {r : Res} (hne : k ≠ id ∧ akaOf id r = false) (h : Holds e w k r) : Holds e w' k r := by
 obtain ⟨hne, hak⟩ := hne
 have st := step_write hE hown hsz hoth
 cases r with
 | cells T l =>
  obtain ⟨h1, h2, vs, h3, h4⟩ := h
  refine ⟨h1, h2, vs, ?_, h4.step st⟩
  rw [hoth _ (fun he => hne (by rw [he, hown] at h2; exact (Option.some.inj h2).symm))]
  exact h3
 | row T sz n f =>
  obtain ⟨h1, h2, hf, xs, h3, h4⟩ := h
  refine ⟨h1, h2, hf, xs, ⟨h3.1, h3.2.imp (fun h => h) ?_⟩, fun i j a v hi ha hv => (h4 i j a v hi ha hv).step st⟩
  rintro ⟨g', cap, cur, hv, hg, hh, rest⟩
  refine ⟨g', cap, cur, hv, hg, ?_, rest⟩
  rw [hoth g' (fun he => hne (by have := h2 g' (by rw [hv]; rfl); rw [he, hown] at this; exact (Option.some.inj this).symm))]
  exact hh
 | ints T pre n f =>
  obtain ⟨h1, h2, vs, h3, h4⟩ := h
  refine ⟨h1, h2, vs, ?_, h4.step st⟩
  rw [hoth _ (fun he => hne (by rw [he, hown] at h2; exact (Option.some.inj h2).symm))]
  exact h3
 | memo h f =>
  obtain ⟨h1, h2, es, c, h3, h4⟩ := h
  refine ⟨h1, h2, es, c, ?_, h4⟩
  rw [hoth _ (fun he => hne (by rw [he, hown] at h2; exact (Option.some.inj h2).symm))]
  exact h3
 | aka r T sz n f =>
  obtain ⟨h1, h0, o, hor, h2, hf, xs, h3, h4⟩ := h
  refine ⟨h1, h0, o, hor, h2, hf, xs, ⟨h3.1, h3.2.imp (fun h => h) ?_⟩, fun i j a v hi ha hv => (h4 i j a v hi ha hv).step st⟩
  rintro ⟨g', cap, cur, hv, hg, hh, rest⟩
  refine ⟨g', cap, cur, hv, hg, ?_, rest⟩
  rw [hoth g' (fun he => ?_)]
  ·exact hh
  ·have h5 := h2 g' (by rw [hv]; rfl)
   rw [he, hown] at h5
   have h6 : id = o := Option.some.inj h5
   rcases hor with rfl | rfl
   ·exact hne h6.symm
   ·rw [h6] at hak
    simp [akaOf] at hak
theorem envOk_write {e : Env} {B : Nat} {w w' : World} (hE : EnvOk e B w) (hsz : w'.heap.size = w.heap.size) : EnvOk e B w' := ⟨fun b h => by rw [hsz]; exact hE.apart b h, fun b k h => by rw [hsz]; exact hE.owned b k h⟩
theorem below_setRow {B g : Nat} (w : World) (cs : Array Value) (hB : B ≤ g) : Below B w (w.setRow g cs) :=
 ⟨rfl, rfl, rfl, by simp, fun k hk => setRow_other w g k cs (by omega)⟩
theorem splice_list {e : Env} {w : World} {l cs : List AV} {vs us : List Value} (off : Nat) (hl : RepL e w l vs) (hc : RepL e w cs us) (hle : off + cs.length ≤ l.length) :
  RepL e w (splice off cs l) (vs.take off ++ us ++ vs.drop (off + us.length)) := by
 induction cs generalizing off l vs us with
 | nil => cases hc.nil_inv; simpa [splice] using hl
 | cons c cs ih =>
  obtain ⟨u, us', rfl, hu, hus⟩ := hc.cons_inv
  have hlen := hl.1
  have := ih (l := l.set off c) (vs := vs.set off u) (us := us') (off + 1) (hl.set hu off) hus (by simp at hle ⊢; omega)
  simp only [splice]
  have e1 : (vs.set off u).take (off + 1) ++ us' ++ (vs.set off u).drop (off + 1 + us'.length) = vs.take off ++ (u :: us') ++ vs.drop (off + (u :: us').length) := by
   have hoff : off < vs.length := by simp at hle; omega
   rw [List.take_succ_eq_append_getElem (by simpa using hoff), List.take_set_of_le (Nat.le_refl _), List.drop_set_of_lt (by omega)]
   simp [Nat.add_assoc, Nat.add_comm 1]
  rw [← e1]
  exact this
theorem opStoreC_sound {e : Env} {B : Nat} {w : World} {m m' : Mem} {t : TypeId} {x y : AV} {vx vy : Value} {ns : List Prop} (h : opStoreC P m t x y = some (ns, m')) (hn : ∀ p ∈ ns, p)
  (hE : EnvOk e B w) (hm : MemOk e m w) (rx : Rep e w x vx) (ry : Rep e w y vy) : ∃ w', (Instr.storeAt t vx vy).run P w = .ok () w' ∧ ∀ (id : Nat) (v : Value), Wrote e B w id .top m' v w' := by
 unfold opStoreC at h
 split at h
 ·rename_i cs hcs
  have hrep := cellsOf_rep hcs ry
  split at h
  ·rename_i i hi
   split at h
   ·rename_i hb
    simp only [Bool.and_eq_true] at hb
    have hsz : i.size = cs.length := Nat.eq_of_beq_eq_true hb.1
    have hone : ∀ u ∈ vy.cells.toList, u.oneCell' = true := by
     intro u hu
     obtain ⟨q, hq⟩ := List.mem_iff_getElem?.1 hu
     have hlt : q < cs.length := by rw [hrep.1]; exact (List.getElem?_eq_some_iff.1 hq).1
     exact one_rep (List.all_eq_true.1 hb.2 _ (List.getElem_mem hlt)) (hrep.2 q _ u (List.getElem?_eq_getElem hlt) hq)
    have hlen : vy.cells.size = i.size := by rw [hsz, hrep.1]; simp
    split at h
    ·rename_i k off
     split at h
     ·rename_i T l hg
      split at h
      ·rename_i hle
       have hle := Nat.le_of_ble_eq_true hle
       cases h
       obtain ⟨h1, h2, vs, h3, h4⟩ := hm _ (getM_mem hg)
       dsimp only at h1 h2 h3
       cases rx with
       | ptr _ _ hl =>
        have hfit : off + 0 + vy.cells.toList.length ≤ vs.toArray.size := by rw [← hrep.1]; simp [← h4.1]; omega
        have hst := run_storeCells_at P (e.blk k) off T vy.cells.toList 0 vs.toArray w h3 hfit hone
        simp only [Nat.add_zero] at hst
        have hrun : (Instr.storeAt t (.pointer (some ⟨e.blk k, off, none⟩)) vy).run P w = .ok () (w.setRow (e.blk k) (vs.take off ++ vy.cells.toList ++ vs.drop (off + vy.cells.toList.length)).toArray) := by
         simp only [Instr.storeAt, Instr.sureAddr, storeVar, sizeOf, typeInfo, Sem.run_bind, Sem.run_pure, Result.andThen_ok, run_program, hi, hlen, ne_eq, not_true_eq_false, if_false]
         exact hst
        refine ⟨_, hrun, fun id v => ?_⟩
        have hoth : ∀ b, b ≠ e.blk k → (w.setRow (e.blk k) (vs.take off ++ vy.cells.toList ++ vs.drop (off + vy.cells.toList.length)).toArray).heap[b]? = w.heap[b]? := fun b hb => setRow_other w _ b _ hb
        have st := step_write (w' := w.setRow (e.blk k) (vs.take off ++ vy.cells.toList ++ vs.drop (off + vy.cells.toList.length)).toArray) hE h2 (by simp) hoth
        refine ⟨e, below_setRow w _ (hE.owned _ _ h2).1, st, envOk_write hE (by simp), .top v, ?_, fun _ h => .inl h, fun _ h => h⟩
        intro p hp
        rcases setM_mem hp with rfl | ⟨hp, hne⟩
        ·refine ⟨h1, h2, _, setRow_heap w _ _ _ T _ h3, (splice_list off h4 hrep hle).step st⟩
        ·exact holds_write hE h2 (by simp) hoth hne (hm p hp)
      ·cases h
     ·cases h
    ·rename_i k sz p j
     split at h
     ·rename_i T sz' n f hg
      split at h
      ·rename_i hb2
       simp only [Bool.and_eq_true] at hb2
       obtain ⟨⟨hb3, hidf⟩, hb4⟩ := hb2
       have hs' : sz = sz' := Nat.eq_of_beq_eq_true hb3
       subst hs'
       have hle := Nat.le_of_ble_eq_true hb4
       cases h
       have hp : p < n := hn _ (by simp)
       obtain ⟨h1, h2, hf, xs, hx, hrep2⟩ := hm _ (getM_mem hg)
       dsimp only at h1 h2 hx
       cases rx with
       | elt _ _ _ _ b n' cap hl hv =>
        rcases hx.2 with ⟨hv0, hn0⟩ | ⟨g, cap', cur, hv0, _, hgg, hnc, hcm, hcs', htake⟩
        ·omega
        ·have hvv := hv0
         rw [hv] at hvv
         obtain ⟨rfl, rfl, rfl⟩ : b = g ∧ n' = n ∧ cap = cap' := by simpa using hvv
         have hown : e.own b = some k := h2 b (by rw [hv]; rfl)
         have hpl : p * sz + sz ≤ n' * sz := by
          have := Nat.mul_le_mul_right sz (Nat.succ_le_of_lt hp)
          rwa [Nat.succ_mul] at this
         have hnc' : n' * sz ≤ cap * sz := Nat.mul_le_mul_right sz hnc
         have hfit : p * sz + j + 0 + vy.cells.toList.length ≤ cur.size := by rw [← hrep.1, hcs']; omega
         have hst := run_storeCells_at P b (p * sz + j) T vy.cells.toList 0 cur w hgg hfit hone
         simp only [Nat.add_zero] at hst
         generalize hcur' : (cur.toList.take (p * sz + j) ++ vy.cells.toList ++ cur.toList.drop (p * sz + j + vy.cells.toList.length)) = cur' at hst
         have hrun : (Instr.storeAt t (.pointer (some ⟨b, p * sz + j, none⟩)) vy).run P w = .ok () (w.setRow b cur'.toArray) := by
          simp only [Instr.storeAt, Instr.sureAddr, storeVar, sizeOf, typeInfo, Sem.run_bind, Sem.run_pure, Result.andThen_ok, run_program, hi, hlen, ne_eq, not_true_eq_false, if_false]
          exact hst
         refine ⟨_, hrun, fun id v => ?_⟩
         have hoth : ∀ q, q ≠ b → (w.setRow b cur'.toArray).heap[q]? = w.heap[q]? := fun q hq => setRow_other w _ q _ hq
         have st := step_write (w' := w.setRow b cur'.toArray) hE hown (by simp) hoth
         have hidf' := idf_all hrep hidf
         have hclen : cur'.length = cur.size := by
          have hcl : cur.toList.length = cur.size := by simp
          rw [← hcur']
          simp only [List.length_append, List.length_take, List.length_drop, hcl]
          omega
         refine ⟨e, below_setRow w _ (hE.owned _ _ hown).1, st, envOk_write hE (by simp), .top v, ?_, fun _ h => .inl h, fun _ h => h⟩
         intro q hq
         rcases setM_mem hq with rfl | ⟨hq, hne⟩
         ·have hsp : ∀ l : List AV, (splice j cs l).length = l.length := fun l => splice_length cs j l
          have hspi : ∀ (cs : List AV) (j : Nat) (l : List AV), (∀ a ∈ cs, Idf a) → (∀ a ∈ l, Idf a) → ∀ a ∈ splice j cs l, Idf a := by
           intro cs
           induction cs with
           | nil => intro j l _ hl' a ha; exact hl' a ha
           | cons c cs ih =>
            intro j l hc hl' a ha
            refine ih (j + 1) (l.set j c) (fun a ha => hc a (List.mem_cons_of_mem _ ha)) (fun a ha => ?_) a ha
            rcases List.mem_or_eq_of_mem_set ha with h | h
            ·exact hl' a h
            ·subst h; exact hc _ List.mem_cons_self
          refine ⟨h1, h2, ?_, cur'.take (n' * sz), ⟨?_, .inr ⟨b, _, cur'.toArray, hv, Nat.zero_le _, setRow_heap w _ _ _ T _ hgg, hnc, hcm, by simp [hclen, hcs'], rfl⟩⟩, ?_⟩
          ·intro i' hi'
           refine ⟨by rw [mergeL_length _ _ (hsp _), hsp]; exact (hf i' hi').1, fun a ha => ?_⟩
           obtain ⟨q, hq⟩ := List.mem_iff_getElem?.1 ha
           obtain ⟨x, y, hx', hy', rfl⟩ := mergeL_get _ _ _ _ (hsp _) hq
           exact mergeAV_idf (hspi cs j (f i') hidf' (hf i' hi').2 x (List.mem_of_getElem? hx')) ((hf i' hi').2 y (List.mem_of_getElem? hy'))
          ·rw [List.length_take, hclen, hcs']; omega
          ·intro i' j' a u hi' ha hu
           obtain ⟨x, y, hx', hy', rfl⟩ := mergeL_get _ _ _ _ (hsp _) ha
           have hj' : j' < sz := by rw [← (hf i' hi').1]; exact (List.getElem?_eq_some_iff.1 hy').1
           have hil : i' * sz + sz ≤ n' * sz := by
            have := Nat.mul_le_mul_right sz (Nat.succ_le_of_lt hi')
            rwa [Nat.succ_mul] at this
           rw [List.getElem?_take] at hu
           split at hu
           ·apply mergeAV_rep
            by_cases hip : i' = p
            ·subst hip
             rw [if_pos (by simp)]
             -- the cells of the element, old and new
             have hR : RepL e w (f i') ((xs.drop (i' * sz)).take sz) := by
              refine ⟨by rw [(hf i' hi').1, List.length_take, List.length_drop, hx.1]; omega, fun q a v ha hv' => ?_⟩
              rw [List.getElem?_take] at hv'
              split at hv'
              ·rw [List.getElem?_drop] at hv'; exact hrep2 i' q a v hi' ha hv'
              ·cases hv'
             have hS := splice_list j hR hrep (by rw [(hf i' hi').1]; exact hle)
             obtain ⟨u', hu', hru⟩ := hS.get hx'
             have : u' = u := by
              have e2 : cur'[i' * sz + j']? = some u' := by
               rw [← hu', ← hcur']
               have hcl : cur.toList.length = cur.size := by simp
               have hus : vy.cells.toList.length = cs.length := hrep.1.symm
               have hxs : ∀ q, q < n' * sz → xs[q]? = cur.toList[q]? := by
                intro q hq; rw [← htake, List.getElem?_take, if_pos hq]
               simp only [List.getElem?_append, List.length_append, List.length_take, List.length_drop, List.getElem?_take, List.getElem?_drop, hcl, hx.1, hus, hcs']
               by_cases c1 : j' < j
               ·rw [if_pos (by omega), if_pos (by omega), if_pos (by omega), if_pos (by omega), if_pos (by omega), if_pos (by omega), if_pos (by omega), hxs _ (by omega)]
               ·by_cases c2 : j' < j + cs.length
                ·rw [if_pos (by omega), if_neg (by omega), if_pos (by omega), if_neg (by omega)]
                 congr 1
                 omega
                ·rw [if_neg (by omega), if_neg (by omega), if_pos (by omega), hxs _ (by omega)]
                 congr 1
                 omega
              rw [e2] at hu; exact Option.some.inj hu
             subst this
             exact hru.step st
            ·rw [if_neg (by simpa using hip)]
             have hxu : xs[i' * sz + j']? = some u := by
              rw [← hu, ← hcur', ← htake, List.getElem?_take, if_pos (by omega)]
              have hcl : cur.toList.length = cur.size := by simp
              have hus : vy.cells.toList.length = cs.length := hrep.1.symm
              simp only [List.getElem?_append, List.length_append, List.length_take, List.getElem?_take, List.getElem?_drop, hcl, hus, hcs']
              rcases Nat.lt_or_gt_of_ne hip with hlt | hgt
              ·have : i' * sz + sz ≤ p * sz := by
                have := Nat.mul_le_mul_right sz (Nat.succ_le_of_lt hlt)
                rwa [Nat.succ_mul] at this
               rw [if_pos (by omega), if_pos (by omega), if_pos (by omega)]
              ·have : p * sz + sz ≤ i' * sz := by
                have := Nat.mul_le_mul_right sz (Nat.succ_le_of_lt hgt)
                rwa [Nat.succ_mul] at this
               rw [if_neg (by omega)]
               congr 1
               omega
             exact (hrep2 i' j' y u hi' hy' hxu).step st
           ·cases hu
         ·exact holds_write hE hown (by simp) hoth hne (hm q hq)
      ·cases h
     ·cases h
    ·cases h
   ·cases h
  ·cases h
 ·cases h
theorem opStoreC_ptr {e : Env} {B : Nat} {w : World} {m m' : Mem} {t : TypeId} {k off : Nat} {y : AV} {vx vy : Value} {ns : List Prop} (h : opStoreC P m t (.ptr k off) y = some (ns, m'))
  (hE : EnvOk e B w) (hm : MemOk e m w) (rx : Rep e w (.ptr k off) vx) (ry : Rep e w y vy) :
  ∃ w', (Instr.storeAt t vx vy).run P w = .ok () w' ∧ e.own (e.blk k) = some k ∧ w'.heap.size = w.heap.size ∧ (∀ b, b ≠ e.blk k → w'.heap[b]? = w.heap[b]?) ∧ Below B w w' ∧ MemOk e m' w' := by
 unfold opStoreC at h
 split at h
 ·rename_i cs hcs
  have hrep := cellsOf_rep hcs ry
  split at h
  ·rename_i i hi
   split at h
   ·rename_i hb
    simp only [Bool.and_eq_true] at hb
    have hsz : i.size = cs.length := Nat.eq_of_beq_eq_true hb.1
    have hone : ∀ u ∈ vy.cells.toList, u.oneCell' = true := by
     intro u hu
     obtain ⟨q, hq⟩ := List.mem_iff_getElem?.1 hu
     have hlt : q < cs.length := by rw [hrep.1]; exact (List.getElem?_eq_some_iff.1 hq).1
     exact one_rep (List.all_eq_true.1 hb.2 _ (List.getElem_mem hlt)) (hrep.2 q _ u (List.getElem?_eq_getElem hlt) hq)
    have hlen : vy.cells.size = i.size := by rw [hsz, hrep.1]; simp
    simp only at h
    split at h
    ·rename_i T l hg
     split at h
     ·rename_i hle
      have hle := Nat.le_of_ble_eq_true hle
      cases h
      obtain ⟨h1, h2, vs, h3, h4⟩ := hm _ (getM_mem hg)
      dsimp only at h1 h2 h3
      cases rx with
      | ptr _ _ hl =>
       have hfit : off + 0 + vy.cells.toList.length ≤ vs.toArray.size := by rw [← hrep.1]; simp [← h4.1]; omega
       have hst := run_storeCells_at P (e.blk k) off T vy.cells.toList 0 vs.toArray w h3 hfit hone
       simp only [Nat.add_zero] at hst
       have hrun : (Instr.storeAt t (.pointer (some ⟨e.blk k, off, none⟩)) vy).run P w = .ok () (w.setRow (e.blk k) (vs.take off ++ vy.cells.toList ++ vs.drop (off + vy.cells.toList.length)).toArray) := by
        simp only [Instr.storeAt, Instr.sureAddr, storeVar, sizeOf, typeInfo, Sem.run_bind, Sem.run_pure, Result.andThen_ok, run_program, hi, hlen, ne_eq, not_true_eq_false, if_false]
        exact hst
       have hoth : ∀ b, b ≠ e.blk k → (w.setRow (e.blk k) (vs.take off ++ vy.cells.toList ++ vs.drop (off + vy.cells.toList.length)).toArray).heap[b]? = w.heap[b]? := fun b hb => setRow_other w _ b _ hb
       have st := step_write (w' := w.setRow (e.blk k) (vs.take off ++ vy.cells.toList ++ vs.drop (off + vy.cells.toList.length)).toArray) hE h2 (by simp) hoth
       refine ⟨_, hrun, h2, by simp, hoth, below_setRow w _ (hE.owned _ _ h2).1, ?_⟩
       intro p hp
       rcases setM_mem hp with rfl | ⟨hp, hne⟩
       ·refine ⟨h1, h2, _, setRow_heap w _ _ _ T _ h3, (splice_list off h4 hrep hle).step st⟩
       ·exact holds_write hE h2 (by simp) hoth hne (hm p hp)
     ·cases h
    ·cases h
   ·cases h
  ·cases h
 ·cases h
def updI (q : Nat) (v : Int) (f : Nat → Int) : Nat → Int := fun k => if k = q then v else f k
def updL : Nat → List Int → (Nat → Int) → Nat → Int
 | _, [], f => f
 | q, v :: vs, f => updL (q + 1) vs (updI q v f)
theorem intsL_set {n q : Nat} {v : Int} {f : Nat → Int} : (intsL n f).set q (.x (.int .i64 v)) = intsL n (updI q v f) := by
 apply List.ext_getElem?
 intro j
 rw [List.getElem?_set]
 by_cases hj : j < n
 ·rw [intsL_get (f := updI q v f) hj]
  by_cases hq : q = j
  ·subst hq
   rw [if_pos rfl, if_pos (by rw [intsL_length]; exact hj)]
   simp [updI]
  ·rw [if_neg hq, intsL_get hj]
   simp [updI, Ne.symm hq]
 ·have h1 : (intsL n (updI q v f))[j]? = none := List.getElem?_eq_none (by rw [intsL_length]; omega)
  rw [h1]
  split
  ·rw [if_neg (by rw [intsL_length]; omega)]
  ·exact List.getElem?_eq_none (by rw [intsL_length]; omega)
theorem splice_pre {pre L : List AV} : ∀ (cs : List AV) (off : Nat), off + cs.length ≤ pre.length → splice off cs (pre ++ L) = splice off cs pre ++ L
 | [], _, _ => rfl
 | c :: cs, off, h => by
  simp only [List.length_cons] at h
  simp only [splice]
  rw [List.set_append_left _ _ (by omega)]
  have hl : (pre.set off c).length = pre.length := by simp
  exact splice_go cs (off + 1) (pre.set off c) (by rw [hl]; omega)
where
 splice_go {L : List AV} : ∀ (cs : List AV) (off : Nat) (pre : List AV), off + cs.length ≤ pre.length → splice off cs (pre ++ L) = splice off cs pre ++ L
 | [], _, _, _ => rfl
 | c :: cs, off, pre, h => by
  simp only [List.length_cons] at h
  simp only [splice]
  rw [List.set_append_left _ _ (by omega)]
  exact splice_go cs (off + 1) (pre.set off c) (by simp; omega)
theorem splice_ints {pre : List AV} {n : Nat} : ∀ (vs : List Int) (off : Nat) (f : Nat → Int), pre.length ≤ off → splice off (vs.map fun v => .x (.int .i64 v)) (pre ++ intsL n f) = pre ++ intsL n (updL (off - pre.length) vs f)
 | [], _, _, _ => rfl
 | v :: vs, off, f, h => by
  simp only [List.map_cons, splice, updL]
  rw [List.set_append_right _ _ h, intsL_set, splice_ints vs (off + 1) _ (by omega), show off + 1 - pre.length = off - pre.length + 1 by omega]
theorem splice_app : ∀ (cs cs' : List AV) (off : Nat) (L : List AV), splice off (cs ++ cs') L = splice (off + cs.length) cs' (splice off cs L)
 | [], _, _, _ => rfl
 | c :: cs, cs', off, L => by
  simp only [List.cons_append, splice, splice_app cs cs' (off + 1), List.length_cons]
  rw [show off + 1 + cs.length = off + (cs.length + 1) by omega]
theorem splice_len : ∀ (cs : List AV) (off : Nat) (L : List AV), (splice off cs L).length = L.length
 | [], _, _ => rfl
 | c :: cs, off, L => by simp only [splice, splice_len cs (off + 1), List.length_set]
theorem intsOf_map : ∀ {l : List AV} {r : List Int}, intsOf l = some r → l = r.map fun v => .x (.int .i64 v)
 | [], r, h => by simp [intsOf] at h; subst h; rfl
 | a :: l, r, h => by
  unfold intsOf at h
  split at h
  ·rename_i n
   split at h
   ·rename_i r' hr
    cases h
    rw [List.map_cons, ← intsOf_map hr]
   ·cases h
  ·cases h
def stI (T : TypeId) (cs pre : List AV) (n : Nat) (f : Nat → Int) (off : Nat) : Option (List Prop × Res) :=
 match Nat.ble (off + 1) pre.length with
 | true => match Nat.ble (off + cs.length) pre.length with
  | true => some ([], .ints T (splice off cs pre) n f)
  | false => match intsOf (cs.drop (pre.length - off)) with
   | some vs => some ([vs.length ≤ n], .ints T (splice off (cs.take (pre.length - off)) pre) n (updL 0 vs f))
   | none => none
 | false => match intsOf cs with
  | some vs => some ([subN off pre + vs.length ≤ n], .ints T pre n (updL (subN off pre) vs f))
  | none => none
def opStore (P : Program) (m : Mem) (t : TypeId) (x v : AV) : Option (List Prop × Mem) :=
 match x with
 | .ptr id off => match getM m id with
  | some (.ints T pre n f) => match v.cellsOf with
   | some cs => match P.info? t with
    | some i => match Nat.beq i.size cs.length && cs.all AV.one with
     | true => match stI T cs pre n f off with
      | some (ns, r) => some (ns, setM m id r)
      | none => none
     | false => none
    | none => none
   | none => none
  | _ => opStoreC P m t (.ptr id off) v
 | x => opStoreC P m t x v
theorem stI_holds {T : TypeId} {cs pre : List AV} {n : Nat} {f : Nat → Int} {off : Nat} {ns : List Prop} {r : Res} (h : stI T cs pre n f off = some (ns, r)) (hn : ∀ p ∈ ns, p) :
  off + cs.length ≤ (pre ++ intsL n f).length ∧ ∀ e w id, Holds e w id (.cells T (splice off cs (pre ++ intsL n f))) → Holds e w id r := by
 unfold stI at h
 rw [List.length_append, intsL_length]
 split at h
 ·split at h
  ·rename_i hb
   have hle := Nat.le_of_ble_eq_true hb
   cases h
   refine ⟨by omega, fun e w id hh => ?_⟩
   rw [splice_pre cs off hle] at hh
   exact hh
  ·split at h
   ·rename_i _ hb _ hb2 _ vs hvs
    have hof := Nat.le_of_ble_eq_true hb
    cases h
    have hsz : vs.length ≤ n := hn _ (by simp)
    have hcs := intsOf_map hvs
    have hl : (cs.drop (pre.length - off)).length = vs.length := by rw [hcs]; simp
    rw [List.length_drop] at hl
    have hlt : pre.length - off ≤ cs.length := by
     rcases Nat.lt_or_ge pre.length (off + cs.length) with h' | h'
     ·omega
     ·rw [Nat.ble_eq_true_of_le h'] at hb2; cases hb2
    have htl : (cs.take (pre.length - off)).length = pre.length - off := by rw [List.length_take]; omega
    refine ⟨by omega, fun e w id hh => ?_⟩
    have e1 : splice off cs (pre ++ intsL n f) = splice off (cs.take (pre.length - off)) pre ++ intsL n (updL 0 vs f) := by
     conv => lhs; rw [← List.take_append_drop (pre.length - off) cs]
     rw [splice_app, htl, splice_pre _ _ (by omega), hcs]
     have hpl : (splice off (cs.take (pre.length - off)) pre).length = pre.length := splice_len _ _ _
     rw [splice_ints vs _ f (by omega), hpl, show off + (pre.length - off) - pre.length = 0 by omega]
    rw [e1] at hh
    exact hh
   ·cases h
 ·rename_i hb
  have hle : pre.length ≤ off := by
   rcases Nat.lt_or_ge off pre.length with h' | h'
   ·rw [Nat.ble_eq_true_of_le h'] at hb; cases hb
   ·exact h'
  split at h
  ·rename_i vs hvs
   cases h
   have hsz : subN off pre + vs.length ≤ n := hn _ (by simp)
   have hcs := intsOf_map hvs
   have hl : cs.length = vs.length := by rw [hcs]; simp
   rw [subN_eq] at hsz
   refine ⟨by omega, fun e w id hh => ?_⟩
   rw [hcs, splice_ints vs off f hle, ← subN_eq] at hh
   exact hh
  ·cases h
theorem setM_keep {m : Mem} {id : Nat} {r : Res} {p : Nat × Res} (h : p ∈ m) (hne : p.1 ≠ id ∧ akaOf id p.2 = false) : p ∈ setM m id r := by
 induction m with
 | nil => cases h
 | cons q t ih =>
  obtain ⟨k, q⟩ := q
  unfold setM
  rcases List.mem_cons.1 h with rfl | h
  ·split
   ·rename_i hk
    exact absurd (Nat.eq_of_beq_eq_true hk) hne.1
   ·split
    ·rename_i ha
     rw [hne.2] at ha
     cases ha
    ·exact List.mem_cons_self
  ·split
   ·exact List.mem_cons_of_mem _ (ih h)
   ·split
    ·exact ih h
    ·exact List.mem_cons_of_mem _ (ih h)
theorem opStore_ptr {e : Env} {B : Nat} {w : World} {m m' : Mem} {t : TypeId} {k off : Nat} {y : AV} {vx vy : Value} {ns : List Prop} (h : opStore P m t (.ptr k off) y = some (ns, m')) (hn : ∀ p ∈ ns, p)
  (hE : EnvOk e B w) (hm : MemOk e m w) (rx : Rep e w (.ptr k off) vx) (ry : Rep e w y vy) :
  ∃ w', (Instr.storeAt t vx vy).run P w = .ok () w' ∧ e.own (e.blk k) = some k ∧ w'.heap.size = w.heap.size ∧ (∀ b, b ≠ e.blk k → w'.heap[b]? = w.heap[b]?) ∧ Below B w w' ∧ MemOk e m' w' := by
 unfold opStore at h
 simp only at h
 split at h
 ·rename_i T pre n f hg
  split at h
  ·rename_i cs hcs
   split at h
   ·rename_i i hi
    split at h
    ·rename_i hb
     split at h
     ·rename_i ns' r hst
      cases h
      obtain ⟨hle, hr⟩ := stI_holds hst hn
      have hm2 : MemOk e ((k, .cells T (pre ++ intsL n f)) :: m) w := by
       intro p hp
       rcases List.mem_cons.1 hp with rfl | hp
       ·exact (show Holds e w k (.ints T pre n f) from hm _ (getM_mem hg))
       ·exact hm p hp
      have hc : opStoreC P ((k, .cells T (pre ++ intsL n f)) :: m) t (.ptr k off) y = some ([], (k, .cells T (splice off cs (pre ++ intsL n f))) :: setM m k (.cells T (splice off cs (pre ++ intsL n f)))) := by
       unfold opStoreC
       rw [hcs]
       simp only
       rw [hi]
       simp only
       rw [hb]
       simp only [getM, Nat.beq_refl, setM]
       rw [Nat.ble_eq_true_of_le hle]
      obtain ⟨w', q1, q2, q3, q4, q5, q6⟩ := opStoreC_ptr hc hE hm2 rx ry
      refine ⟨w', q1, q2, q3, q4, q5, fun p hp => ?_⟩
      rcases setM_mem hp with rfl | ⟨hp, hne⟩
      ·exact hr _ _ _ (q6 (k, _) List.mem_cons_self)
      ·exact q6 p (List.mem_cons_of_mem _ (setM_keep hp hne))
     ·cases h
    ·cases h
   ·cases h
  ·cases h
 ·exact opStoreC_ptr h hE hm rx ry
theorem opStore_sound {e : Env} {B : Nat} {w : World} {m m' : Mem} {t : TypeId} {x y : AV} {vx vy : Value} {ns : List Prop} (h : opStore P m t x y = some (ns, m')) (hn : ∀ p ∈ ns, p)
  (hE : EnvOk e B w) (hm : MemOk e m w) (rx : Rep e w x vx) (ry : Rep e w y vy) : ∃ w', (Instr.storeAt t vx vy).run P w = .ok () w' ∧ ∀ (id : Nat) (v : Value), Wrote e B w id .top m' v w' := by
 cases x with
 | ptr k off =>
  obtain ⟨w', q1, q2, q3, q4, q5, q6⟩ := opStore_ptr h hn hE hm rx ry
  exact ⟨w', q1, fun id v => ⟨e, q5, step_write hE q2 q3 q4, envOk_write hE q3, .top v, q6, fun _ h => .inl h, fun _ h => h⟩⟩
 | _ => exact opStoreC_sound (P := P) (by simpa only [opStore] using h) hn hE hm rx ry
def rowOf (m : Mem) (el sz : Nat) : AV → Option (Nat × (Nat → List AV))
 | .row id => match getM m id with
  | some (.row T sz' n f) => match Nat.beq T el && Nat.beq sz sz' with
   | true => some (n, f)
   | false => none
  | _ => none
 | .x (.slice none 0 0) => some (0, fun _ => [])
 | _ => none
def srcOf (m : Mem) (sz : Nat) : AV → Option (Nat × (Nat → List AV))
 | .row id => match getM m id with
  | some (.row _ sz' n f) => match Nat.beq sz sz' with
   | true => some (n, f)
   | false => none
  | _ => none
 | .lst sz' n f => match Nat.beq sz sz' with
  | true => some (n, f)
  | false => none
 | .x (.slice none 0 0) => some (0, fun _ => [])
 | _ => none
def catF (n : Nat) (f g : Nat → List AV) (i : Nat) : List AV := mergeL (decide (i < n)) (f i) (g (i - n))
def dropRow (m : Mem) : AV → Mem
 | .row id => delM m id
 | _ => m
def opAppend (P : Program) (id : Nat) (m : Mem) (t : TypeId) (s x : AV) : Option (List Prop × AV × Mem) :=
 match P.underlying t with
 | some (.slice el) => match P.info? el with
  | some ie => match ie.zero with
   | some z => match Nat.beq z.cells.size ie.size && Nat.ble 1 ie.size && Nat.ble 1 ie.bytes with
    | true => match rowOf m el ie.size s, srcOf m ie.size x with
     | some (n1, f1), some (n2, f2) => some ([(n1 + n2) * ie.bytes ≤ 140737488355328, ∀ i, i < n2 → ∀ a ∈ f2 i, AV.one a = true], .row id, (id, .row el ie.size (n1 + n2) (catF n1 f1 f2)) :: dropRow m s)
     | _, _ => none
    | false => none
   | none => none
  | none => none
 | _ => none
def opAppendA (P : Program) (id : Nat) (m : Mem) (t : TypeId) (q : Nat) (x : AV) : Option (List Prop × Res) :=
 match opAppend P id m t (.row q) x with
 | some (ns, _, (_, .row T sz n f) :: _) => match m.all (fun p => (!Nat.beq p.1 q || rowAt T sz p.2) && !akaOf q p.2) with
  | true => some (ns, .aka q T sz n f)
  | false => none
 | _ => none
theorem mergeL_pick {c : Bool} : ∀ (l l' : List AV), (mergeL c l l').length = (if c then l else l').length ∧
  ∀ (j : Nat) (a : AV), (mergeL c l l')[j]? = some a → ∃ y, (if c then l else l')[j]? = some y ∧ (∀ (e : Env) (w : World) (v : Value), Rep e w y v → Rep e w a v) ∧ (Idf y → Idf a)
 | [], l' => by
  cases c
  ·simp only [mergeL, Bool.false_eq_true, if_false, true_and]; exact fun j a h => ⟨a, h, fun _ _ _ h => h, fun h => h⟩
  ·simp [mergeL]
 | x :: l, [] => by
  cases c
  ·simp [mergeL]
  ·simp only [mergeL, if_true, true_and]; exact fun j a h => ⟨a, h, fun _ _ _ h => h, fun h => h⟩
 | x :: l, y :: l' => by
  have ih := mergeL_pick (c := c) l l'
  refine ⟨?_, fun j a h => ?_⟩
  ·cases c <;> simpa [mergeL] using ih.1
  ·cases j with
   | zero =>
    simp only [mergeL, List.getElem?_cons_zero, Option.some.injEq] at h
    subst h
    cases c
    ·refine ⟨y, by simp, fun e w v h => mergeAV_rep (by simpa using h), fun h => ?_⟩
     unfold mergeAV; split
     ·split
      ·exact .x _
      ·exact .top
     ·exact .x _
     ·exact h
    ·refine ⟨x, by simp, fun e w v h => mergeAV_rep (by simpa using h), fun h => ?_⟩
     unfold mergeAV; split
     ·split
      ·exact .x _
      ·exact .top
     ·exact .x _
     ·exact h
   | succ j =>
    simp only [mergeL, List.getElem?_cons_succ] at h
    obtain ⟨z, h1, h2, h3⟩ := ih.2 j a h
    exact ⟨z, by cases c <;> simpa using h1, h2, h3⟩
theorem rowOf_rep {e : Env} {w : World} {m : Mem} {el sz n : Nat} {f : Nat → List AV} {s : AV} {v : Value} (h : rowOf m el sz s = some (n, f)) (hm : MemOk e m w) (r : Rep e w s v) :
  (∀ i, i < n → (f i).length = sz ∧ ∀ a ∈ f i, Idf a) ∧ (∀ b, v.ownBlock = some b → ∃ id, s = .row id ∧ e.own b = some id) ∧
   ∃ xs : List Value, w.ownsRow 0 el sz v n xs ∧ ∀ (i j : Nat) (a : AV) (u : Value), i < n → (f i)[j]? = some a → xs[i * sz + j]? = some u → Rep e w a u := by
 unfold rowOf at h
 split at h
 ·rename_i id
  split at h
  ·rename_i T sz' n' f' hg
   split at h
   ·rename_i hb
    simp only [Bool.and_eq_true] at hb
    have h1 : T = el := Nat.eq_of_beq_eq_true hb.1
    have h2 : sz = sz' := Nat.eq_of_beq_eq_true hb.2
    subst h1; subst h2
    simp only [Option.some.injEq, Prod.mk.injEq] at h
    obtain ⟨rfl, rfl⟩ := h
    obtain ⟨_, hown, hf, xs, hx, hrep⟩ := hm _ (getM_mem hg)
    cases r with
    | row _ a n c hl hv =>
     dsimp only at hown hx
     rw [hv] at hown hx
     exact ⟨hf, fun b hb => ⟨id, rfl, hown b hb⟩, xs, hx, hrep⟩
   ·cases h
  ·cases h
 ·simp only [Option.some.injEq, Prod.mk.injEq] at h
  obtain ⟨rfl, rfl⟩ := h
  cases r.x_inv
  exact ⟨fun i hi => by omega, fun b hb => by simp [Value.ownBlock] at hb, [], World.ownsRow_nil w 0 el sz, fun i j a u hi => by omega⟩
 ·cases h
theorem srcOf_rep {e : Env} {w : World} {m : Mem} {sz n : Nat} {f : Nat → List AV} {x : AV} {v : Value} (h : srcOf m sz x = some (n, f)) (hm : MemOk e m w) (r : Rep e w x v) :
  (∀ i, i < n → (f i).length = sz ∧ ∀ a ∈ f i, Idf a) ∧ ((v = .slice none 0 0 ∧ n = 0) ∨ ∃ (ad : Addr) (c : Nat) (us : List Value), v = .slice (some ad) n c ∧ us.length = n * sz ∧ (∀ j u, us[j]? = some u → w.cell? (ad.add j) = some u) ∧
   ∀ (i j : Nat) (a : AV) (u : Value), i < n → (f i)[j]? = some a → us[i * sz + j]? = some u → Rep e w a u) := by
 unfold srcOf at h
 split at h
 ·rename_i id
  split at h
  ·rename_i T sz' n' f' hg
   split at h
   ·rename_i hb
    have h2 : sz = sz' := Nat.eq_of_beq_eq_true hb
    subst h2
    simp only [Option.some.injEq, Prod.mk.injEq] at h
    obtain ⟨rfl, rfl⟩ := h
    obtain ⟨_, hown, hf, xs, hx, hrep⟩ := hm _ (getM_mem hg)
    cases r with
    | row _ a n c hl hv =>
     dsimp only at hown hx
     rw [hv] at hx
     refine ⟨hf, ?_⟩
     rcases hx.2 with ⟨hv0, hn0⟩ | ⟨g, cap, cur, hv0, _⟩
     ·exact .inl ⟨hv0, hn0⟩
     ·refine .inr ⟨⟨g, 0, none⟩, cap, xs, hv0, hx.1, fun j u hu => hx.cells (by rw [hv0]; rfl) j u hu, hrep⟩
   ·cases h
  ·cases h
 ·rename_i sz' n' f'
  split at h
  ·rename_i hb
   have h2 : sz = sz' := Nat.eq_of_beq_eq_true hb
   subst h2
   simp only [Option.some.injEq, Prod.mk.injEq] at h
   obtain ⟨rfl, rfl⟩ := h
   cases r with
   | lstNil sz f => exact ⟨fun i hi => by omega, .inl ⟨rfl, rfl⟩⟩
   | lst sz n f b o cap g h1 h2 hid h3 h4 h5 h6 h7 ad had =>
    refine ⟨fun i hi => ⟨h6 i hi, hid i hi⟩, .inr ⟨ad, cap, (List.range (n' * sz)).map (fun q => g (q / sz) (q % sz)), rfl, by simp, ?_, ?_⟩⟩
    ·intro j u hu
     simp only [List.getElem?_map, Option.map_eq_some_iff] at hu
     obtain ⟨q, hq, rfl⟩ := hu
     obtain ⟨hq1, hq2⟩ := List.getElem?_eq_some_iff.1 hq
     simp at hq1 hq2
     subst hq2
     have hsz : 0 < sz := by
      rcases Nat.eq_zero_or_pos sz with h0 | h0
      ·subst h0; simp at hq1
      ·exact h0
     have hd : j / sz < n' := (Nat.div_lt_iff_lt_mul hsz).2 hq1
     have := h5 (j / sz) (j % sz) hd (Nat.mod_lt _ hsz)
     rw [had (Nat.lt_of_le_of_lt (Nat.zero_le _) hd), addrAdd, ← this]
     congr 2
     have := Nat.div_add_mod j sz
     rw [Nat.mul_comm] at this
     omega
    ·intro i j a u hi ha hu
     have hj : j < sz := by rw [← h6 i hi]; exact (List.getElem?_eq_some_iff.1 ha).1
     simp only [List.getElem?_map, Option.map_eq_some_iff] at hu
     obtain ⟨q, hq, rfl⟩ := hu
     obtain ⟨hq1, hq2⟩ := List.getElem?_eq_some_iff.1 hq
     simp at hq1 hq2
     subst hq2
     have e1 : (i * sz + j) / sz = i := by
      rw [Nat.mul_comm, Nat.mul_add_div (by omega), Nat.div_eq_of_lt hj, Nat.add_zero]
     have e2 : (i * sz + j) % sz = j := by
      rw [Nat.mul_comm, Nat.mul_add_mod, Nat.mod_eq_of_lt hj]
     rw [e1, e2]
     exact h7 i j a hi ha
  ·cases h
 ·simp only [Option.some.injEq, Prod.mk.injEq] at h
  obtain ⟨rfl, rfl⟩ := h
  cases r.x_inv
  exact ⟨fun i hi => by omega, .inl ⟨rfl, rfl⟩⟩
 ·cases h
end
end Go.Sx
namespace Go.Sx
open Go Go.RowKit
section
variable {P : Program}
theorem append_block {w w' : World} {t ty el : TypeId} {ie : TypeInfo} {z v v' : Value} {n m c : Nat} {xs news : List Value} {ad : Addr} (ht : P.underlying t = some (.slice el)) (hi : P.info? el = some ie) (hz : ie.zero = some z)
  (hown : w.ownsRow 0 el ie.size v n xs) (hl : news.length = m * ie.size) (hnews : ∀ j u, news[j]? = some u → w.cell? (ad.add j) = some u) (h1 : ∀ u ∈ news, u.oneCell' = true)
  (h63 : n + m ≤ maxLen) (hbytes : (n + m) * ie.bytes ≤ 140737488355328)
  (hr : (Builtin.append_ #[t, t] ty #[v, .slice (some ad) m c]).run P w = .ok v' w') (hnil : v' = .slice none 0 0 ↔ v = .slice none 0 0 ∧ m = 0) :
  v'.ownBlock = v.ownBlock ∨ v'.ownBlock = some w.heap.size := by
 have hsmall : n + m ≤ 9223372036854775807 := by simp only [maxLen] at h63; omega
 rcases hown.2 with ⟨rfl, rfl⟩ | ⟨g, cap, cur, rfl, hbg, hg, hnc, hcm, hcs, htake⟩
 ·by_cases hm : m = 0
  ·rw [hnil.2 ⟨rfl, hm⟩]; exact .inl rfl
  ·have h2 := run_append_nil (P := P) w t ty el ie z ht hi hz ad m c news hl hnews (by omega) (by omega) (by have hb := hbytes; simp only [Nat.zero_add] at hb; omega)
   rw [h2] at hr
   injection hr with hr _
   rw [← hr]; exact .inr rfl
 ·by_cases hroom : n + m ≤ cap
  ·have h2 := run_append_room (P := P) w t ty el ie ht hi g n cap cur hg ad m c news hl hnews h1 hroom (by rw [hl, hcs, ← Nat.add_mul]; exact Nat.mul_le_mul_right _ hroom)
   rw [h2] at hr
   injection hr with hr _
   rw [← hr]; exact .inl rfl
  ·have h2 := run_append_grow (P := P) w t ty el ie z ht hi hz ⟨g, 0, none⟩ n cap xs hown.1 (hown.cells (g := g) rfl) ad m c news hl hnews (by omega) (by omega) (growslice_fits (by omega) hbytes)
   rw [h2] at hr
   injection hr with hr _
   rw [← hr]; exact .inr rfl
def Env.app (e : Env) (id : Nat) (v : Value) : Env :=
 {ro := e.ro, own := fun b => if v.ownBlock = some b then some id else e.own b, live := fun k => k = id ∨ e.live k, blk := e.blk, val := fun k => if k = id then v else e.val k }
theorem opAppend_frame {e : Env} {B : Nat} {w : World} {m m' : Mem} {id : Nat} {t ty : TypeId} {s x val : AV} {vs vx : Value} {ns : List Prop} (h : opAppend P id m t s x = some (ns, val, m')) (hn : ∀ p ∈ ns, p)
  (hE : EnvOk e B w) (hB : B ≤ w.heap.size) (hm : MemOk e m w) (hid : ¬ e.live id) (rs : Rep e w s vs) (rx : Rep e w x vx) :
  ∃ u w', (Builtin.append_ #[t, t] ty #[vs, vx]).run P w = .ok u w' ∧ Wrote' e B w id val (fun k res => (∃ tl, m' = (id, res) :: tl) ∧ k = id ∨ Holds e w k res ∧ ∀ q, s = .row q → k ≠ q ∧ akaOf q res = false) u w' ∧ ∃ r, m' = (id, r) :: dropRow m s := by
 unfold opAppend at h
 split at h
 ·rename_i el ht
  split at h
  ·rename_i ie hi
   split at h
   ·rename_i z hz
    split at h
    ·rename_i hb
     simp only [Bool.and_eq_true] at hb
     obtain ⟨⟨hb1, hb2⟩, hb3⟩ := hb
     have hzs : z.cells.size = ie.size := Nat.eq_of_beq_eq_true hb1
     have hsz := Nat.le_of_ble_eq_true hb2
     have hby := Nat.le_of_ble_eq_true hb3
     split at h
     ·rename_i n1 f1 n2 f2 hro hso
      simp only [Option.some.injEq, Prod.mk.injEq] at h
      obtain ⟨rfl, rfl, rfl⟩ := h
      have hbytes : (n1 + n2) * ie.bytes ≤ 140737488355328 := hn _ (by simp)
      have hone : ∀ i, i < n2 → ∀ a ∈ f2 i, AV.one a = true := hn _ (by simp)
      obtain ⟨hf1, hob, xs, hx, hrep1⟩ := rowOf_rep hro hm rs
      obtain ⟨hf2, hsrc⟩ := srcOf_rep hso hm rx
      have h63 : n1 + n2 ≤ maxLen := by
       have : n1 + n2 ≤ (n1 + n2) * ie.bytes := Nat.le_mul_of_pos_right _ hby
       unfold maxLen; omega
      -- the run
      have key : ∃ (u : Value) (w' : World) (us : List Value), (Builtin.append_ #[t, t] ty #[vs, vx]).run P w = .ok u w' ∧ w'.ownsRow 0 el ie.size u (n1 + n2) (xs ++ us) ∧ w.grownBy w' vs.ownBlock ∧
        (u.ownBlock = vs.ownBlock ∨ u.ownBlock = some w.heap.size) ∧ us.length = n2 * ie.size ∧ (∀ (i j : Nat) (a : AV) (v : Value), i < n2 → (f2 i)[j]? = some a → us[i * ie.size + j]? = some v → Rep e w a v) := by
       rcases hsrc with ⟨rfl, rfl⟩ | ⟨ad, c, us, rfl, hul, hus, hrep2⟩
       ·refine ⟨vs, w, [], ?_, by simpa using hx, ⟨rfl, rfl, rfl, Nat.le_refl _, fun _ _ _ => rfl⟩, .inl rfl, by simp, fun i j a v hi => by omega⟩
        rcases hx.2 with ⟨rfl, rfl⟩ | ⟨g, cap, cur, rfl, _, _, hnc, _⟩
        ·simp [Builtin.append_, run_underlying ht, sizeOf, typeInfo, hi, Builtin.lenOf, Builtin.firstCells]
        ·simp [Builtin.append_, run_underlying ht, sizeOf, typeInfo, hi, Builtin.lenOf, Builtin.firstCells, hnc, storeCells]
       ·have h1 : ∀ u ∈ us, u.oneCell' = true := by
         intro u hu
         obtain ⟨q, hq⟩ := List.mem_iff_getElem?.1 hu
         have hq1 : q < n2 * ie.size := by rw [← hul]; exact (List.getElem?_eq_some_iff.1 hq).1
         have hd : q / ie.size < n2 := (Nat.div_lt_iff_lt_mul hsz).2 hq1
         have hmod := Nat.mod_lt q hsz
         have hlt : q % ie.size < (f2 (q / ie.size)).length := by rw [(hf2 _ hd).1]; exact hmod
         have he : q / ie.size * ie.size + q % ie.size = q := by rw [Nat.mul_comm]; exact Nat.div_add_mod q ie.size
         exact one_rep (hone _ hd _ (List.getElem_mem hlt)) (hrep2 (q / ie.size) (q % ie.size) _ u hd (List.getElem?_eq_getElem hlt) (by rw [he]; exact hq))
        obtain ⟨v', w', hr, ho, hg, hnil⟩ := run_append_own (P := P) w 0 t ty el ie z ie.size ie.bytes ht hi hz rfl rfl hzs (by omega) vs n1 xs hx ad n2 c us hul hus h1 h63 hbytes (Nat.zero_le _)
        exact ⟨v', w', us, hr, ho, hg, append_block ht hi hz hx hul hus h1 h63 hbytes hr hnil, hul, hrep2⟩
      obtain ⟨u, w', us, hr, ho, hg, hblk, hul, hrep2⟩ := key
      have hoB : ∀ b, vs.ownBlock = some b → B ≤ b ∧ e.ro b = False ∧ ∃ k, s = .row k ∧ e.own b = some k := by
       intro b hb
       obtain ⟨k, hk, hk'⟩ := hob b hb
       refine ⟨(hE.owned b k hk').1, ?_, k, hk, hk'⟩
       apply propext
       exact ⟨(fun hr => by rw [(hE.apart b hr).1] at hk'; cases hk'), False.elim⟩
      have hroNe : ∀ b, e.ro b → some b ≠ vs.ownBlock := by
       intro b hrb he
       have := (hoB b he.symm).2.1
       rw [this] at hrb
       exact hrb
      have hroU : ∀ b, e.ro b → u.ownBlock ≠ some b := by
       intro b hrb he
       rcases hblk with h | h
       ·exact hroNe b hrb (by rw [← he, h])
       ·rw [h] at he; have := (hE.apart b hrb).2; simp at he; omega
      have hulive : ∀ b, u.ownBlock = some b → b < w'.heap.size := fun b hb => (ho.lt b hb).2
      have st : Step e (e.app id u) w w' := by
       refine ⟨fun b hlt hrb => ⟨hrb, hg.block b hlt (hroNe b hrb)⟩, fun k hk => ?_, hg.size⟩
       have hne : k ≠ id := fun he => hid (he ▸ hk)
       exact ⟨.inr hk, rfl, by simp [Env.app, hne]⟩
      refine ⟨u, w', hr, ⟨e.app id u, ⟨hg.os, hg.tape, hg.output, hg.size, fun k hk => hg.block k (by omega) (fun he => by have := (hoB k he.symm).1; omega)⟩, st, ⟨?_, ?_⟩, ?_, ?_, ?_, fun _ h => h⟩, _, rfl⟩
      ·intro b hrb
       have h1 := hE.apart b hrb
       have h2 := hg.size
       refine ⟨?_, by omega⟩
       simp only [Env.app]
       rw [if_neg (hroU b hrb)]
       exact h1.1
      ·intro b k hk
       simp only [Env.app] at hk
       split at hk
       ·rename_i hub
        refine ⟨?_, hulive b hub⟩
        rcases hblk with h | h
        ·exact (hoB b (by rw [← h]; exact hub)).1
        ·rw [h] at hub; cases hub; exact hB
       ·have := hE.owned b k hk; have := hg.size; exact ⟨(hE.owned b k hk).1, by omega⟩
      ·rcases ho.2 with ⟨hv, _⟩ | ⟨g, cap, cur, hv, _⟩
       ·rw [hv]; exact .row id _ _ _ (.inl rfl) (by simp [Env.app])
       ·rw [hv]; exact .row id _ _ _ (.inl rfl) (by simp [Env.app])
      ·intro k0 res0 hp
       rcases hp with ⟨⟨tl, htl⟩, rfl⟩ | ⟨hH, hpm⟩
       ·have htl' := (List.cons.inj htl).1
        cases htl'
        refine ⟨.inl rfl, ?_, ?_, xs ++ us, ?_, ?_⟩
        ·intro b hb
         simp only [Env.app, if_true] at hb ⊢
         rw [if_pos hb]
        ·intro i hi'
         have hp := mergeL_pick (c := decide (i < n1)) (f1 i) (f2 (i - n1))
         by_cases hc : i < n1
         ·have e1 : decide (i < n1) = true := by simpa using hc
          rw [e1] at hp
          simp only [if_true] at hp
          simp only [catF]; rw [e1]
          refine ⟨by rw [hp.1]; exact (hf1 i hc).1, fun a ha => ?_⟩
          obtain ⟨q, hq⟩ := List.mem_iff_getElem?.1 ha
          obtain ⟨y, hy, _, hy2⟩ := hp.2 q a hq
          exact hy2 ((hf1 i hc).2 y (List.mem_of_getElem? hy))
         ·have e1 : decide (i < n1) = false := by simpa using hc
          rw [e1] at hp
          simp only [Bool.false_eq_true, if_false] at hp
          simp only [catF]; rw [e1]
          refine ⟨by rw [hp.1]; exact (hf2 _ (by omega)).1, fun a ha => ?_⟩
          obtain ⟨q, hq⟩ := List.mem_iff_getElem?.1 ha
          obtain ⟨y, hy, _, hy2⟩ := hp.2 q a hq
          exact hy2 ((hf2 _ (by omega)).2 y (List.mem_of_getElem? hy))
        ·simpa [Env.app] using ho
        ·intro i j a v hi' ha hv
         have hp := mergeL_pick (c := decide (i < n1)) (f1 i) (f2 (i - n1))
         have hxl : xs.length = n1 * ie.size := hx.1
         by_cases hc : i < n1
         ·have e1 : decide (i < n1) = true := by simpa using hc
          rw [e1] at hp
          simp only [if_true] at hp
          simp only [catF] at ha; rw [e1] at ha
          obtain ⟨y, hy, hy1, _⟩ := hp.2 j a ha
          have hj : j < ie.size := by rw [← (hf1 i hc).1]; exact (List.getElem?_eq_some_iff.1 hy).1
          have hle : i * ie.size + ie.size ≤ n1 * ie.size := by
           have := Nat.mul_le_mul_right ie.size (Nat.succ_le_of_lt hc)
           rwa [Nat.succ_mul] at this
          rw [List.getElem?_append, if_pos (by omega)] at hv
          exact (hy1 _ _ _ (hrep1 i j y v hc hy hv)).step st
         ·have e1 : decide (i < n1) = false := by simpa using hc
          rw [e1] at hp
          simp only [Bool.false_eq_true, if_false] at hp
          simp only [catF] at ha; rw [e1] at ha
          obtain ⟨y, hy, hy1, _⟩ := hp.2 j a ha
          have hge : n1 * ie.size ≤ i * ie.size := Nat.mul_le_mul_right _ (by omega)
          rw [List.getElem?_append, if_neg (by omega)] at hv
          have e2 : i * ie.size + j - xs.length = (i - n1) * ie.size + j := by rw [hxl, Nat.sub_mul]; omega
          rw [e2] at hv
          exact (hy1 _ _ _ (hrep2 (i - n1) j y v (by omega) hy hv)).step st
       ·-- the other rows
        have hne : k0 ≠ id := by
         intro he
         apply hid
         rw [← he]
         exact hH.live
        have hoth : ∀ b k, e.own b = some k → k0 = k → some b ≠ vs.ownBlock := by
         intro b k hk hpk he
         obtain ⟨_, _, k', hk', hk''⟩ := hoB b he.symm
         rw [hk] at hk''
         cases hk''
         exact (hpm _ hk').1 hpk
        have hown' : ∀ b, e.own b = some k0 → (e.app id u).own b = some k0 ∧ w'.heap[b]? = w.heap[b]? := by
         intro b hb
         have hblt := (hE.owned b _ hb).2
         have hne2 := hoth b _ hb rfl
         refine ⟨?_, hg.block b hblt hne2⟩
         simp only [Env.app]
         rw [if_neg ?_]
         ·exact hb
         ·intro he
          rcases hblk with h | h
          ·exact hne2 (by rw [← he, h])
          ·rw [h] at he; simp at he; omega
        cases res0 with
        | cells T l =>
         obtain ⟨q1, q2, vs', q3, q4⟩ := hH
         have hq := hown' _ q2
         exact ⟨.inr q1, hq.1, vs', hq.2.trans q3, q4.step st⟩
        | row T sz n f =>
         obtain ⟨q1, q2, q5, ys, q3, q4⟩ := hH
         have ev : (e.app id u).val k0 = e.val k0 := by simp only [Env.app]; rw [if_neg hne]
         refine ⟨.inr q1, ?_, q5, ys, ?_, fun i j a v hi ha hv => (q4 i j a v hi ha hv).step st⟩
         ·rw [ev]; exact fun b hb => (hown' b (q2 b hb)).1
         ·rw [ev]
          refine ⟨q3.1, q3.2.imp (fun h => h) ?_⟩
          rintro ⟨g', cap, cur, hv, hg', hh, rest⟩
          exact ⟨g', cap, cur, hv, hg', by rw [(hown' g' (q2 g' (by rw [hv]; rfl))).2]; exact hh, rest⟩
        | ints T pre n f =>
         obtain ⟨q1, q2, vs', q3, q4⟩ := hH
         have hq := hown' _ q2
         exact ⟨.inr q1, hq.1, vs', hq.2.trans q3, q4.step st⟩
        | memo h f =>
         obtain ⟨q1, q2, es, c, q3, q4⟩ := hH
         have hq := hown' _ q2
         exact ⟨.inr q1, hq.1, es, c, hq.2.trans q3, q4⟩
        | aka r T sz n f =>
         obtain ⟨q1, q0, o, hor, q2, q5, ys, q3, q4⟩ := hH
         have ev : (e.app id u).val k0 = e.val k0 := by simp only [Env.app]; rw [if_neg hne]
         have hoq : ∀ q, s = .row q → o ≠ q := by
          intro q hs
          rcases hor with rfl | rfl
          ·exact (hpm q hs).1
          ·have := (hpm q hs).2
           rintro rfl
           simp [akaOf] at this
         have hown2 : ∀ b, e.own b = some o → (e.app id u).own b = some o ∧ w'.heap[b]? = w.heap[b]? := by
          intro b hb
          have hblt := (hE.owned b _ hb).2
          have hne2 : some b ≠ vs.ownBlock := by
           intro he
           obtain ⟨_, _, k', hk', hk''⟩ := hoB b he.symm
           rw [hb] at hk''
           exact hoq _ hk' (Option.some.inj hk'')
          refine ⟨?_, hg.block b hblt hne2⟩
          simp only [Env.app]
          rw [if_neg ?_]
          ·exact hb
          ·intro he
           rcases hblk with h | h
           ·exact hne2 (by rw [← he, h])
           ·rw [h] at he; simp at he; omega
         refine ⟨.inr q1, .inr q0, o, hor, ?_, q5, ys, ?_, fun i j a v hi ha hv => (q4 i j a v hi ha hv).step st⟩
         ·rw [ev]; exact fun b hb => (hown2 b (q2 b hb)).1
         ·rw [ev]
          refine ⟨q3.1, q3.2.imp (fun h => h) ?_⟩
          rintro ⟨g', cap, cur, hv, hg', hh, rest⟩
          exact ⟨g', cap, cur, hv, hg', by rw [(hown2 g' (q2 g' (by rw [hv]; rfl))).2]; exact hh, rest⟩
      ·rintro k (rfl | hk)
       ·exact .inr rfl
       ·exact .inl hk
     ·cases h
    ·cases h
   ·cases h
  ·cases h
 ·cases h
theorem append_block2 {w w' : World} {t ty el : TypeId} {ie : TypeInfo} {z v v' : Value} {n m c : Nat} {xs news : List Value} {ad : Addr} (ht : P.underlying t = some (.slice el)) (hi : P.info? el = some ie) (hz : ie.zero = some z)
  (hown : w.ownsRow 0 el ie.size v n xs) (hl : news.length = m * ie.size) (hnews : ∀ j u, news[j]? = some u → w.cell? (ad.add j) = some u) (h1 : ∀ u ∈ news, u.oneCell' = true)
  (h63 : n + m ≤ maxLen) (hbytes : (n + m) * ie.bytes ≤ 140737488355328)
  (hr : (Builtin.append_ #[t, t] ty #[v, .slice (some ad) m c]).run P w = .ok v' w') (hnil : v' = .slice none 0 0 ↔ v = .slice none 0 0 ∧ m = 0) :
  (v'.ownBlock = none ∧ v.ownBlock = none) ∨ (∃ g cap, v = .slice (some ⟨g, 0, none⟩) n cap ∧ v' = .slice (some ⟨g, 0, none⟩) (n + m) cap) ∨ (v'.ownBlock = some w.heap.size ∧ ∀ b, b < w.heap.size → w'.heap[b]? = w.heap[b]?) := by
 have hsmall : n + m ≤ 9223372036854775807 := by simp only [maxLen] at h63; omega
 rcases hown.2 with ⟨rfl, rfl⟩ | ⟨g, cap, cur, rfl, hbg, hg, hnc, hcm, hcs, htake⟩
 ·by_cases hm : m = 0
  ·rw [hnil.2 ⟨rfl, hm⟩]; exact .inl ⟨rfl, rfl⟩
  ·have h2 := run_append_nil (P := P) w t ty el ie z ht hi hz ad m c news hl hnews (by omega) (by omega) (by have hb := hbytes; simp only [Nat.zero_add] at hb; omega)
   rw [h2] at hr
   injection hr with hr hw
   rw [← hr, ← hw]; exact .inr (.inr ⟨rfl, fun k hk => heap_alloc_old w.drew _ hk⟩)
 ·by_cases hroom : n + m ≤ cap
  ·have h2 := run_append_room (P := P) w t ty el ie ht hi g n cap cur hg ad m c news hl hnews h1 hroom (by rw [hl, hcs, ← Nat.add_mul]; exact Nat.mul_le_mul_right _ hroom)
   rw [h2] at hr
   injection hr with hr _
   exact .inr (.inl ⟨g, cap, rfl, hr.symm⟩)
  ·have h2 := run_append_grow (P := P) w t ty el ie z ht hi hz ⟨g, 0, none⟩ n cap xs hown.1 (hown.cells (g := g) rfl) ad m c news hl hnews (by omega) (by omega) (growslice_fits (by omega) hbytes)
   rw [h2] at hr
   injection hr with hr hw
   rw [← hr, ← hw]; exact .inr (.inr ⟨rfl, fun k hk => heap_alloc_old w.drew _ hk⟩)
def Env.aka (e : Env) (id : Nat) (v : Value) : Env :=
 {ro := e.ro, own := fun b => match e.own b with | some k => some k | none => if v.ownBlock = some b then some id else none, live := fun k => k = id ∨ e.live k, blk := e.blk, val := fun k => if k = id then v else e.val k }
theorem Env.aka_own {e : Env} {id b k : Nat} {v : Value} (h : e.own b = some k) : (e.aka id v).own b = some k := by simp [Env.aka, h]
theorem opAppendA_frame {e : Env} {B : Nat} {w : World} {m : Mem} {id : Nat} {t ty : TypeId} {q : Nat} {x : AV} {res : Res} {vs vx : Value} {ns : List Prop} (h : opAppendA P id m t q x = some (ns, res)) (hn : ∀ p ∈ ns, p)
  (hE : EnvOk e B w) (hB : B ≤ w.heap.size) (hm : MemOk e m w) (hid : ¬ e.live id) (rs : Rep e w (.row q) vs) (rx : Rep e w x vx) :
  ∃ (T : TypeId) (sz n : Nat) (f : Nat → List AV), res = .aka q T sz n f ∧ (∀ p ∈ m, (p.1 = q → rowAt T sz p.2 = true) ∧ akaOf q p.2 = false) ∧
  ∃ u w', (Builtin.append_ #[t, t] ty #[vs, vx]).run P w = .ok u w' ∧ Wrote' e B w id (.row id) (fun k r => (k = id ∧ r = .aka q T sz n f) ∨ Holds e w k r ∧ (k = q → rowAt T sz r = true) ∧ akaOf q r = false) u w' := by
 unfold opAppendA at h
 split at h
 ·rename_i ns' va id' T sz n f tl hap
  split at h
  ·rename_i hall
   simp only [Option.some.injEq, Prod.mk.injEq] at h
   obtain ⟨rfl, rfl⟩ := h
   refine ⟨T, sz, n, f, rfl, ?_, ?_⟩
   ·intro p hp
    have := List.all_eq_true.1 hall p hp
    simp only [Bool.and_eq_true, Bool.or_eq_true, Bool.not_eq_true'] at this
    refine ⟨fun hq => ?_, this.2⟩
    rcases this.1 with h1 | h1
    ·rw [hq, Nat.beq_refl] at h1; cases h1
    ·exact h1
   unfold opAppend at hap
   split at hap
   ·rename_i el ht
    split at hap
    ·rename_i ie hi
     split at hap
     ·rename_i z hz
      split at hap
      ·rename_i hb
       simp only [Bool.and_eq_true] at hb
       obtain ⟨⟨hb1, hb2⟩, hb3⟩ := hb
       have hzs : z.cells.size = ie.size := Nat.eq_of_beq_eq_true hb1
       have hsz := Nat.le_of_ble_eq_true hb2
       have hby := Nat.le_of_ble_eq_true hb3
       split at hap
       ·rename_i n1 f1 n2 f2 hro hso
        simp only [Option.some.injEq, Prod.mk.injEq, List.cons.injEq, Res.row.injEq] at hap
        obtain ⟨rfl, rfl, ⟨rfl, rfl, rfl, rfl, rfl⟩, rfl⟩ := hap
        have hbytes : (n1 + n2) * ie.bytes ≤ 140737488355328 := hn _ (by simp)
        have hone : ∀ i, i < n2 → ∀ a ∈ f2 i, AV.one a = true := hn _ (by simp)
        obtain ⟨hf1, hob, xs, hx, hrep1⟩ := rowOf_rep hro hm rs
        obtain ⟨hf2, hsrc⟩ := srcOf_rep hso hm rx
        have h63 : n1 + n2 ≤ maxLen := by
         have : n1 + n2 ≤ (n1 + n2) * ie.bytes := Nat.le_mul_of_pos_right _ hby
         unfold maxLen; omega
        have hvq : e.val q = vs := by
         cases rs with
         | row _ _ _ _ _ hv => exact hv
        have key : ∃ (u : Value) (w' : World) (us : List Value), (Builtin.append_ #[t, t] ty #[vs, vx]).run P w = .ok u w' ∧ w'.ownsRow 0 el ie.size u (n1 + n2) (xs ++ us) ∧ w.grownBy w' vs.ownBlock ∧
          ((u.ownBlock = none ∧ vs.ownBlock = none) ∨ (∃ g cap, vs = .slice (some ⟨g, 0, none⟩) n1 cap ∧ u = .slice (some ⟨g, 0, none⟩) (n1 + n2) cap) ∨ (u.ownBlock = some w.heap.size ∧ ∀ b, b < w.heap.size → w'.heap[b]? = w.heap[b]?)) ∧ us.length = n2 * ie.size ∧ (∀ (i j : Nat) (a : AV) (v : Value), i < n2 → (f2 i)[j]? = some a → us[i * ie.size + j]? = some v → Rep e w a v) := by
         rcases hsrc with ⟨rfl, rfl⟩ | ⟨ad, c, us, rfl, hul, hus, hrep2⟩
         ·refine ⟨vs, w, [], ?_, by simpa using hx, ⟨rfl, rfl, rfl, Nat.le_refl _, fun _ _ _ => rfl⟩, ?_, by simp, fun i j a v hi => by omega⟩
          ·rcases hx.2 with ⟨rfl, rfl⟩ | ⟨g, cap, cur, rfl, _, _, hnc, _⟩
           ·simp [Builtin.append_, run_underlying ht, sizeOf, typeInfo, hi, Builtin.lenOf, Builtin.firstCells]
           ·simp [Builtin.append_, run_underlying ht, sizeOf, typeInfo, hi, Builtin.lenOf, Builtin.firstCells, hnc, storeCells]
          ·rcases hx.2 with ⟨rfl, rfl⟩ | ⟨g, cap, cur, rfl, _⟩
           ·exact .inl ⟨rfl, rfl⟩
           ·exact .inr (.inl ⟨g, cap, rfl, rfl⟩)
         ·have h1 : ∀ u ∈ us, u.oneCell' = true := by
           intro u hu
           obtain ⟨q, hq⟩ := List.mem_iff_getElem?.1 hu
           have hq1 : q < n2 * ie.size := by rw [← hul]; exact (List.getElem?_eq_some_iff.1 hq).1
           have hd : q / ie.size < n2 := (Nat.div_lt_iff_lt_mul hsz).2 hq1
           have hmod := Nat.mod_lt q hsz
           have hlt : q % ie.size < (f2 (q / ie.size)).length := by rw [(hf2 _ hd).1]; exact hmod
           have he : q / ie.size * ie.size + q % ie.size = q := by rw [Nat.mul_comm]; exact Nat.div_add_mod q ie.size
           exact one_rep (hone _ hd _ (List.getElem_mem hlt)) (hrep2 (q / ie.size) (q % ie.size) _ u hd (List.getElem?_eq_getElem hlt) (by rw [he]; exact hq))
          obtain ⟨v', w', hr, ho, hg, hnil⟩ := run_append_own (P := P) w 0 t ty el ie z ie.size ie.bytes ht hi hz rfl rfl hzs (by omega) vs n1 xs hx ad n2 c us hul hus h1 h63 hbytes (Nat.zero_le _)
          exact ⟨v', w', us, hr, ho, hg, append_block2 ht hi hz hx hul hus h1 h63 hbytes hr hnil, hul, hrep2⟩
        obtain ⟨u, w', us, hr, ho, hg, hblk, hul, hrep2⟩ := key
        have hvown : ∀ b, vs.ownBlock = some b → e.own b = some q := by
         intro b hb
         obtain ⟨k, hk, hk'⟩ := hob b hb
         cases hk
         exact hk'
        have hroNe : ∀ b, e.ro b → some b ≠ vs.ownBlock := by
         intro b hrb he
         have h1 := hvown b he.symm
         rw [(hE.apart b hrb).1] at h1
         cases h1
        have hsafe : ∀ b k, e.own b = some k → k ≠ q → some b ≠ vs.ownBlock := by
         intro b k hk hne he
         have := hvown b he.symm
         rw [hk] at this
         exact hne (Option.some.inj this)
        have hunew : ∀ b, u.ownBlock = some b → e.own b = some q ∨ (e.own b = none ∧ b = w.heap.size) := by
         intro b hb
         rcases hblk with ⟨h, _⟩ | ⟨g, cap, hv, hu⟩ | h
         ·rw [h] at hb; cases hb
         ·rw [hu] at hb
          refine .inl (hvown b ?_)
          rw [hv]
          exact hb
         ·rw [h.1] at hb
          cases hb
          refine .inr ⟨?_, rfl⟩
          cases ho : e.own w.heap.size with
          | none => rfl
          | some k => have := (hE.owned _ _ ho).2; omega
        have hulive : ∀ b, u.ownBlock = some b → b < w'.heap.size := fun b hb => (ho.lt b hb).2
        have st : Step e (e.aka id u) w w' := by
         refine ⟨fun b hlt hrb => ⟨hrb, hg.block b hlt (hroNe b hrb)⟩, fun k hk => ?_, hg.size⟩
         have hne : k ≠ id := fun he => hid (he ▸ hk)
         exact ⟨.inr hk, rfl, by simp [Env.aka, hne]⟩
        refine ⟨u, w', hr, e.aka id u, ⟨hg.os, hg.tape, hg.output, hg.size, fun k hk => hg.block k (by omega) (fun he => by have := (hE.owned k _ (hvown k he.symm)).1; omega)⟩, st, ⟨?_, ?_⟩, ?_, ?_, ?_, fun _ h => h⟩
        ·intro b hrb
         have h1 := hE.apart b hrb
         have h2 := hg.size
         refine ⟨?_, by omega⟩
         simp only [Env.aka, h1.1]
         rw [if_neg]
         intro hb
         rcases hunew b hb with h | ⟨_, h⟩
         ·rw [h1.1] at h; cases h
         ·have := h1.2; omega
        ·intro b k hk
         simp only [Env.aka] at hk
         split at hk
         ·rename_i k' hk'
          have := hE.owned b k' hk'; have := hg.size; exact ⟨(hE.owned b k' hk').1, by omega⟩
         ·rename_i hno
          split at hk
          ·rename_i hub
           refine ⟨?_, hulive b hub⟩
           rcases hunew b hub with h | ⟨_, h⟩
           ·rw [hno] at h; cases h
           ·omega
          ·cases hk
        ·rcases ho.2 with ⟨hv, _⟩ | ⟨g, cap, cur, hv, _⟩
         ·rw [hv]; exact .row id _ _ _ (.inl rfl) (by simp [Env.aka])
         ·rw [hv]; exact .row id _ _ _ (.inl rfl) (by simp [Env.aka])
        ·rintro k0 res0 (⟨rfl, rfl⟩ | ⟨hH, hrq, hak⟩)
         ·-- the new list
          have hlq : e.live q := by cases rs with | row _ _ _ _ hl _ => exact hl
          refine ⟨.inl rfl, .inr hlq, ?_⟩
          have hcat : ∀ i, i < n1 + n2 → (catF n1 f1 f2 i).length = ie.size ∧ ∀ a ∈ catF n1 f1 f2 i, Idf a := by
           intro i hi'
           have hp := mergeL_pick (c := decide (i < n1)) (f1 i) (f2 (i - n1))
           by_cases hc : i < n1
           ·have e1 : decide (i < n1) = true := by simpa using hc
            rw [e1] at hp
            simp only [if_true] at hp
            simp only [catF]; rw [e1]
            refine ⟨by rw [hp.1]; exact (hf1 i hc).1, fun a ha => ?_⟩
            obtain ⟨q, hq⟩ := List.mem_iff_getElem?.1 ha
            obtain ⟨y, hy, _, hy2⟩ := hp.2 q a hq
            exact hy2 ((hf1 i hc).2 y (List.mem_of_getElem? hy))
           ·have e1 : decide (i < n1) = false := by simpa using hc
            rw [e1] at hp
            simp only [Bool.false_eq_true, if_false] at hp
            simp only [catF]; rw [e1]
            refine ⟨by rw [hp.1]; exact (hf2 _ (by omega)).1, fun a ha => ?_⟩
            obtain ⟨q, hq⟩ := List.mem_iff_getElem?.1 ha
            obtain ⟨y, hy, _, hy2⟩ := hp.2 q a hq
            exact hy2 ((hf2 _ (by omega)).2 y (List.mem_of_getElem? hy))
          have hreps : ∀ (i j : Nat) (a : AV) (v : Value), i < n1 + n2 → (catF n1 f1 f2 i)[j]? = some a → (xs ++ us)[i * ie.size + j]? = some v → Rep (e.aka k0 u) w' a v := by
           intro i j a v hi' ha hv
           have hp := mergeL_pick (c := decide (i < n1)) (f1 i) (f2 (i - n1))
           have hxl : xs.length = n1 * ie.size := hx.1
           by_cases hc : i < n1
           ·have e1 : decide (i < n1) = true := by simpa using hc
            rw [e1] at hp
            simp only [if_true] at hp
            simp only [catF] at ha; rw [e1] at ha
            obtain ⟨y, hy, hy1, _⟩ := hp.2 j a ha
            have hj : j < ie.size := by rw [← (hf1 i hc).1]; exact (List.getElem?_eq_some_iff.1 hy).1
            have hle : i * ie.size + ie.size ≤ n1 * ie.size := by
             have := Nat.mul_le_mul_right ie.size (Nat.succ_le_of_lt hc)
             rwa [Nat.succ_mul] at this
            rw [List.getElem?_append, if_pos (by omega)] at hv
            exact (hy1 _ _ _ (hrep1 i j y v hc hy hv)).step st
           ·have e1 : decide (i < n1) = false := by simpa using hc
            rw [e1] at hp
            simp only [Bool.false_eq_true, if_false] at hp
            simp only [catF] at ha; rw [e1] at ha
            obtain ⟨y, hy, hy1, _⟩ := hp.2 j a ha
            have hge : n1 * ie.size ≤ i * ie.size := Nat.mul_le_mul_right _ (by omega)
            rw [List.getElem?_append, if_neg (by omega)] at hv
            have e2 : i * ie.size + j - xs.length = (i - n1) * ie.size + j := by rw [hxl, Nat.sub_mul]; omega
            rw [e2] at hv
            exact (hy1 _ _ _ (hrep2 (i - n1) j y v (by omega) hy hv)).step st
          have hval : (e.aka k0 u).val k0 = u := by simp [Env.aka]
          rcases hblk with ⟨h1, h2⟩ | ⟨g, cap, hv, hu⟩ | hb
          ·refine ⟨k0, .inl rfl, fun b hb => ?_, hcat, xs ++ us, by rw [hval]; exact ho, hreps⟩
           rw [hval, h1] at hb; cases hb
          ·refine ⟨q, .inr rfl, fun b hb => ?_, hcat, xs ++ us, by rw [hval]; exact ho, hreps⟩
           rw [hval, hu] at hb
           exact Env.aka_own (hvown b (by rw [hv]; exact hb))
          ·refine ⟨k0, .inl rfl, fun b hb' => ?_, hcat, xs ++ us, by rw [hval]; exact ho, hreps⟩
           rw [hval] at hb'
           rcases hunew b hb' with h | ⟨h, h2⟩
           ·exfalso
            rw [hb.1] at hb'
            cases hb'
            have := (hE.owned _ _ h).2
            omega
           ·simp [Env.aka, h, hb']
         ·have hne : k0 ≠ id := fun he => hid (he ▸ hH.live)
          have ev : (e.aka id u).val k0 = e.val k0 := by simp only [Env.aka]; rw [if_neg hne]
          have hown' : ∀ b k, e.own b = some k → k ≠ q → (e.aka id u).own b = some k ∧ w'.heap[b]? = w.heap[b]? := fun b k hb hkq => ⟨Env.aka_own hb, hg.block b (hE.owned b _ hb).2 (hsafe b k hb hkq)⟩
          cases res0 with
          | cells T l =>
           have hkq : k0 ≠ q := fun h => by have := hrq h; simp [rowAt] at this
           obtain ⟨q1, q2, vs', q3, q4⟩ := hH
           have hq := hown' _ _ q2 hkq
           exact ⟨.inr q1, hq.1, vs', hq.2.trans q3, q4.step st⟩
          | ints T pre n f =>
           have hkq : k0 ≠ q := fun h => by have := hrq h; simp [rowAt] at this
           obtain ⟨q1, q2, vs', q3, q4⟩ := hH
           have hq := hown' _ _ q2 hkq
           exact ⟨.inr q1, hq.1, vs', hq.2.trans q3, q4.step st⟩
          | memo h f =>
           have hkq : k0 ≠ q := fun h => by have := hrq h; simp [rowAt] at this
           obtain ⟨q1, q2, es, c, q3, q4⟩ := hH
           have hq := hown' _ _ q2 hkq
           exact ⟨.inr q1, hq.1, es, c, hq.2.trans q3, q4⟩
          | aka r T sz n f =>
           have hkq : k0 ≠ q := fun h => by have := hrq h; simp [rowAt] at this
           obtain ⟨q1, q0, o, hor, q2, q5, ys, q3, q4⟩ := hH
           have hoq : o ≠ q := by
            rcases hor with rfl | rfl
            ·exact hkq
            ·rintro rfl
             simp [akaOf] at hak
           refine ⟨.inr q1, .inr q0, o, hor, ?_, q5, ys, ?_, fun i j a v hi ha hv => (q4 i j a v hi ha hv).step st⟩
           ·rw [ev]; exact fun b hb => (hown' b o (q2 b hb) hoq).1
           ·rw [ev]
            refine ⟨q3.1, q3.2.imp (fun h => h) ?_⟩
            rintro ⟨g', cap, cur, hv, hg', hh, rest⟩
            exact ⟨g', cap, cur, hv, hg', by rw [(hown' g' o (q2 g' (by rw [hv]; rfl)) hoq).2]; exact hh, rest⟩
          | row T' sz' n' f' =>
           obtain ⟨q1, q2, q5, ys, q3, q4⟩ := hH
           refine ⟨.inr q1, ?_, q5, ys, ?_, fun i j a v hi ha hv => (q4 i j a v hi ha hv).step st⟩
           ·rw [ev]; exact fun b hb => Env.aka_own (q2 b hb)
           ·rw [ev]
            by_cases hkq : k0 = q
            ·have hT := hrq hkq
             subst hkq
             simp only [rowAt, Bool.and_eq_true] at hT
             have hT1 : T' = el := Nat.eq_of_beq_eq_true hT.1
             have hT2 : sz' = ie.size := Nat.eq_of_beq_eq_true hT.2
             subst hT1; subst hT2
             refine ⟨q3.1, q3.2.imp (fun h => h) ?_⟩
             rintro ⟨g', cap', cur', hv', hg', hh', r1, r2, r3, r4⟩
             rw [hvq] at hv'
             rcases hblk with ⟨h1, h2⟩ | ⟨g, cap, hv, hu⟩ | hb
             ·rw [hv'] at h2; cases h2
             ·rw [hv] at hv'
              injection hv' with e1 e2 e3
              injection e1 with e1
              injection e1 with e1
              subst e1; subst e2; subst e3
              rcases ho.2 with ⟨hv2, _⟩ | ⟨g2, cap2, cur2, hv2, _, hh2, s1, s2, s3, s4⟩
              ·rw [hu] at hv2; cases hv2
              ·rw [hu] at hv2
               injection hv2 with e1 e2 e3
               injection e1 with e1
               injection e1 with e1
               subst e1; subst e3
               refine ⟨g, cap, cur2, by rw [hvq, hv], hg', hh2, r1, r2, s3, ?_⟩
               have hxs : xs = ys := by
                rcases hx.2 with ⟨hv3, _⟩ | ⟨g3, cap3, cur3, hv3, _, hh3, _, _, _, t4⟩
                ·rw [hv] at hv3; cases hv3
                ·rw [hv] at hv3
                 injection hv3 with e1 e2 e3
                 injection e1 with e1
                 injection e1 with e1
                 subst e1
                 rw [hh'] at hh3
                 injection hh3 with hh3
                 injection hh3 with hh3
                 rw [← t4, ← r4, hh3]
               rw [← hxs]
               have hxl : xs.length = n1 * ie.size := hx.1
               have h5 := congrArg (List.take (n1 * ie.size)) s4
               rw [List.take_take, Nat.min_eq_left (Nat.mul_le_mul_right _ (Nat.le_add_right _ _)), ← hxl, List.take_left] at h5
               rw [← hxl]
               exact h5
             ·exact ⟨g', cap', cur', by rw [hvq, hv'], hg', (hb.2 _ (Array.getElem?_eq_some_iff.1 hh').1).trans hh', r1, r2, r3, r4⟩
            ·refine ⟨q3.1, q3.2.imp (fun h => h) ?_⟩
             rintro ⟨g', cap, cur, hv, hg', hh, rest⟩
             exact ⟨g', cap, cur, hv, hg', by rw [(hown' g' k0 (q2 g' (by rw [hv]; rfl)) hkq).2]; exact hh, rest⟩
        ·rintro k (rfl | hk)
         ·exact .inr rfl
         ·exact .inl hk
       ·cases hap
      ·cases hap
     ·cases hap
    ·cases hap
   ·cases hap
  ·cases h
 ·cases h
theorem opAppend_sound {e : Env} {B : Nat} {w : World} {m m' : Mem} {id : Nat} {t ty : TypeId} {s x val : AV} {vs vx : Value} {ns : List Prop} (h : opAppend P id m t s x = some (ns, val, m')) (hn : ∀ p ∈ ns, p)
  (hE : EnvOk e B w) (hB : B ≤ w.heap.size) (hm : MemOk e m w) (hid : ¬ e.live id) (rs : Rep e w s vs) (rx : Rep e w x vx) :
  ∃ u w', (Builtin.append_ #[t, t] ty #[vs, vx]).run P w = .ok u w' ∧ Wrote e B w id val m' u w' := by
 obtain ⟨u, w', hr, ⟨e', h1, h2, h3, h4, h5, h6, h7⟩, r, hm'⟩ := opAppend_frame (ty := ty) h hn hE hB hm hid rs rx
 refine ⟨u, w', hr, e', h1, h2, h3, h4, ?_, h6, h7⟩
 intro p hp
 rw [hm'] at hp
 rcases List.mem_cons.1 hp with rfl | hp
 ·exact h5 _ _ (.inl ⟨⟨_, hm'⟩, rfl⟩)
 ·have hpm : p ∈ m ∧ ∀ k, s = .row k → p.1 ≠ k ∧ akaOf k p.2 = false := by
   cases s with
   | row k => exact ⟨(delM_mem hp).1, fun k' hk' => by cases hk'; exact (delM_mem hp).2⟩
   | _ => exact ⟨hp, fun k hk => by cases hk⟩
  exact h5 p.1 p.2 (.inr ⟨hm p hpm.1, hpm.2⟩)
end
end Go.Sx
