/- The operations one by one, fourth part: conversions, literals, slices, lengths. -/
import Derived.Test.YtchcegfhamngkaaSxE
import Derived.Laws.MakeOwn
namespace Go.Sx
open Go Go.RowKit

section
variable {P : Program}

def opUn (op : UnOp) : AV → Option Out
  | .x (.int .i64 n) => match op with
    | .neg => some ([inI64 (-n)], .x (.int .i64 (-n)), none)
    | _ => none
  | .lit b => match op with
    | .not => some ([], .lit (!b), none)
    | _ => none
  | .x (.bool b) => match op with
    | .not => some ([], .x (.bool (!b)), none)
    | _ => none
  | _ => none

theorem opUn_sound {e : Env} {B : Nat} {w : World} {m : Mem} {id : Nat} {op : UnOp} {x : AV} {v : Value} {ns : List Prop} {val : AV} {add : Option Res} (h : opUn op x = some (ns, val, add)) (hn : ∀ p ∈ ns, p)
    (hE : EnvOk e B w) (hm : MemOk e m w) (rx : Rep e w x v) : ∃ u w', (Op.unary op v).run P w = .ok u w' ∧ Came e B w m id val add u w' := by
  unfold opUn at h
  split at h
  · rename_i n
    cases rx.x_inv
    split at h
    · cases h
      have h1 : inI64 (-n) := hn _ (by simp)
      refine ⟨_, w, ?_, came_same hE hm (.x _)⟩
      have h2 : (0 : Int) - n = -n := by omega
      simp [Op.unary, Op.intArith, h2, wrap_i64 h1]
    · cases h
  · rename_i b
    cases rx.lit_inv
    split at h
    · cases h; exact ⟨_, w, by simp [Op.unary], came_same hE hm (.lit _)⟩
    · cases h
  · rename_i b
    cases rx.x_inv
    split at h
    · cases h; exact ⟨_, w, by simp [Op.unary], came_same hE hm (.x _)⟩
    · cases h
  · cases h

def opConv (P : Program) (src dst : TypeId) : AV → Option Out
  | .x (.int _ n) => match P.underlying src, P.underlying dst with
    | some _, some (.int k) => match decide (k = .i64) with
      | true => some ([inI64 n], .x (.int .i64 n), none)
      | false => some ([], .x (.int k (k.wrap n)), none)
    | _, _ => none
  | .x (.string s) => match P.underlying src, P.underlying dst with
    | some .string, some .string => some ([], .x (.string s), none)
    | _, _ => none
  | _ => none

theorem opConv_sound {e : Env} {B : Nat} {w : World} {m : Mem} {id : Nat} {src dst : TypeId} {x : AV} {v : Value} {ns : List Prop} {val : AV} {add : Option Res} (h : opConv P src dst x = some (ns, val, add)) (hn : ∀ p ∈ ns, p)
    (hE : EnvOk e B w) (hm : MemOk e m w) (rx : Rep e w x v) : ∃ u w', (convert src dst v).run P w = .ok u w' ∧ Came e B w m id val add u w' := by
  unfold opConv at h
  split at h
  · rename_i k0 n
    cases rx.x_inv
    split at h
    · rename_i d k hs hd
      split at h
      · rename_i hk
        have hk' : k = .i64 := of_decide_eq_true hk
        subst hk'
        cases h
        have h1 : inI64 n := hn _ (by simp)
        exact ⟨_, w, by simp [convert, run_underlying hs, run_underlying hd, Conv.intToInt, wrap_i64 h1], came_same hE hm (.x _)⟩
      · cases h
        exact ⟨_, w, by simp [convert, run_underlying hs, run_underlying hd, Conv.intToInt], came_same hE hm (.x _)⟩
    · cases h
  · rename_i s
    cases rx.x_inv
    split at h
    · rename_i hs hd
      cases h
      exact ⟨_, w, by simp [convert, run_underlying hs, run_underlying hd], came_same hE hm (.x _)⟩
    · cases h
  · cases h

/-- Cells laid over cells, from a place on. -/
def splice (off : Nat) : List AV → List AV → List AV
  | [], cells => cells
  | c :: cs, cells => splice (off + 1) cs (cells.set off c)

theorem splice_rep {e : Env} {w : World} : ∀ (cs : List AV) (vs : List Value) (off : Nat) (cells : List AV) (us : List Value), RepL e w cs vs → RepL e w cells us →
    RepL e w (splice off cs cells) ((vs.zipIdx).foldl (fun (acc : List Value) (p : Value × Nat) => acc.set (off + p.2) p.1) us)
  | [], vs, off, cells, us, h, k => by cases h.nil_inv; simpa [splice] using k
  | c :: cs, vs, off, cells, us, h, k => by
    obtain ⟨v, vs', rfl, hv, hvs⟩ := h.cons_inv
    have ih := splice_rep cs vs' (off + 1) (cells.set off c) (us.set off v) hvs (k.set hv off)
    simp only [splice, List.zipIdx_cons, List.foldl_cons, Nat.add_zero, Nat.zero_add]
    have e1 : ∀ (l : List Value) (n : Nat) (acc : List Value), (l.zipIdx (n + 1)).foldl (fun (acc : List Value) (p : Value × Nat) => acc.set (off + p.2) p.1) acc = (l.zipIdx n).foldl (fun (acc : List Value) (p : Value × Nat) => acc.set (off + 1 + p.2) p.1) acc := by
      intro l
      induction l with
      | nil => intro n acc; simp
      | cons a l ih => intro n acc; simp only [List.zipIdx_cons, List.foldl_cons]; rw [ih, show off + (n + 1) = off + 1 + n by omega]
    rw [e1 vs' 0]
    exact ih

def fillA (place : Nat → Option (Nat × Nat)) (cells : List AV) : List (Nat × AV) → Option (List AV)
  | [] => some cells
  | (i, a) :: rest => match place i, a.cellsOf with
    | some (off, size), some cs => match Nat.beq cs.length size && Nat.ble (off + cs.length) cells.length with
      | true => fillA place (splice off cs cells) rest
      | false => none
    | _, _ => none

theorem foldl_set_toArray (off : Nat) : ∀ (l : List (Value × Nat)) (us : List Value), l.foldl (fun (cs : Array Value) (x : Value × Nat) => cs.setIfInBounds (off + x.2) x.1) us.toArray = (l.foldl (fun (acc : List Value) (p : Value × Nat) => acc.set (off + p.2) p.1) us).toArray
  | [], us => rfl
  | (v, j) :: l, us => by simp only [List.foldl_cons, List.setIfInBounds_toArray]; exact foldl_set_toArray off l _

theorem fillA_sound {e : Env} {w : World} {place : Nat → Option (Nat × Nat)} : ∀ (parts : List (Nat × AV)) (vparts : List (Nat × Value)) (cells : List AV) (us : List Value) (r : List AV), fillA place cells parts = some r →
    RepL e w cells us → parts.map (·.1) = vparts.map (·.1) → RepL e w (parts.map (·.2)) (vparts.map (·.2)) → ∃ rs : List Value, Instr.fill place us.toArray vparts = some rs.toArray ∧ RepL e w r rs ∧ rs.length = us.length
  | [], vparts, cells, us, r, h, k, hi, hp => by
    simp [fillA] at h; subst h
    have : vparts = [] := by simpa using hi
    subst this
    exact ⟨us, rfl, k, rfl⟩
  | (i, a) :: rest, vparts, cells, us, r, h, k, hi, hp => by
    cases vparts with
    | nil => simp at hi
    | cons p vrest =>
      obtain ⟨i', v⟩ := p
      simp only [List.map_cons, List.cons.injEq] at hi
      obtain ⟨rfl, hi⟩ := hi
      obtain ⟨v', vs', hvv, hv, hvs⟩ := RepL.cons_inv (by simpa using hp)
      simp only [List.cons.injEq] at hvv
      obtain ⟨rfl, rfl⟩ := hvv
      unfold fillA at h
      split at h
      · rename_i off size cs hpl hcs
        split at h
        · rename_i hb
          simp only [Bool.and_eq_true] at hb
          have h1 : cs.length = size := Nat.eq_of_beq_eq_true hb.1
          have h2 : off + cs.length ≤ cells.length := Nat.le_of_ble_eq_true hb.2
          have hc := cellsOf_rep hcs hv
          have hs := splice_rep cs v.cells.toList off cells us hc k
          obtain ⟨rs, g1, g2, g3⟩ := fillA_sound rest vrest _ _ r h hs hi hvs
          refine ⟨rs, ?_, g2, ?_⟩
          · have hsz : v.cells.size = size := by rw [← h1, hc.1]; simp
            have hle : ¬ off + v.cells.size > us.toArray.size := by
              have : cs.length = v.cells.size := by rw [hc.1]; simp
              simp [← k.1]; omega
            unfold Instr.fill
            simp only [hpl]
            rw [if_neg (by simp [hsz] at hle ⊢; omega)]
            rw [← g1]
            congr 1
            rw [← Array.foldl_toList, Array.toList_zipIdx]
            exact foldl_set_toArray off _ us
          · rw [g3, ← hs.1]
            have hl : ∀ (cs : List AV) (off : Nat) (cells : List AV), (splice off cs cells).length = cells.length := by
              intro cs
              induction cs with
              | nil => intro off cells; rfl
              | cons c cs ih => intro off cells; simp [splice, ih]
            rw [hl, k.1]
        · cases h
      · cases h

def opBuild (P : Program) (t : TypeId) (parts : List (Nat × AV)) : Option Out :=
  match P.info? t, P.underlying t with
  | some it, some (.struct fields) => match it.zero, fields.toList.mapM (fun f => (P.info? f.type).map fun i => (f.offset, i.size)) with
    | some z, some places => match fillA (places[·]?) (z.cells.toList.map .x) parts with
      | some l => some ([], .agg l, none)
      | none => none
    | _, _ => none
  | some it, some (.array _ el) => match it.zero, P.info? el with
    | some z, some ie => match fillA (fun i => some (i * ie.size, ie.size)) (z.cells.toList.map .x) parts with
      | some l => some ([], .agg l, none)
      | none => none
    | _, _ => none
  | _, _ => none

theorem opBuild_sound {e : Env} {B : Nat} {w : World} {m : Mem} {id : Nat} {t : TypeId} {parts : List (Nat × AV)} {vparts : Array (Nat × Value)} {ns : List Prop} {val : AV} {add : Option Res} (h : opBuild P t parts = some (ns, val, add))
    (hE : EnvOk e B w) (hm : MemOk e m w) (hi : parts.map (·.1) = vparts.toList.map (·.1)) (hp : RepL e w (parts.map (·.2)) (vparts.toList.map (·.2))) :
    ∃ u w', (Instr.build t vparts).run P w = .ok u w' ∧ Came e B w m id val add u w' := by
  unfold opBuild at h
  split at h
  · rename_i it fields hit hu
    split at h
    · rename_i z places hz hpl
      split at h
      · rename_i l hl
        cases h
        obtain ⟨rs, g1, g2, _⟩ := fillA_sound parts vparts.toList _ _ l hl (RepL.xs e w z.cells.toList) hi hp
        refine ⟨.agg rs.toArray, w, run_build w t vparts rs.toArray ?_, came_same hE hm (Rep.aggL g2)⟩
        simp only [Program.built, hit, hu, hz, hpl]
        simpa using g1
      · cases h
    · cases h
  · rename_i it n el hit hu
    split at h
    · rename_i z ie hz hie
      split at h
      · rename_i l hl
        cases h
        obtain ⟨rs, g1, g2, _⟩ := fillA_sound parts vparts.toList _ _ l hl (RepL.xs e w z.cells.toList) hi hp
        refine ⟨.agg rs.toArray, w, run_build w t vparts rs.toArray ?_, came_same hE hm (Rep.aggL g2)⟩
        simp only [Program.built, hit, hu, hz, hie]
        simpa using g1
      · cases h
    · cases h
  · cases h

/-- Does a value surely name no own memory? -/
def AV.idf : AV → Bool
  | .top | .lit _ | .x _ | .ro _ | .lst .. => true
  | _ => false

theorem idf_of {e : Env} {w : World} {a : AV} {v : Value} (h : Rep e w a v) (k : a.idf = true) : Idf a := by
  cases h with
  | top v => exact .top
  | lit b => exact .lit b
  | x v => exact .x v
  | ro l vs b o h1 h2 h3 h4 h5 h6 => exact .ro l h3
  | lstNil sz f => exact .lst sz 0 f (fun i hi => by omega)
  | lst sz n f b o cap g h1 h2 h3 h4 h5 h6 h7 h8 => exact .lst sz n f h3
  | _ => simp [AV.idf] at k

theorem idf_all {e : Env} {w : World} {l : List AV} {vs : List Value} (h : RepL e w l vs) (k : l.all AV.idf = true) : ∀ a ∈ l, Idf a := by
  intro a ha
  obtain ⟨i, hi⟩ := List.mem_iff_getElem?.1 ha
  obtain ⟨v, hv, r⟩ := h.get hi
  exact idf_of r (List.all_eq_true.1 k a ha)

/-- Of a flat list of cells the element i, of sz cells. -/
def chunk (sz : Nat) (l : List AV) (i : Nat) : List AV := (l.drop (i * sz)).take sz

def opBuildSlice (P : Program) (id : Nat) (t : TypeId) (len : Nat) (parts : List (Nat × AV)) : Option Out :=
  match P.underlying t with
  | some (.slice el) => match P.info? el with
    | some ie => match ie.zero with
      | some z => match Nat.ble 1 (len * ie.size) && Nat.ble (len * ie.size) 16777216 && Nat.ble 1 len with
        | true => match fillA (fun i => some (i * ie.size, ie.size)) (((List.range (len * ie.size)).map (z.cells[· % z.cells.size]!)).map .x) parts with
          | some l => match l.all AV.idf with
            | true => some ([], .row id, some (.row el ie.size len (chunk ie.size l)))
            | false => none
          | none => none
        | false => match Nat.beq len 0 with
          | true => some ([], .row id, some (.row el ie.size 0 (fun _ => [])))
          | false => none
      | none => none
    | none => none
  | _ => none

theorem opBuildSlice_sound {e : Env} {B : Nat} {w : World} {m : Mem} {id : Nat} {t : TypeId} {len : Nat} {parts : List (Nat × AV)} {vparts : Array (Nat × Value)} {ns : List Prop} {val : AV} {add : Option Res} (h : opBuildSlice P id t len parts = some (ns, val, add))
    (hE : EnvOk e B w) (hB : B ≤ w.heap.size) (hm : MemOk e m w) (hid : ¬ e.live id) (hi : parts.map (·.1) = vparts.toList.map (·.1)) (hp : RepL e w (parts.map (·.2)) (vparts.toList.map (·.2))) (h0 : len = 0 → vparts = #[]) :
    ∃ u w', (Instr.buildSlice t len vparts).run P w = .ok u w' ∧ Came e B w m id val add u w' := by
  unfold opBuildSlice at h
  split at h
  · rename_i el hu
    split at h
    · rename_i ie hie
      split at h
      · rename_i z hz
        split at h
        · rename_i hb
          simp only [Bool.and_eq_true] at hb
          obtain ⟨⟨hb1, hb2⟩, hb3⟩ := hb
          have hb1 := Nat.le_of_ble_eq_true hb1
          have hb2 := Nat.le_of_ble_eq_true hb2
          have hb3 := Nat.le_of_ble_eq_true hb3
          split at h
          · rename_i l hl
            split at h
            rotate_left
            · cases h
            rename_i hidf
            cases h
            obtain ⟨rs, g1, g2, g3⟩ := fillA_sound parts vparts.toList _ _ l hl (RepL.xs e w _) hi hp
            have hlen : rs.length = len * ie.size := by rw [g3]; simp
            have hll : l.length = len * ie.size := by rw [g2.1, hlen]
            have hsz : 1 ≤ ie.size := by
              rcases Nat.eq_zero_or_pos ie.size with h0 | h0
              · rw [h0] at hb1; omega
              · exact h0
            have hle : len ≤ len * ie.size := Nat.le_mul_of_pos_right len hsz
            have hall := idf_all g2 hidf
            have hchunk : ∀ i, i < len → (chunk ie.size l i).length = ie.size ∧ ∀ a ∈ chunk ie.size l i, Idf a := by
              intro i hi'
              refine ⟨?_, fun a ha => hall a (List.mem_of_mem_drop (List.mem_of_mem_take ha))⟩
              have := Nat.mul_le_mul_right ie.size (Nat.succ_le_of_lt hi')
              rw [Nat.succ_mul] at this
              simp only [chunk, List.length_take, List.length_drop, hll]
              omega
            refine ⟨_, _, run_buildSlice w t el len vparts rs.toArray ie z hu hie hz (by omega) (by omega) ?_, ?_⟩
            · rw [← g1]
              have hr : (Array.range (len * ie.size)).map (z.cells[· % z.cells.size]!) = ((List.range (len * ie.size)).map (z.cells[· % z.cells.size]!)).toArray := Array.ext' (by simp)
              rw [hr]
            · refine came_row hE hB hm hid (Nat.le_refl _) (by unfold maxLen; omega) hlen hchunk ?_
              intro i j a v hi' ha hv
              simp only [chunk, List.getElem?_take, List.getElem?_drop] at ha
              split at ha
              · exact g2.2 _ _ _ ha hv
              · cases ha
          · cases h
        · split at h
          · rename_i hl
            have hl' : len = 0 := Nat.eq_of_beq_eq_true hl
            subst hl'
            cases h
            cases h0 rfl
            refine ⟨_, _, ?_, came_row (cs := []) (c := 0) hE hB hm hid (Nat.le_refl _) (by unfold maxLen; omega) (by simp) (fun i hi => by omega) (fun i j a v hi => by omega)⟩
            have hr : Array.range 0 = #[] := rfl
            simp [Instr.buildSlice, run_underlying hu, sizeOf, typeInfo, hie, Instr.fill, newRow, hr]
          · cases h
      · cases h
    · cases h
  · cases h

/-- make of a slice that is full. -/
def opMakeSlice (P : Program) (id : Nat) (t : TypeId) (l c : AV) : Option Out :=
  match l, c with
  | .x (.int _ n), .x (.int _ c) => match P.underlying t with
    | some (.slice el) => match P.info? el with
      | some ie => match ie.zero with
        | some z => match Nat.beq z.cells.size ie.size && Nat.ble 1 ie.size && Nat.ble ie.bytes 1000000 with
          | true => some ([0 ≤ n ∧ n ≤ 1000000, n = c], .row id, some (.row el ie.size n.toNat (fun _ => z.cells.toList.map .x)))
          | false => none
        | none => none
      | none => none
    | _ => none
  | _, _ => none

theorem opMakeSlice_sound {e : Env} {B : Nat} {w : World} {m : Mem} {id : Nat} {t : TypeId} {l c : AV} {vl vc : Value} {ns : List Prop} {val : AV} {add : Option Res} (h : opMakeSlice P id t l c = some (ns, val, add)) (hn : ∀ p ∈ ns, p)
    (hE : EnvOk e B w) (hB : B ≤ w.heap.size) (hm : MemOk e m w) (hid : ¬ e.live id) (rl : Rep e w l vl) (rc : Rep e w c vc) :
    ∃ u w', (Instr.makeSlice t vl vc).run P w = .ok u w' ∧ Came e B w m id val add u w' := by
  unfold opMakeSlice at h
  split at h
  · rename_i k n k' c'
    cases rl.x_inv
    cases rc.x_inv
    split at h
    · rename_i el hu
      split at h
      · rename_i ie hie
        split at h
        · rename_i z hz
          split at h
          · rename_i hb
            simp only [Bool.and_eq_true] at hb
            obtain ⟨⟨hb1, hb2⟩, hb3⟩ := hb
            have hb1 := Nat.eq_of_beq_eq_true hb1
            have hb2 := Nat.le_of_ble_eq_true hb2
            have hb3 := Nat.le_of_ble_eq_true hb3
            cases h
            obtain ⟨n0, n1⟩ : 0 ≤ n ∧ n ≤ 1000000 := hn _ (by simp)
            have hnc : n = c' := hn _ (by simp)
            subst hnc
            have hbytes : (ie.bytes : Int) * n ≤ 281474976710656 := by
              have h1 : (ie.bytes : Int) * n ≤ 1000000 * 1000000 := Int.mul_le_mul (by omega) n1 n0 (by omega)
              omega
            refine ⟨_, _, run_make (P := P) w t el ie z hu hie hz k k' n n n0 (Int.le_refl _) hbytes (by omega), ?_⟩
            have hcs : (madeCells z.cells (n.toNat * ie.size)) = ((madeCells z.cells (n.toNat * ie.size)).toList).toArray := by simp
            rw [hcs]
            refine came_row hE hB hm hid (Nat.le_refl _) (by unfold maxLen; omega) (by simp [size_madeCells]) (fun i hi => ⟨by simp [hb1], fun a ha => ?_⟩) ?_
            · obtain ⟨v, _, rfl⟩ := List.mem_map.1 ha
              exact .x v
            · intro i j a v hi ha hv
              rw [List.getElem?_map] at ha
              obtain ⟨v0, hv0, rfl⟩ := Option.map_eq_some_iff.1 ha
              have hj : j < ie.size := by
                have := (List.getElem?_eq_some_iff.1 hv0).1
                simp at this
                omega
              have hv1 : v = z.cells[(i * ie.size + j) % z.cells.size]! := by
                have hlt := (List.getElem?_eq_some_iff.1 hv).1
                have := (List.getElem?_eq_some_iff.1 hv).2
                rw [← this]
                simp [madeCells]
              have hm : (i * ie.size + j) % z.cells.size = j := by
                rw [hb1, Nat.mul_comm, Nat.mul_add_mod, Nat.mod_eq_of_lt hj]
              rw [hm] at hv1
              have : v = v0 := by
                rw [hv1]
                have h1 : z.cells[j]? = some v0 := by simpa using hv0
                rw [getElem!_def, h1]
              rw [this]
              exact .x _
          · cases h
        · cases h
      · cases h
    · cases h
  · cases h
end
end Go.Sx
