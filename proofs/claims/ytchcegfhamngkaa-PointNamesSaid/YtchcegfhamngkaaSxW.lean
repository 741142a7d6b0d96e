/- From a function's contract to the row: what is known of arguments of plain data. -/
import Derived.Test.YtchcegfhamngkaaSxV
import Derived.ProofKit
import Derived.Deep.Slices
namespace Go.Sx
open Go Go.RowKit Go.ChangeShapes Go.WideShapes

/-- The kinds of plain cells. -/
inductive SK where
  | int (k : IntKind)
  | bool
  | str

def isSc : SK → Value → Prop
  | .int k, v => ∃ n, v = .int k n ∧ (Lit.int k n).wf = true
  | .bool, v => ∃ b, v = .bool b
  | .str, v => ∃ s, v = .string s

def AllSc (ks : List SK) (vs : List Value) : Prop := ks.length = vs.length ∧ ∀ (j : Nat) (k : SK) (v : Value), ks[j]? = some k → vs[j]? = some v → isSc k v

def flatFs (P : Program) (g : TypeId → Option (List SK)) : List Field → Nat → Option (List SK)
  | [], _ => some []
  | f :: fs, off => match g f.type with
    | some ks => match Nat.beq f.offset off && Nat.beq ks.length (P.cellsOf f.type) with
      | true => match flatFs P g fs (off + ks.length) with
        | some r => some (ks ++ r)
        | none => none
      | false => none
    | none => none

/-- The cells of a type of plain data. -/
def flatK (P : Program) : Nat → TypeId → Option (List SK)
  | 0, _ => none
  | d + 1, t => match P.underlying t with
    | some (.int k) => some [.int k]
    | some .bool => some [.bool]
    | some .string => some [.str]
    | some (.struct fs) => match flatFs P (flatK P d) fs.toList 0 with
      | some ks => match Nat.beq ks.length (P.cellsOf t) with
        | true => some ks
        | false => none
      | none => none
    | _ => none

section
variable {H : Type} {enc : TypeId × Value → H} {P : Program} {w : World} {base : Nat} {spare : Nat → Bool} {held : Bool}

theorem AllSc.append {ks ks' : List SK} {vs vs' : List Value} (h : AllSc ks vs) (h' : AllSc ks' vs') : AllSc (ks ++ ks') (vs ++ vs') := by
  refine ⟨by simp [h.1, h'.1], fun j k v hk hv => ?_⟩
  rw [List.getElem?_append] at hk hv
  rw [← h.1] at hv
  split at hk
  · rename_i hi; rw [if_pos hi] at hv; exact h.2 _ _ _ hk hv
  · rename_i hi; rw [if_neg hi] at hv; exact h'.2 _ _ _ hk hv

theorem flatFs_sc {g : TypeId → Option (List SK)} {cs : List Value} (hg : ∀ t ks (off : Nat), g t = some ks → (∃ n x, DataW.trod enc P w base spare held n t ((cs.drop off).take (P.cellsOf t)) = some x) → AllSc ks ((cs.drop off).take (P.cellsOf t))) :
    ∀ (fs : List Field) (off : Nat) (ks : List SK), flatFs P g fs off = some ks → off ≤ cs.length → (∀ f ∈ fs, ∃ n x, DataW.trod enc P w base spare held n f.type ((cs.drop f.offset).take (P.cellsOf f.type)) = some x) → AllSc ks ((cs.drop off).take ks.length)
  | [], _, ks, h, _, _ => by
    simp only [flatFs, Option.some.injEq] at h
    subst h
    exact ⟨by simp, fun j k v h => by simp at h⟩
  | f :: fs, off, ks, h, ho, hf => by
    unfold flatFs at h
    split at h
    · rename_i ks1 h1
      split at h
      · rename_i hb
        simp only [Bool.and_eq_true] at hb
        have e1 : f.offset = off := Nat.eq_of_beq_eq_true hb.1
        have e2 : ks1.length = P.cellsOf f.type := Nat.eq_of_beq_eq_true hb.2
        split at h
        · rename_i r hr
          cases h
          have h2 := hf f List.mem_cons_self
          rw [e1] at h2
          have a1 := hg f.type ks1 off h1 h2
          have hl : off + ks1.length ≤ cs.length := by
            have := a1.1
            rw [List.length_take, List.length_drop, ← e2] at this
            omega
          have a2 := flatFs_sc hg fs (off + ks1.length) r hr hl (fun f' hf' => hf f' (List.mem_cons_of_mem _ hf'))
          have := a1.append a2
          rw [← e2] at this
          rw [List.length_append, List.take_add, List.drop_drop]
          exact this
        · cases h
      · cases h
    · cases h

theorem one_sc {k : SK} {v : Value} (h : isSc k v) : AllSc [k] [v] := by
  refine ⟨rfl, fun j k' v' hk hv => ?_⟩
  cases j with
  | zero => simp at hk hv; subst hk; subst hv; exact h
  | succ j => simp at hk

theorem trod_flat : ∀ (d : Nat) (t : TypeId) (ks : List SK) (fuel : Nat) (cs : List Value) (x : DataW H × List MemPlace), flatK P d t = some ks → DataW.trod enc P w base spare held fuel t cs = some x → AllSc ks cs
  | 0, _, _, _, _, _, h, _ => by simp [flatK] at h
  | d + 1, t, ks, fuel, cs, x, h, hx => by
    unfold flatK at h
    split at h
    · rename_i k hu
      cases h
      obtain ⟨n, rfl, _, hw⟩ := DataW.trod_int hu hx
      exact one_sc ⟨n, rfl, hw⟩
    · rename_i hu
      cases h
      obtain ⟨b, rfl, _⟩ := DataW.trod_bool hu hx
      exact one_sc ⟨b, rfl⟩
    · rename_i hu
      cases h
      obtain ⟨s, rfl, _⟩ := DataW.trod_string hu hx
      exact one_sc ⟨s, rfl⟩
    · rename_i fs hu
      split at h
      · rename_i ks' hks
        split at h
        · rename_i hb
          cases h
          have hl : ks.length = P.cellsOf t := Nat.eq_of_beq_eq_true hb
          obtain ⟨xs, n, _, _, hlen, hxl, hf⟩ := DataW.trod_struct hu hx
          have := flatFs_sc (enc := enc) (w := w) (base := base) (spare := spare) (held := held) (cs := cs) (g := flatK P d) (fun t' ks' off hk ⟨n', x', hx'⟩ => trod_flat d t' ks' n' _ x' hk hx') fs.toList 0 ks hks (Nat.zero_le _) (fun f hf' => by
            obtain ⟨i, hi⟩ := List.mem_iff_getElem?.1 hf'
            have hi' : fs[i]? = some f := by simpa using hi
            have hlt : i < xs.length := by rw [hxl]; exact (Array.getElem?_eq_some_iff.1 hi').1
            exact ⟨n, xs[i], (hf i f hi').trans (List.getElem?_eq_getElem hlt)⟩)
          rw [hl, ← hlen] at this
          simpa using this
        · cases h
      · cases h
    · cases h

/-- Arguments of plain data. -/
inductive ArgOk (P : Program) : TypeId → AV → Prop
  | sc (t : TypeId) (k : SK) (v : Value) : (∀ fs, P.underlying t ≠ some (.struct fs)) → flatK P 9 t = some [k] → isSc k v → ArgOk P t (.x v)
  | st (t : TypeId) (fs : Array Field) (ks : List SK) (vs : List Value) : P.underlying t = some (.struct fs) → flatK P 9 t = some ks → AllSc ks vs → ArgOk P t (.agg (vs.map .x))
  | sl (t e : TypeId) (ks : List SK) (n : Nat) (f : Nat → List Value) : P.underlying t = some (.slice e) → flatK P 9 e = some ks → n ≤ maxLen → (∀ i, i < n → AllSc ks (f i)) → ArgOk P t (.lst ks.length n (fun i => (f i).map .x))

/-- Which types these are. -/
def plainT (P : Program) (t : TypeId) : Bool := match P.underlying t with
  | some (.int _) | some .bool | some .string => (flatK P 9 t).isSome
  | some (.struct _) => (flatK P 9 t).isSome
  | some (.slice e) => match flatK P 9 e with
    | some ks => Nat.beq ks.length (P.cellsOf e)
    | none => false
  | _ => false

/-- All that lies in memory, as memory that nobody writes. -/
def allE (w : World) : Env := { ro := fun b => b < w.heap.size, own := fun _ => none, live := fun _ => False, blk := fun _ => 0, val := fun _ => .nilIface }

theorem arg_ok {r : Reach} {b0 : Nat} {t : TypeId} {v : Value} {d : DataW H} {p : List MemPlace} (hp : plainT P t = true) (hv : Value.okWide P w r b0 t v) (h : DataW.Trod enc P w 0 (fun _ => true) held t v d p) :
    ∃ av, ArgOk P t av ∧ Rep (allE w) w av v ∧ Idf av := by
  unfold plainT at hp
  obtain ⟨fuel, hf⟩ := h
  have scal : ∀ k, (∀ fs, P.underlying t ≠ some (.struct fs)) → flatK P 9 t = some [k] → (∀ cs, v ≠ .agg cs) → ∃ av, ArgOk P t av ∧ Rep (allE w) w av v ∧ Idf av := by
    intro k hns hk hna
    have h1 := trod_flat 9 t [k] fuel _ _ hk hf
    have hc : v.cells.toList = [v] := by cases v <;> first | rfl | exact absurd rfl (hna _)
    rw [hc] at h1
    exact ⟨.x v, .sc t k v hns hk (h1.2 0 k v rfl rfl), .x v, .x v⟩
  split at hp
  · rename_i k hu
    obtain ⟨n, rfl⟩ := okWide_int hu hv
    exact scal (.int k) (fun fs h => by rw [hu] at h; cases h) (by simp [flatK, hu]) (fun cs h => by cases h)
  · rename_i hu
    obtain ⟨b, rfl⟩ := okWide_bool hu hv
    exact scal .bool (fun fs h => by rw [hu] at h; cases h) (by simp [flatK, hu]) (fun cs h => by cases h)
  · rename_i hu
    obtain ⟨s, rfl⟩ := okWide_string hu hv
    exact scal .str (fun fs h => by rw [hu] at h; cases h) (by simp [flatK, hu]) (fun cs h => by cases h)
  · rename_i fs hu
    cases hk : flatK P 9 t with
    | none => rw [hk] at hp; cases hp
    | some ks =>
      obtain ⟨cs, rfl, _⟩ := okWide_struct hu hv
      have h1 := trod_flat 9 t ks fuel _ _ hk hf
      refine ⟨.agg (cs.toList.map .x), .st t fs ks cs.toList hu hk h1, ?_, .agg _ (fun a ha => ?_)⟩
      · have := Rep.aggL (RepL.xs (allE w) w cs.toList)
        simpa using this
      · obtain ⟨b, _, rfl⟩ := List.mem_map.1 ha
        exact .x b
  · rename_i e hu
    cases hk : flatK P 9 e with
    | none => rw [hk] at hp; cases hp
    | some ks =>
      rw [hk] at hp
      have hl : ks.length = P.cellsOf e := Nat.eq_of_beq_eq_true hp
      obtain ⟨a0, n0, c0, rfl⟩ := okWide_slice hu hv
      rcases Go.Deep.open_slice hu hf with ⟨h0, _⟩ | ⟨a, len, cap, m, n, D, Pl, h0, hb, hlc, hm, hmm, _, hi⟩
      · simp [Value.cells] at h0
        obtain ⟨rfl, rfl, rfl⟩ := h0
        exact ⟨_, .sl t e ks 0 (fun _ => []) hu hk (Nat.zero_le _) (fun i hi => by omega), .lstNil _ _, .lst _ _ _ (fun i hi => by omega)⟩
      · simp [Value.cells] at h0
        obtain ⟨rfl, rfl, rfl⟩ := h0
        simp only [if_true] at hmm
        subst hmm
        have hok : w.has P r b0 a e m := by
          simp only [Value.okWide, hu, Cell.okWide, Cell.ok] at hv
          exact hv.2.2
        obtain ⟨_, hsp, row, cells, hsh, _⟩ := hok
        obtain ⟨ab, ao, as⟩ := a
        simp only at hsp
        subst hsp
        have hblt : ab < w.heap.size := by
          unfold World.shape? at hsh
          cases hh : w.heap[ab]? with
          | none => simp only [hh] at hsh; cases hsh
          | some o => exact (Array.getElem?_eq_some_iff.1 hh).1
        let F : Nat → List Value := fun i => (w.cells? 0 ((⟨ab, ao, none⟩ : Addr).add (i * P.cellsOf e)) (P.cellsOf e)).getD []
        have hF : ∀ i, i < m → AllSc ks (F i) ∧ ∀ j, j < ks.length → w.cell? ⟨ab, ao + (i * ks.length + j), none⟩ = (F i)[j]? := by
          intro i hi'
          obtain ⟨cs', hcs, htr⟩ := hi i hi'
          have e1 : F i = cs' := by simp only [F, hcs, Option.getD_some]
          rw [e1]
          refine ⟨trod_flat 9 e ks n cs' _ hk htr, fun j hj => ?_⟩
          obtain ⟨_, _, h3⟩ := World.cells?_some hcs
          have := h3 j (by omega)
          rw [addrAdd, addrAdd] at this
          rw [hl, ← this, Nat.add_assoc]
        refine ⟨_, .sl t e ks n0 F hu hk (by omega) (fun i hi' => (hF i (by omega)).1), ?_, .lst _ _ _ (fun i hi' a ha => ?_)⟩
        · refine .lst _ _ _ ab ao m (fun i j => (F i).getD j .nilIface) hblt hblt (fun i hi' a ha => ?_) hlc hm (fun i j hi' hj => ?_) (fun i hi' => ?_) (fun i j a hi' ha => ?_)
          · obtain ⟨b, _, rfl⟩ := List.mem_map.1 ha
            exact .x b
          · rw [(hF i (by omega)).2 j hj]
            have hjl : j < (F i).length := by rw [← (hF i (by omega)).1.1]; exact hj
            simp [List.getD, List.getElem?_eq_getElem hjl]
          · simp [(hF i (by omega)).1.1]
          · rw [List.getElem?_map, Option.map_eq_some_iff] at ha
            obtain ⟨b, hb', rfl⟩ := ha
            simp only [List.getD, hb', Option.getD_some]
            exact .x b
        · obtain ⟨b, _, rfl⟩ := List.mem_map.1 ha
          exact .x b

  · cases hp

/-- All arguments. -/
inductive ArgsOk (P : Program) : List TypeId → List AV → Prop
  | nil : ArgsOk P [] []
  | cons {t : TypeId} {a : AV} {ts : List TypeId} {l : List AV} : ArgOk P t a → ArgsOk P ts l → ArgsOk P (t :: ts) (a :: l)

theorem args_ok {b0 : Nat} {r : Reach} : ∀ (ts : List TypeId) (vs : List Value) (ds : List (DataW H)) (p : List MemPlace), ts.all (plainT P) = true → (∀ (j : Nat) t v, ts[j]? = some t → vs[j]? = some v → Value.okWide P w r b0 t v) →
    DataW.TrodAll enc P w 0 (fun _ => true) held ts vs ds p → ∃ avs, ArgsOk P ts avs ∧ RepL (allE w) w avs vs ∧ ∀ a ∈ avs, Idf a
  | [], vs, ds, p, _, _, h => by
    cases vs with
    | nil => exact ⟨[], .nil, RepL.nil _ _, fun a ha => by cases ha⟩
    | cons v vs => cases ds <;> simp [DataW.TrodAll] at h
  | t :: ts, vs, ds, p, hp, hv, h => by
    obtain ⟨v, vs', d, ds', p1, q1, rfl, rfl, rfl, h1, h2⟩ := trodAll_cons h
    simp only [List.all_cons, Bool.and_eq_true] at hp
    obtain ⟨a, ha, hr, hi⟩ := arg_ok hp.1 (hv 0 t v rfl rfl) h1
    obtain ⟨l, hl, hrl, hil⟩ := args_ok ts vs' ds' q1 hp.2 (fun j t' v' ht hv' => hv (j + 1) t' v' (by simpa using ht) (by simpa using hv')) h2
    refine ⟨a :: l, .cons ha hl, RepL.cons hr hrl, fun x hx => ?_⟩
    rcases List.mem_cons.1 hx with rfl | hx
    · exact hi
    · exact hil x hx

/-- A law's call: it says yes, and leaves what there was. -/
theorem law_calls {f : FuncId} {b0 : Nat} {r : Reach} {ts : List TypeId} {vs : Array Value} {ds : List (DataW H)} {p : List MemPlace} (hp : ts.all (plainT P) = true) (hv : ∀ (j : Nat) t v, ts[j]? = some t → vs.toList[j]? = some v → Value.okWide P w r b0 t v)
    (h : DataW.TrodAll enc P w 0 (fun _ => true) held ts vs.toList ds p) (hs : ∀ avs, ArgsOk P ts avs → SoundAt P f avs (.x (.bool true))) : Calls P f vs w fun e w' => e = .returned (.bool true) ∧ Below w.heap.size w w' := by
  obtain ⟨avs, h1, h2, h3⟩ := args_ok ts vs.toList ds p hp hv h
  refine (hs avs h1 (allE w) w vs.toList (fun b hb => hb) h3 h2).mono fun e w' hq => ?_
  obtain ⟨v, rfl, hb, hr⟩ := hq
  rw [hr.x_inv]
  exact ⟨rfl, hb⟩

theorem args_stay {W W' : World} {sp : Nat → Bool} (hl : laidOutB P = true) (hb : Below W.heap.size W W') : ∀ (ts : List TypeId) (vs : List Value) (ds : List (DataW H)) (p : List MemPlace), ts.all (fun t => P.readableRec t && decide (t < P.types.size)) = true →
    DataW.TrodAll enc P W 0 (fun _ => true) true ts vs ds p → (∀ x ∈ p, x.block < W.heap.size) → (∀ x ∈ p, sp x.block = true) → DataW.TrodAll enc P W' 0 sp true ts vs ds p
  | [], vs, ds, p, _, h, _, _ => by
    cases vs <;> cases ds <;> simp [DataW.TrodAll] at h ⊢
    exact h
  | t :: ts, vs, ds, p, hr, h, hlt, hsp => by
    obtain ⟨v, vs', d, ds', p1, q1, rfl, rfl, rfl, h1, h2⟩ := trodAll_cons h
    simp only [List.all_cons, Bool.and_eq_true, decide_eq_true_eq] at hr
    refine ⟨p1, q1, WideElems.Trod_stays hl hr.1.1 hr.1.2 h1 (fun x hx => hb.same (hlt x (List.mem_append_left _ hx))) (fun x hx => hsp x (List.mem_append_left _ hx)), args_stay hl hb ts vs' ds' q1 ?_ h2 (fun x hx => hlt x (List.mem_append_right _ hx)) (fun x hx => hsp x (List.mem_append_right _ hx)), rfl⟩
    simpa using hr.2

/-- What the row says of a law, from what it leaves. -/
theorem law_post {f : Func} {s : ChangeSpec} {apart fresh handsOn again : Bool} {W W' : World} {args : Array Value} {ds : List (DataW H)} {before : List MemPlace} {tb : TypeId} (hl : laidOutB P = true) (hr : f.params.toList.all (fun t => P.readableRec t && decide (t < P.types.size)) = true) (hres : f.resultTypes = #[tb]) (hub : P.underlying tb = some .bool)
    (hvars : s.vars = []) (hfr : (s.fn H ds).results = [.lit (.bool true)]) (hfa : (s.fn H ds).args = ds) (hfv : (s.fn H ds).vars = [])
    (hW : DataW.Whole enc P f.params.toList s.vars apart W args.toList ds [] before) (hA : DataW.TrodAll enc P W 0 (fun _ => true) true f.params.toList args.toList ds before) (hb : Below W.heap.size W W') :
    s.post enc P f apart fresh handsOn again W args (.bool true) W' := by
  have hlt : ∀ p ∈ before, p.block < W.heap.size := fun p hp => hW.lt p hp
  have hold : ∀ p ∈ before, (fun b => decide (b < W.heap.size)) p.block = true := fun p hp => by simpa using hlt p hp
  have hres' : ∀ (b : Nat) (sp : Nat → Bool) (hd : Bool), DataW.TrodAll enc P W' b sp hd f.resultTypes.toList ((Value.bool true).resultList f.resultTypes.size) (s.fn H (ds ++ [])).results [] := by
    intro b sp hd
    rw [List.append_nil, hfr, hres]
    exact trodAll_mk1 (shut_bool hub true)
  have hargs : ∀ sp : Nat → Bool, (∀ p ∈ before, sp p.block = true) → DataW.TrodAll enc P W' 0 sp true f.params.toList args.toList (s.fn H (ds ++ [])).args before := by
    intro sp hsp
    rw [List.append_nil, hfa]
    exact args_stay hl hb _ _ _ _ hr hA hlt hsp
  have hvars' : ∀ sp : Nat → Bool, (∀ p ∈ before, sp p.block = true) → DataW.TrodVars enc P W' sp s.vars (s.fn H (ds ++ [])).vars [] := by
    intro sp _
    rw [List.append_nil, hfv, hvars]
    rfl
  refine ⟨ds, [], before, [], before, [], hW, hres' _ _ _, hargs _ hold, hvars' _ hold, World.keptBut_mono (fun p hp => ⟨hp, Or.inr (by simpa using hp)⟩) (hb.frame (· ∈ before)), fun _ => ?_⟩
  obtain ⟨_, _, _, _, _, hz, hn⟩ := hW
  refine ⟨ok_one hres rfl (okWide_bool_mk hub true), _, _, ([] ++ before) ++ [], ⟨[] ++ before, [], trodAll_append (hargs _ (fun _ _ => rfl)) (hres' _ _ _), hvars' _ (fun _ _ => rfl), rfl, ?_, ?_⟩, ?_⟩
  · intro b off hp
    have hin : MemPlace.cell b off ∈ before := by simpa using hp
    rw [hb.frozen (hlt _ hin)]
    exact hz b off hin
  · intro ha
    have := hn ha
    simpa using this
  · intro p hp _
    simpa using hp
end
end Go.Sx
