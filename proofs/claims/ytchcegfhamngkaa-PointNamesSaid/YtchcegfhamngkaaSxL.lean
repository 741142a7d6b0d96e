/- A region that draws its order: whatever order it is. -/
import Derived.Test.YtchcegfhamngkaaSxK
namespace Go.Sx
open Go Go.RowKit

def directP (o : Oper) : List Nat := (o.after.toList.filter (Region.binds .any)).map (·.on)

def maskOf (acc : List Nat) (o : Oper) : Nat := (directP o).foldl (fun s j => s ||| (1 <<< j) ||| acc.getD j 0) 0

def masks : List Oper → List Nat → List Nat
  | [], acc => acc
  | o :: os, acc => masks os (acc ++ [maskOf acc o])

theorem masks_pre : ∀ (os : List Oper) (acc : List Nat) (k : Nat), k < acc.length → (masks os acc).getD k 0 = acc.getD k 0
  | [], _, _, _ => rfl
  | o :: os, acc, k, h => by
    rw [masks, masks_pre os _ k (by simp; omega)]
    simp [List.getD, List.getElem?_append, h]

theorem masks_at : ∀ (os : List Oper) (acc : List Nat) (i : Nat) (o : Oper), os[i]? = some o → ∃ acc', (masks os acc).getD (acc.length + i) 0 = maskOf acc' o ∧ acc'.length = acc.length + i ∧ ∀ j, j < acc.length + i → acc'.getD j 0 = (masks os acc).getD j 0
  | [], _, _, _, h => by simp at h
  | o' :: os, acc, 0, o, h => by
    simp at h; subst h
    refine ⟨acc, ?_, by simp, fun j hj => ?_⟩
    · rw [masks, masks_pre os _ _ (by simp)]
      simp [List.getD]
    · rw [masks, masks_pre os _ j (by simp; omega)]
      simp only [Nat.add_zero] at hj
      simp [List.getD, List.getElem?_append, hj]
  | o' :: os, acc, i + 1, o, h => by
    simp at h
    obtain ⟨acc', h1, h2, h3⟩ := masks_at os (acc ++ [maskOf acc o']) i o h
    have e1 : (acc ++ [maskOf acc o']).length + i = acc.length + (i + 1) := by simp; omega
    rw [e1] at h1 h2 h3
    exact ⟨acc', h1, h2, h3⟩

theorem fold_bit {A : Nat → Nat} : ∀ (l : List Nat) (s i : Nat), (l.foldl (fun s j => s ||| (1 <<< j) ||| A j) s).testBit i = true → s.testBit i = true ∨ ∃ j ∈ l, i = j ∨ (A j).testBit i = true
  | [], s, i, h => .inl h
  | j :: l, s, i, h => by
    rcases fold_bit l _ i h with h | ⟨j', hj', h⟩
    · rw [Nat.testBit_or, Nat.testBit_or, Bool.or_eq_true, Bool.or_eq_true] at h
      rcases h with (h | h) | h
      · exact .inl h
      · refine .inr ⟨j, List.mem_cons_self, .inl ?_⟩
        rw [Nat.one_shiftLeft, Nat.testBit_two_pow] at h
        exact (of_decide_eq_true h).symm
      · exact .inr ⟨j, List.mem_cons_self, .inr h⟩
    · exact .inr ⟨j', List.mem_cons_of_mem _ hj', h⟩

/-- Which operations are listed. -/
def inS (L : Array Bool) (k : Nat) : Prop := L.getD k false = true

def DC (ops : List Oper) (L : Array Bool) : Prop := ∀ k o, ops[k]? = some o → inS L k → ∀ j ∈ directP o, inS L j

theorem mask_in {ops : List Oper} {L : Array Bool} (hd : DC ops L) : ∀ (k : Nat) (o : Oper), ops[k]? = some o → (∀ j ∈ directP o, inS L j) → ∀ i, ((masks ops []).getD k 0).testBit i = true → inS L i := by
  intro k
  induction k using Nat.strongRecOn with
  | _ k ih =>
    intro o ho hall i hi
    obtain ⟨acc', h1, h2, h3⟩ := masks_at ops [] k o ho
    simp only [List.length_nil, Nat.zero_add] at h1 h2 h3
    rw [h1] at hi
    rcases fold_bit _ _ _ hi with h | ⟨j, hj, h⟩
    · simp at h
    · rcases h with rfl | h
      · exact hall _ hj
      · have hjk : j < k := by
          rcases Nat.lt_or_ge j k with h' | h'
          · exact h'
          · rw [List.getD, List.getElem?_eq_none (by omega)] at h; simp at h
        rw [h3 j hjk] at h
        have hlt : j < ops.length := by have := (List.getElem?_eq_some_iff.1 ho).1; omega
        exact ih j hjk ops[j] (List.getElem?_eq_getElem hlt) (hd j _ (List.getElem?_eq_getElem hlt) (hall j hj)) i h

structure Outc where
  val : AV
  add : Option Res
  upd : Option (Nat × Res)
  eat : Option Nat

def noOut : Outc := ⟨.top, none, none, none⟩
/-- What is on record of an operation that is passed over. -/
def skipOut : Outc := ⟨.tup [], none, none, none⟩
def skipB (want : Bool) : AV → Bool
  | .lit b => b != want
  | .tup _ => true
  | _ => false

/-- The operation i alone comes to what the operation j has laid. -/
def loneB (M : List Nat) (mm i j : Nat) : Bool := Nat.testBit (M.getD i 0) j && Nat.blt j mm && (List.range mm).all fun k => Nat.beq k i || !Nat.testBit (M.getD k 0) j

theorem loneB_spec {M : List Nat} {mm i j : Nat} (h : loneB M mm i j = true) : (M.getD i 0).testBit j = true ∧ j < mm ∧ ∀ k, k < mm → k ≠ i → (M.getD k 0).testBit j = false := by
  simp only [loneB, Bool.and_eq_true] at h
  obtain ⟨⟨h1, h2⟩, h3⟩ := h
  refine ⟨h1, by rw [Nat.blt_eq] at h2; exact h2, fun k hk hne => ?_⟩
  have := List.all_eq_true.1 h3 k (List.mem_range.2 hk)
  simp only [Bool.or_eq_true, Bool.not_eq_true'] at this
  rcases this with h | h
  · exact absurd (Nat.eq_of_beq_eq_true h) hne
  · exact h

/-- The operation i comes to what the operation j has laid; each other one that does so waits for i. -/
def eatB (M : List Nat) (mm i j : Nat) : Bool := Nat.testBit (M.getD i 0) j && Nat.blt j mm && (List.range mm).all fun k => Nat.beq k i || !Nat.testBit (M.getD k 0) j || (Nat.testBit (M.getD k 0) i && Nat.blt i k)

theorem eatB_spec {M : List Nat} {mm i j : Nat} (h : eatB M mm i j = true) : (M.getD i 0).testBit j = true ∧ j < mm ∧ ∀ k, k < mm → k ≠ i → (M.getD k 0).testBit j = true → (M.getD k 0).testBit i = true ∧ i < k := by
  simp only [eatB, Bool.and_eq_true] at h
  obtain ⟨⟨h1, h2⟩, h3⟩ := h
  refine ⟨h1, by rw [Nat.blt_eq] at h2; exact h2, fun k hk hne hb => ?_⟩
  have := List.all_eq_true.1 h3 k (List.mem_range.2 hk)
  rw [hb] at this
  simp only [Bool.or_eq_true, Bool.not_true, Bool.and_eq_true, Bool.false_eq_true, or_false] at this
  rcases this with h | h
  · exact absurd (Nat.eq_of_beq_eq_true h) hne
  · exact ⟨h.1, by have := h.2; rwa [Nat.blt_eq] at this⟩

/-- Has one of the operations (of a mask) eaten what j has laid? -/
def eatenB (mask j : Nat) : List Outc → Nat → Bool
  | [], _ => false
  | c :: t, k => (match c.eat with
    | some q => Nat.beq q j && Nat.testBit mask k
    | none => false) || eatenB mask j t (k + 1)

theorem eatenB_true {mask j : Nat} : ∀ {l : List Outc} {k0 i : Nat} {c : Outc}, l[i]? = some c → c.eat = some j → mask.testBit (k0 + i) = true → eatenB mask j l k0 = true
  | [], _, _, _, h, _, _ => by simp at h
  | c0 :: t, k0, i, c, h, he, hb => by
    unfold eatenB
    cases i with
    | zero => simp at h; subst h; rw [he]; simp at hb; simp [hb]
    | succ i =>
      have := eatenB_true (mask := mask) (j := j) (l := t) (k0 := k0 + 1) (i := i) (by simpa using h) he (by rw [show k0 + 1 + i = k0 + (i + 1) by omega]; exact hb)
      rw [this]; simp

def lookD : List (Nat × Bool) → Nat → Option Bool
  | [], _ => none
  | (k, d) :: t, i => match Nat.beq k i with
    | true => some d
    | false => lookD t i

def decV (dec : List (Nat × Bool)) (k : Nat) (v : AV) : AV := match lookD dec k with
  | some d => .lit d
  | none => v

def writer (t : Nat) : List Oper → Nat → Option Nat
  | [], _ => none
  | o :: os, i => match o.dst with
    | some d => match Nat.beq d t with
      | true => some i
      | false => writer t os (i + 1)
    | none => writer t os (i + 1)

theorem writer_some {t : Nat} : ∀ {ops : List Oper} {i k : Nat}, writer t ops i = some k → i ≤ k ∧ ∃ o, ops[k - i]? = some o ∧ o.dst = some t
  | [], _, _, h => by simp [writer] at h
  | o :: os, i, k, h => by
    unfold writer at h
    split at h
    · rename_i d hd
      split at h
      · rename_i hb
        cases h
        have : d = t := Nat.eq_of_beq_eq_true hb
        exact ⟨Nat.le_refl _, o, by simp, by rw [hd, this]⟩
      · obtain ⟨h1, o', h2, h3⟩ := writer_some h
        refine ⟨by omega, o', ?_, h3⟩
        rw [show k - i = (k - (i + 1)) + 1 by omega]; simpa using h2
    · obtain ⟨h1, o', h2, h3⟩ := writer_some h
      refine ⟨by omega, o', ?_, h3⟩
      rw [show k - i = (k - (i + 1)) + 1 by omega]; simpa using h2

/-- No two operations write one slot; each waits for earlier ones alone. -/
def wellB (n : Nat) (ops : List Oper) : List Oper → Nat → Bool
  | [], _ => true
  | o :: os, i => (match o.dst with
    | some d => (match writer d ops 0 with | some k => Nat.beq k i && Nat.blt d n | none => false)
    | none => true) && (directP o).all (fun j => Nat.blt j i) && wellB n ops os (i + 1)

theorem wellB_at {n : Nat} {ops : List Oper} : ∀ {os : List Oper} {i : Nat}, wellB n ops os i = true → ∀ k o, os[k]? = some o → (∀ d, o.dst = some d → writer d ops 0 = some (i + k) ∧ d < n) ∧ ∀ j ∈ directP o, j < i + k
  | [], _, _, k, o, h => by simp at h
  | o' :: os, i, hw, 0, o, h => by
    simp at h; subst h
    simp only [wellB, Bool.and_eq_true] at hw
    obtain ⟨⟨h1, h2⟩, _⟩ := hw
    refine ⟨fun d hd => ?_, fun j hj => ?_⟩
    · rw [hd] at h1
      simp only at h1
      split at h1
      · rename_i k hk
        simp only [Bool.and_eq_true] at h1
        exact ⟨by rw [hk, Nat.eq_of_beq_eq_true h1.1]; rfl, by simpa [Nat.blt_eq] using h1.2⟩
      · cases h1
    · have := List.all_eq_true.1 h2 j hj
      simpa [Nat.blt_eq] using this
  | o' :: os, i, hw, k + 1, o, h => by
    simp at h
    simp only [wellB, Bool.and_eq_true] at hw
    have := wellB_at hw.2 k o h
    rw [show i + (k + 1) = i + 1 + k by omega]
    exact this

section
variable (P : Program) (G : List (Nat × Spec)) (ops : List Oper) (M : List Nat) (σ0 : List AV) (m0 : Mem) (nx0 mm : Nat)

def rhoD (outs : List Outc) (dec : List (Nat × Bool)) (i : Nat) : Operand → AV
  | .tmp t => match writer t ops 0 with
    | none => σ0.getD t .top
    | some k => match Nat.testBit (M.getD i 0) k with
      | true => decV dec k (outs.getD k noOut).val
      | false => match Nat.beq k i || Nat.testBit (M.getD k 0) i with
        | true => σ0.getD t .top
        | false => .top
  | x => rho [] x

def addsOf (mask : Nat) (all : List Outc) : List Outc → Nat → Mem
  | [], _ => []
  | o :: os, j => match Nat.testBit mask j with
    | true => match o.add with
      | some r => match eatenB mask j all 0 with
        | true => addsOf mask all os (j + 1)
        | false => (nx0 + j, r) :: addsOf mask all os (j + 1)
      | none => addsOf mask all os (j + 1)
    | false => addsOf mask all os (j + 1)

abbrev DT := List Outc × List (Nat × Bool)

/-- A settled Bool of an operation's slot. -/
def settleD (outs : List Outc) (dec : List (Nat × Bool)) (i : Nat) (t : Option Nat) (g : List (Nat × Bool) → Tree DT) : Tree DT :=
  match t with
  | none => g dec
  | some t => match writer t ops 0 with
    | some k => match lookD dec k with
      | some _ => g dec
      | none => match Nat.testBit (M.getD i 0) k with
        | true => match (outs.getD k noOut).val with
          | .x (.bool b) => .branch b (g ((k, true) :: dec)) (g ((k, false) :: dec))
          | _ => g dec
        | false => g dec
    | none => g dec

/-- A store into what an operation of the same region has laid, to which no other one comes. -/
def storeD (o : Oper) (i : Nat) (outs : List Outc) (dec : List (Nat × Bool)) : Option (List Prop × Nat × Res) :=
  match o.op with
  | .store t x y => match rhoD ops M σ0 outs dec i x with
    | .ptr id off => match Nat.ble nx0 id && loneB M mm i (id - nx0) with
      | true => match opStore P (addsOf nx0 (M.getD i 0) outs outs 0 ++ m0) t (.ptr id off) (rhoD ops M σ0 outs dec i y) with
        | some (ns, m') => match getM m' id with
          | some r => some (ns, id - nx0, r)
          | none => none
        | none => none
      | false => none
    | _ => none
  | _ => none

/-- An append onto nothing, or onto what an operation of the same region has laid, which nobody comes to behind it. -/
def appD (o : Oper) (i : Nat) (outs : List Outc) (dec : List (Nat × Bool)) : Option (List Prop × AV × Res × Option Nat) :=
  match o.op with
  | .call c => match c.callee, c.args.toList, c.argTypes.toList with
    | .builtin .append, [s, x], [t, t'] => match Nat.beq t t' with
      | true => match rhoD ops M σ0 outs dec i s with
        | .row id => match Nat.ble nx0 id && eatB M mm i (id - nx0) with
          | true => match opAppend P (nx0 + i) (addsOf nx0 (M.getD i 0) outs outs 0 ++ m0) t (.row id) (rhoD ops M σ0 outs dec i x) with
            | some (ns, val, (_, r) :: _) => some (ns, val, r, some (id - nx0))
            | _ => none
          | false => none
        | .x v => match opAppend P (nx0 + i) (addsOf nx0 (M.getD i 0) outs outs 0 ++ m0) t (.x v) (rhoD ops M σ0 outs dec i x) with
          | some (ns, val, (_, r) :: _) => some (ns, val, r, none)
          | _ => none
        | _ => none
      | false => none
    | _, _, _ => none
  | _ => none

def runD (o : Oper) (i : Nat) (outs : List Outc) (dec : List (Nat × Bool)) (next : List Outc → List (Nat × Bool) → Tree DT) : Tree DT :=
  match aop P G (nx0 + i) (addsOf nx0 (M.getD i 0) outs outs 0 ++ m0) (rhoD ops M σ0 outs dec i) o.op with
  | some (ns, val, add) => .needT ns (next (outs ++ [⟨val, add, none, none⟩]) dec)
  | none => match storeD P ops M σ0 m0 nx0 mm o i outs dec with
    | some (ns, j, r) => .needT ns (next (outs ++ [⟨.top, none, some (j, r), none⟩]) dec)
    | none => match appD P ops M σ0 m0 nx0 mm o i outs dec with
      | some (ns, val, r, eat) => .needT ns (next (outs ++ [⟨val, some r, none, eat⟩]) dec)
      | none => .fail

def drawT : List Oper → Nat → List Outc → List (Nat × Bool) → Tree DT
  | [], _, outs, dec => .leaf (outs, dec)
  | o :: rest, i, outs, dec => match o.guard with
    | none => settleD ops M outs dec i (pickOf o.op) fun dec => runD P G ops M σ0 m0 nx0 mm o i outs dec (drawT rest (i + 1))
    | some (_, want) => settleD ops M outs dec i (guardSlot ops o) fun dec => match (match guardSlot ops o with | some t => rhoD ops M σ0 outs dec i (.tmp t) | none => .top) with
      | .lit b => match b == want with
        | true => settleD ops M outs dec i (pickOf o.op) fun dec => runD P G ops M σ0 m0 nx0 mm o i outs dec (drawT rest (i + 1))
        | false => drawT rest (i + 1) (outs ++ [skipOut]) dec
      | .tup _ => drawT rest (i + 1) (outs ++ [skipOut]) dec
      | _ => .fail

/-- What is on record of an operation. -/
def RecOk (outs : List Outc) (dec : List (Nat × Bool)) (i : Nat) (o : Oper) : Prop :=
  ∃ dec', (∀ k d, lookD dec' k = some d → lookD dec k = some d) ∧
    ((((∃ ns, aop P G (nx0 + i) (addsOf nx0 (M.getD i 0) (outs.take i) (outs.take i) 0 ++ m0) (rhoD ops M σ0 (outs.take i) dec' i) o.op = some (ns, (outs.getD i noOut).val, (outs.getD i noOut).add) ∧ (outs.getD i noOut).upd = none ∧ (outs.getD i noOut).eat = none ∧ ∀ p ∈ ns, p) ∨
        (∃ ns j r, storeD P ops M σ0 m0 nx0 mm o i (outs.take i) dec' = some (ns, j, r) ∧ outs.getD i noOut = ⟨.top, none, some (j, r), none⟩ ∧ ∀ p ∈ ns, p) ∨
        (∃ ns val r eat, appD P ops M σ0 m0 nx0 mm o i (outs.take i) dec' = some (ns, val, r, eat) ∧ outs.getD i noOut = ⟨val, some r, none, eat⟩ ∧ ∀ p ∈ ns, p)) ∧
        (o.guard = none ∨ ∃ j want t, o.guard = some (j, want) ∧ guardSlot ops o = some t ∧ rhoD ops M σ0 (outs.take i) dec' i (.tmp t) = .lit want)) ∨
     (outs.getD i noOut = skipOut ∧ ∃ j want t, o.guard = some (j, want) ∧ guardSlot ops o = some t ∧ skipB want (rhoD ops M σ0 (outs.take i) dec' i (.tmp t)) = true))

def DecOk (outs : List Outc) (dec : List (Nat × Bool)) : Prop := ∀ k d, lookD dec k = some d → k < outs.length ∧ (outs.getD k noOut).val = .x (.bool d)

def AllOk (outs : List Outc) (dec : List (Nat × Bool)) : Prop := DecOk outs dec ∧ ∀ i o, i < outs.length → ops[i]? = some o → RecOk P G ops M σ0 m0 nx0 mm outs dec i o
end

section
variable {P : Program} {G : List (Nat × Spec)} {ops : List Oper} {M : List Nat} {σ0 : List AV} {m0 : Mem} {nx0 mm : Nat}

theorem lookD_cons {k : Nat} {d : Bool} {dec : List (Nat × Bool)} (hno : lookD dec k = none) : ∀ i b, lookD dec i = some b → lookD ((k, d) :: dec) i = some b := by
  intro i b h
  unfold lookD
  split
  · rename_i hb
    have : k = i := Nat.eq_of_beq_eq_true hb
    subst this
    rw [hno] at h; cases h
  · exact h

theorem AllOk.more {outs : List Outc} {dec dec2 : List (Nat × Bool)} (h : AllOk P G ops M σ0 m0 nx0 mm outs dec) (hd : DecOk outs dec2) (hs : ∀ i b, lookD dec i = some b → lookD dec2 i = some b) : AllOk P G ops M σ0 m0 nx0 mm outs dec2 :=
  ⟨hd, fun i o hi ho => let ⟨dec', h1, h2⟩ := h.2 i o hi ho; ⟨dec', fun k d hk => hs k d (h1 k d hk), h2⟩⟩

theorem settleD_sound {outs : List Outc} {dec : List (Nat × Bool)} {i : Nat} {t : Option Nat} {g : List (Nat × Bool) → Tree DT} {R : DT → Prop} (h : (settleD ops M outs dec i t g).sat R) (ha : AllOk P G ops M σ0 m0 nx0 mm outs dec) :
    ∃ dec2, AllOk P G ops M σ0 m0 nx0 mm outs dec2 ∧ (g dec2).sat R ∧ ∀ i b, lookD dec i = some b → lookD dec2 i = some b := by
  unfold settleD at h
  split at h
  · exact ⟨dec, ha, h, fun _ _ h => h⟩
  · split at h
    · rename_i k hk
      split at h
      · exact ⟨dec, ha, h, fun _ _ h => h⟩
      · rename_i hno
        split at h
        · split at h
          · rename_i b hb
            have hlt : k < outs.length := by
              rcases Nat.lt_or_ge k outs.length with h' | h'
              · exact h'
              · rw [List.getD, List.getElem?_eq_none h'] at hb; simp [noOut] at hb
            have key : ∀ d, b = d → AllOk P G ops M σ0 m0 nx0 mm outs ((k, d) :: dec) := by
              intro d hd
              refine ha.more ?_ (lookD_cons hno)
              intro i b' hl
              unfold lookD at hl
              split at hl
              · rename_i hki
                have : k = i := Nat.eq_of_beq_eq_true hki
                subst this
                cases hl
                exact ⟨hlt, by rw [hb, hd]⟩
              · exact ha.1 i b' hl
            cases b
            · exact ⟨_, key false rfl, h.2 rfl, lookD_cons hno⟩
            · exact ⟨_, key true rfl, h.1 rfl, lookD_cons hno⟩
          · exact ⟨dec, ha, h, fun _ _ h => h⟩
        · exact ⟨dec, ha, h, fun _ _ h => h⟩
    · exact ⟨dec, ha, h, fun _ _ h => h⟩

theorem rhoD_lit {outs : List Outc} {dec2 dec3 : List (Nat × Bool)} {i t : Nat} {b : Bool} (hext : ∀ i b, lookD dec2 i = some b → lookD dec3 i = some b) (hd : DecOk outs dec3) (h : rhoD ops M σ0 outs dec2 i (.tmp t) = .lit b) : rhoD ops M σ0 outs dec3 i (.tmp t) = .lit b := by
  simp only [rhoD] at h ⊢
  split
  · rename_i hw; rw [hw] at h; exact h
  · rename_i k hw
    rw [hw] at h
    simp only at h
    split
    · rename_i hb
      rw [hb] at h
      simp only [decV] at h ⊢
      cases h2 : lookD dec2 k with
      | some d => rw [h2] at h; rw [hext _ _ h2]; exact h
      | none =>
        rw [h2] at h
        simp only at h
        cases h3 : lookD dec3 k with
        | none => exact h
        | some d => have := (hd k d h3).2; rw [this] at h; cases h
    · rename_i hb
      rw [hb] at h
      exact h

theorem AllOk.push {outs : List Outc} {dec : List (Nat × Bool)} {o : Oper} {c : Outc} (h : AllOk P G ops M σ0 m0 nx0 mm outs dec) (ho : ops[outs.length]? = some o) (hr : RecOk P G ops M σ0 m0 nx0 mm (outs ++ [c]) dec outs.length o) :
    AllOk P G ops M σ0 m0 nx0 mm (outs ++ [c]) dec := by
  have hget : ∀ i, i < outs.length → (outs ++ [c]).getD i noOut = outs.getD i noOut := fun i hi => by simp [List.getD, List.getElem?_append, hi]
  refine ⟨fun k d hk => ?_, fun i o' hi ho' => ?_⟩
  · obtain ⟨h1, h2⟩ := h.1 k d hk
    exact ⟨by simp; omega, by rw [hget k h1]; exact h2⟩
  · by_cases hlt : i < outs.length
    · obtain ⟨dec', h1, h2⟩ := h.2 i o' hlt ho'
      refine ⟨dec', h1, ?_⟩
      have ht : (outs ++ [c]).take i = outs.take i := by rw [List.take_append_of_le_length (by omega)]
      rw [ht, hget i hlt]
      exact h2
    · have : i = outs.length := by simp at hi; omega
      subst this
      rw [ho] at ho'; cases ho'
      exact hr

theorem drawT_sound {R : DT → Prop} : ∀ (rest : List Oper) (outs : List Outc) (dec : List (Nat × Bool)) (hh : List Oper), ops = hh ++ rest ++ (ops.drop (hh.length + rest.length)) → hh.length = outs.length → (drawT P G ops M σ0 m0 nx0 mm rest outs.length outs dec).sat R →
    AllOk P G ops M σ0 m0 nx0 mm outs dec → ∃ outs' dec', R (outs', dec') ∧ AllOk P G ops M σ0 m0 nx0 mm outs' dec' ∧ outs'.length = outs.length + rest.length
  | [], outs, dec, hh, _, _, h, ha => ⟨outs, dec, h, ha, by simp⟩
  | o :: rest, outs, dec, hh, hops, hlen, h, ha => by
    have ho : ops[outs.length]? = some o := by
      rw [hops, List.append_assoc, ← hlen]
      simp
    have hops' : ops = (hh ++ [o]) ++ rest ++ (ops.drop ((hh ++ [o]).length + rest.length)) := by
      have e1 : (hh ++ [o]).length + rest.length = hh.length + (o :: rest).length := by simp; omega
      rw [e1]
      simpa using hops
    have run : ∀ dec2, AllOk P G ops M σ0 m0 nx0 mm outs dec2 → (runD P G ops M σ0 m0 nx0 mm o outs.length outs dec2 (drawT P G ops M σ0 m0 nx0 mm rest (outs.length + 1))).sat R →
        (o.guard = none ∨ ∃ j want t, o.guard = some (j, want) ∧ guardSlot ops o = some t ∧ rhoD ops M σ0 outs dec2 outs.length (.tmp t) = .lit want) →
        ∃ outs' dec', R (outs', dec') ∧ AllOk P G ops M σ0 m0 nx0 mm outs' dec' ∧ outs'.length = outs.length + (o :: rest).length := by
      intro dec2 ha2 h2 hg
      unfold runD at h2
      have fin : ∀ c : Outc, RecOk P G ops M σ0 m0 nx0 mm (outs ++ [c]) dec2 outs.length o → (drawT P G ops M σ0 m0 nx0 mm rest (outs.length + 1) (outs ++ [c]) dec2).sat R →
          ∃ outs' dec', R (outs', dec') ∧ AllOk P G ops M σ0 m0 nx0 mm outs' dec' ∧ outs'.length = outs.length + (o :: rest).length := by
        intro c hrec h3
        have hall := ha2.push ho hrec
        have hl : (outs ++ [c]).length = outs.length + 1 := by simp
        rw [← hl] at h3
        obtain ⟨outs', dec', r1, r2, r3⟩ := drawT_sound rest _ dec2 (hh ++ [o]) hops' (by simp [hlen]) h3 hall
        exact ⟨outs', dec', r1, r2, by rw [r3]; simp; omega⟩
      split at h2
      · rename_i ns val add haop
        replace h2 := Tree.sat_needT h2
        refine fin ⟨val, add, none, none⟩ ⟨dec2, fun _ _ h => h, .inl ⟨.inl ⟨ns, ?_, ?_, ?_, allP_mem h2.1⟩, ?_⟩⟩ h2.2
        · simpa [List.getD] using haop
        · simp [List.getD]
        · simp [List.getD]
        · simpa using hg
      · split at h2
        · rename_i ns j r hst
          replace h2 := Tree.sat_needT h2
          refine fin ⟨.top, none, some (j, r), none⟩ ⟨dec2, fun _ _ h => h, .inl ⟨.inr (.inl ⟨ns, j, r, ?_, ?_, allP_mem h2.1⟩), ?_⟩⟩ h2.2
          · simpa using hst
          · simp [List.getD]
          · simpa using hg
        · split at h2
          · rename_i ns val r eat hap
            replace h2 := Tree.sat_needT h2
            refine fin ⟨val, some r, none, eat⟩ ⟨dec2, fun _ _ h => h, .inl ⟨.inr (.inr ⟨ns, val, r, eat, ?_, ?_, allP_mem h2.1⟩), ?_⟩⟩ h2.2
            · simpa using hap
            · simp [List.getD]
            · simpa using hg
          · exact h2.elim
    have skip : ∀ {dec2 : List (Nat × Bool)} {j : Nat} {want : Bool} {t : Nat}, AllOk P G ops M σ0 m0 nx0 mm outs dec2 → (drawT P G ops M σ0 m0 nx0 mm rest (outs.length + 1) (outs ++ [skipOut]) dec2).sat R → o.guard = some (j, want) → guardSlot ops o = some t →
        skipB want (rhoD ops M σ0 outs dec2 outs.length (.tmp t)) = true → ∃ outs' dec', R (outs', dec') ∧ AllOk P G ops M σ0 m0 nx0 mm outs' dec' ∧ outs'.length = outs.length + (o :: rest).length := by
      intro dec2 j want t ha2 h2 hg hs hb
      have hrec : RecOk P G ops M σ0 m0 nx0 mm (outs ++ [skipOut]) dec2 outs.length o := by
        refine ⟨dec2, fun _ _ h => h, .inr ⟨by simp [List.getD], j, want, t, hg, hs, ?_⟩⟩
        simpa using hb
      have hall := ha2.push ho hrec
      have hl : (outs ++ [skipOut]).length = outs.length + 1 := by simp
      rw [← hl] at h2
      obtain ⟨outs', dec', r1, r2, r3⟩ := drawT_sound rest _ dec2 (hh ++ [o]) hops' (by simp [hlen]) h2 hall
      exact ⟨outs', dec', r1, r2, by rw [r3]; simp; omega⟩
    unfold drawT at h
    split at h
    · rename_i hg
      obtain ⟨dec2, ha2, h2, _⟩ := settleD_sound h ha
      exact run dec2 ha2 h2 (.inl hg)
    · rename_i j want hg
      obtain ⟨dec2, ha2, h2, _⟩ := settleD_sound h ha
      cases hs : guardSlot ops o with
      | none => simp only [hs] at h2; exact h2.elim
      | some t =>
        simp only [hs] at h2
        split at h2
        · rename_i b hb
          split at h2
          · rename_i hbw
            have hbw' : b = want := by simpa using hbw
            subst hbw'
            obtain ⟨dec3, ha3, h3, hext⟩ := settleD_sound h2 ha2
            exact run dec3 ha3 h3 (.inr ⟨j, b, t, hg, hs, rhoD_lit hext ha3.1 hb⟩)
          · rename_i hbw
            have hbw' : b ≠ want := by simpa using hbw
            exact skip ha2 h2 hg hs (by rw [hb]; simpa [skipB] using hbw')
        · rename_i l hb
          exact skip ha2 h2 hg hs (by rw [hb]; rfl)
        · exact h2.elim
end
end Go.Sx
