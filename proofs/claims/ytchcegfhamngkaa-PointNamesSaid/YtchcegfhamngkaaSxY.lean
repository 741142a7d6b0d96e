/- Arguments of plain data, by their shape. -/
import Derived.Test.YtchcegfhamngkaaSxW
namespace Go.Sx
open Go Go.RowKit

section
variable {P : Program}

def structB (P : Program) (t : TypeId) : Bool := match P.underlying t with
  | some (.struct _) => true
  | _ => false
def scalB (P : Program) (t : TypeId) : Bool := match P.underlying t with
  | some (.int _) | some .bool | some .string => true
  | _ => false
def sliceOf (P : Program) (t : TypeId) : Option TypeId := match P.underlying t with
  | some (.slice e) => some e
  | _ => none

theorem ArgOk.agg {t : TypeId} {av : AV} {ks : List SK} (h : ArgOk P t av) (hs : structB P t = true) (hk : flatK P 9 t = some ks) : ∃ vs, av = .agg (vs.map .x) ∧ AllSc ks vs := by
  unfold structB at hs
  split at hs
  · rename_i fs hu
    cases h with
    | sc k v h0 h1 h2 => exact absurd hu (h0 fs)
    | st fs' ks' vs h1 h2 h3 => rw [hk] at h2; cases h2; exact ⟨vs, rfl, h3⟩
    | sl e ks' n f h1 h2 h3 h4 => rw [hu] at h1; cases h1
  · cases hs

theorem ArgOk.one {t : TypeId} {av : AV} {k : SK} (h : ArgOk P t av) (hs : scalB P t = true) (hk : flatK P 9 t = some [k]) : ∃ v, av = .x v ∧ isSc k v := by
  cases h with
  | sc k' v h0 h1 h2 => rw [hk] at h1; cases h1; exact ⟨v, rfl, h2⟩
  | st fs' ks' vs h1 h2 h3 => unfold scalB at hs; rw [h1] at hs; cases hs
  | sl e ks' n f h1 h2 h3 h4 => unfold scalB at hs; rw [h1] at hs; cases hs

theorem ArgOk.list {t e : TypeId} {av : AV} {ks : List SK} (h : ArgOk P t av) (hs : sliceOf P t = some e) (hk : flatK P 9 e = some ks) : ∃ (n : Nat) (f : Nat → List Value), av = .lst ks.length n (fun i => (f i).map .x) ∧ n ≤ maxLen ∧ ∀ i, i < n → AllSc ks (f i) := by
  unfold sliceOf at hs
  split at hs
  · rename_i e' hu
    cases hs
    cases h with
    | sc k v h0 h1 h2 => simp [flatK, hu] at h1
    | st fs' ks' vs h1 h2 h3 => rw [hu] at h1; cases h1
    | sl e' ks' n f h1 h2 h3 h4 =>
      rw [hu] at h1
      cases h1
      rw [hk] at h2
      cases h2
      exact ⟨n, f, rfl, h3, h4⟩
  · cases hs

theorem AllSc.nil {vs : List Value} (h : AllSc [] vs) : vs = [] := List.eq_nil_of_length_eq_zero h.1.symm
theorem AllSc.cons {k : SK} {ks : List SK} {vs : List Value} (h : AllSc (k :: ks) vs) : ∃ v vs', vs = v :: vs' ∧ isSc k v ∧ AllSc ks vs' := by
  cases vs with
  | nil => have := h.1; simp at this
  | cons v vs => exact ⟨v, vs, rfl, h.2 0 k v rfl rfl, ⟨by have := h.1; simpa using this, fun j k' v' hk hv => h.2 (j + 1) k' v' (by simpa using hk) (by simpa using hv)⟩⟩

theorem wf_i64 {n : Int} (h : (Lit.int .i64 n).wf = true) : inI64 n := by
  have : IntKind.i64.min ≤ n ∧ n ≤ IntKind.i64.max := by simpa [Lit.wf] using h
  exact this

theorem int1 {ks : List SK} {vs : List Value} (h : AllSc (.int .i64 :: ks) vs) : ∃ (a : Int) (vs' : List Value), vs = .int .i64 a :: vs' ∧ inI64 a ∧ AllSc ks vs' := by
  obtain ⟨v0, vs', rfl, ⟨a, rfl, ha⟩, h'⟩ := h.cons
  exact ⟨a, vs', rfl, wf_i64 ha, h'⟩
theorem int2 {vs : List Value} (h : AllSc [.int .i64, .int .i64] vs) : ∃ a b : Int, vs = [.int .i64 a, .int .i64 b] ∧ inI64 a ∧ inI64 b := by
  obtain ⟨a, vs1, rfl, ha, h1⟩ := int1 h
  obtain ⟨b, vs2, rfl, hb, h2⟩ := int1 h1
  cases h2.nil
  exact ⟨a, b, rfl, ha, hb⟩
theorem int3 {vs : List Value} (h : AllSc [.int .i64, .int .i64, .int .i64] vs) : ∃ a b c : Int, vs = [.int .i64 a, .int .i64 b, .int .i64 c] ∧ inI64 a ∧ inI64 b ∧ inI64 c := by
  obtain ⟨a, vs1, rfl, ha, h1⟩ := int1 h
  obtain ⟨b, c, rfl, hb, hc⟩ := int2 h1
  exact ⟨a, b, c, rfl, ha, hb, hc⟩
theorem int4 {vs : List Value} (h : AllSc [.int .i64, .int .i64, .int .i64, .int .i64] vs) : ∃ a b c d : Int, vs = [.int .i64 a, .int .i64 b, .int .i64 c, .int .i64 d] ∧ inI64 a ∧ inI64 b ∧ inI64 c ∧ inI64 d := by
  obtain ⟨a, vs1, rfl, ha, h1⟩ := int1 h
  obtain ⟨b, c, d, rfl, hb, hc, hd⟩ := int3 h1
  exact ⟨a, b, c, d, rfl, ha, hb, hc, hd⟩

/-- A list of records of ints. -/
theorem ints_rec : ∀ {m : Nat} {vs : List Value}, AllSc (List.replicate m (.int .i64)) vs → vs.map .x = recL m (intAt (vs.map .x))
  | 0, vs, h => by cases h.nil; rfl
  | m + 1, vs, h => by
    obtain ⟨v, vs', rfl, ⟨n, rfl, _⟩, h'⟩ := AllSc.cons (ks := List.replicate m (.int .i64)) (by simpa [List.replicate_succ] using h)
    have ih := ints_rec h'
    show _ :: _ = _
    rw [ih]
    rfl
end
end Go.Sx
