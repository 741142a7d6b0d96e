/- Texts of this claim, put together: SxC -/
import Derived.Test.YtlinbkmpkcmniaaMa
import Derived.WalkLawsBesides
set_option linter.unusedSimpArgs false
set_option linter.unusedVariables false
namespace Go.Sx
open Go Go.RowKit
def inI64 (n : Int) : Prop := -9223372036854775808 ≤ n ∧ n ≤ 9223372036854775807
theorem wrap_i64 {n : Int} (h : inI64 n) : IntKind.i64.wrap n = n := IntWalk.i64_in n h
def AV.cellsOf : AV → Option (List AV)
 | .agg l => some l
 | .x v => some (v.cells.toList.map .x)
 | .lit b => some [.lit b]
 | .fn f a b => some [.fn f a b]
 | .ptr a b => some [.ptr a b]
 | .row a => some [.row a]
 | .elt a b c d => some [.elt a b c d]
 | .ro l => some [.ro l]
 | .lst a b c => some [.lst a b c]
 | .mp a => some [.mp a]
 | .roI a b c d => some [.roI a b c d]
 | .top => none
 | .tup _ => none
theorem RepL.one {e : Env} {w : World} {a : AV} {v : Value} (h : Rep e w a v) : RepL e w [a] [v] := RepL.cons h (RepL.nil e w)
theorem RepL.xs (e : Env) (w : World) (vs : List Value) : RepL e w (vs.map .x) vs := by
 induction vs with
 | nil => exact RepL.nil e w
 | cons v vs ih => exact RepL.cons (.x v) ih
theorem cellsOf_rep {e : Env} {w : World} {a : AV} {v : Value} {l : List AV} (hc : a.cellsOf = some l) (h : Rep e w a v) : RepL e w l v.cells.toList := by
 cases h with
 | top v => simp [AV.cellsOf] at hc
 | lit b => simp [AV.cellsOf] at hc; subst hc; exact RepL.one (.lit b)
 | x v => simp [AV.cellsOf] at hc; subst hc; exact RepL.xs e w _
 | agg l' vs h1 h2 => simp [AV.cellsOf] at hc; subst hc; exact ⟨h1, h2⟩
 | tup l' vs h1 h2 => simp [AV.cellsOf] at hc
 | fn f l1 l2 vs vs' h1 h2 h3 h4 => simp [AV.cellsOf] at hc; subst hc; exact RepL.one (.fn f l1 l2 vs vs' h1 h2 h3 h4)
 | ptr id off h1 => simp [AV.cellsOf] at hc; subst hc; exact RepL.one (.ptr id off h1)
 | row id a n c h1 h2 => simp [AV.cellsOf] at hc; subst hc; exact RepL.one (.row id a n c h1 h2)
 | roI pre n f off b o h => simp [AV.cellsOf] at hc; subst hc; exact RepL.one (.roI pre n f off b o h)
 | elt id sz i j b n cap h1 h2 => simp [AV.cellsOf] at hc; subst hc; exact RepL.one (.elt id sz i j b n cap h1 h2)
 | ro l' vs b o h1 h2 h3 h4 h5 h6 => simp [AV.cellsOf] at hc; subst hc; exact RepL.one (.ro l' vs b o h1 h2 h3 h4 h5 h6)
 | lstNil sz f => simp [AV.cellsOf] at hc; subst hc; exact RepL.one (.lstNil sz f)
 | lst sz n f b o cap g h1 h2 h3 h4 h5 h6 h7 h8 ad had => simp [AV.cellsOf] at hc; subst hc; exact RepL.one (.lst sz n f b o cap g h1 h2 h3 h4 h5 h6 h7 h8 ad had)
 | mp id h1 => simp [AV.cellsOf] at hc; subst hc; exact RepL.one (.mp id h1)
def AV.one : AV → Bool
 | .x v => v.oneCell'
 | .lit _ | .fn .. | .ptr .. | .row _ | .elt .. | .ro _ | .lst .. | .mp _ | .roI .. => true
 | .top | .agg _ | .tup _ => false
theorem one_rep {e : Env} {w : World} {a : AV} {v : Value} (ho : a.one = true) (h : Rep e w a v) : v.oneCell' = true := by
 cases h <;> first | (simp [AV.one] at ho; done) | rfl | (simpa [AV.one] using ho)
section
variable {P : Program}
def ldL (P : Program) (t : TypeId) (l : List AV) : Option AV :=
 match P.underlying t, P.info? t with
 | some (.struct _), some i => match Nat.ble i.size l.length with | true => some (.agg (l.take i.size)) | false => none
 | some (.array _ _), some i => match Nat.ble i.size l.length with | true => some (.agg (l.take i.size)) | false => none
 | some _, some _ => l.head?
 | _, _ => none
theorem cells_take {w : World} {b o : Nat} {vs : List Value} (hc : ∀ (j : Nat) (v : Value), vs[j]? = some v → w.cell? ⟨b, o + j, none⟩ = some v) (k : Nat) :
  ∀ (j : Nat) (v : Value), (vs.take k)[j]? = some v → w.cell? ((⟨b, o, none⟩ : Addr).add j) = some v := by
 intro j v hj
 rw [List.getElem?_take] at hj
 split at hj
 ·have := hc j v hj
  have ha : (⟨b, o, none⟩ : Addr).add j = ⟨b, o + j, none⟩ := by unfold Addr.add; split <;> simp_all
  rw [ha]; exact this
 ·cases hj
theorem run_loadVar_cells {e : Env} {w : World} {t : TypeId} {l : List AV} {vs : List Value} {a : AV} {b o : Nat} (h : ldL P t l = some a) (hr : RepL e w l vs)
  (hc : ∀ (j : Nat) (v : Value), vs[j]? = some v → w.cell? ⟨b, o + j, none⟩ = some v) : ∃ v, (loadVar t ⟨b, o, none⟩).run P w = .ok v w ∧ Rep e w a v := by
 have agg : ∀ i : TypeInfo, P.info? t = some i → (isAgg t).run P w = .ok true w → i.size ≤ l.length → a = .agg (l.take i.size) → ∃ v, (loadVar t ⟨b, o, none⟩).run P w = .ok v w ∧ Rep e w a v := by
  intro i hi hg hsz ha
  subst ha
  have hlen : (vs.take i.size).length = i.size := by rw [List.length_take, ← hr.1]; omega
  have hl := run_loadCells_list (P := P) (w := w) ⟨b, o, none⟩ (vs.take i.size) (cells_take hc i.size)
  rw [hlen] at hl
  refine ⟨.agg (vs.take i.size).toArray, ?_, Rep.aggL (hr.take _)⟩
  simp [loadVar, hg, sizeOf, typeInfo, hi, hl]
 have flat : (isAgg t).run P w = .ok false w → l.head? = some a → ∃ v, (loadVar t ⟨b, o, none⟩).run P w = .ok v w ∧ Rep e w a v := by
  intro hg hd
  obtain ⟨v, hv, hrep⟩ := hr.get (i := 0) (a := a) (by rw [← List.head?_eq_getElem?]; exact hd)
  refine ⟨v, ?_, hrep⟩
  have := hc 0 v hv
  simp only [Nat.add_zero] at this
  simp [loadVar, hg, this]
 unfold ldL at h
 cases hu : P.underlying t with
 | none => rw [hu] at h; simp at h
 | some d =>
  cases hi : P.info? t with
  | none => rw [hu, hi] at h; cases d <;> simp at h
  | some i =>
   rw [hu, hi] at h
   cases d with
   | struct fs =>
    simp only at h
    split at h
    ·rename_i hb
     exact agg i hi (by simp [isAgg, run_underlying hu]) (Nat.le_of_ble_eq_true hb) (by cases h; rfl)
    ·cases h
   | array n el =>
    simp only at h
    split at h
    ·rename_i hb
     exact agg i hi (by simp [isAgg, run_underlying hu]) (Nat.le_of_ble_eq_true hb) (by cases h; rfl)
    ·cases h
   | _ => exact flat (by simp [isAgg, run_underlying hu]) h
def partL (P : Program) (t : TypeId) (l : List AV) (off : Nat) : Option AV :=
 match P.underlying t, P.info? t with
 | some (.struct _), some i => match Nat.ble (off + i.size) l.length with | true => some (.agg ((l.drop off).take i.size)) | false => none
 | some (.array _ _), some i => match Nat.ble (off + i.size) l.length with | true => some (.agg ((l.drop off).take i.size)) | false => none
 | some _, some _ => l[off]?
 | _, _ => none
theorem run_part {e : Env} {w : World} {t : TypeId} {l : List AV} {vs : List Value} {a : AV} {off : Nat} (h : partL P t l off = some a) (hr : RepL e w l vs) :
  ∃ v, (part t vs.toArray off).run P w = .ok v w ∧ Rep e w a v := by
 have agg : ∀ i : TypeInfo, P.info? t = some i → (isAgg t).run P w = .ok true w → a = .agg ((l.drop off).take i.size) → ∃ v, (part t vs.toArray off).run P w = .ok v w ∧ Rep e w a v := by
  intro i hi hg ha
  subst ha
  refine ⟨.agg ((vs.drop off).take i.size).toArray, ?_, Rep.aggL ((hr.drop off).take _)⟩
  simp [part, hg, sizeOf, typeInfo, hi]
 unfold partL at h
 cases hu : P.underlying t with
 | none => rw [hu] at h; simp at h
 | some d =>
  cases hi : P.info? t with
  | none => rw [hu, hi] at h; cases d <;> simp at h
  | some i =>
   rw [hu, hi] at h
   cases d with
   | struct fs =>
    simp only at h
    split at h
    ·exact agg i hi (by simp [isAgg, run_underlying hu]) (by cases h; rfl)
    ·cases h
   | array n el =>
    simp only at h
    split at h
    ·exact agg i hi (by simp [isAgg, run_underlying hu]) (by cases h; rfl)
    ·cases h
   | _ =>
    obtain ⟨v, hv, hrep⟩ := hr.get h
    exact ⟨v, by simp [part, isAgg, run_underlying hu, hv], hrep⟩
end
end Go.Sx
