/- Summaries of loops under conditions. -/
import Derived.Test.YtchcegfhamngkaaSxS
namespace Go.Sx
open Go Go.RowKit

/-- A summary that is good under conditions. -/
def needSp (ps : List Prop) (sp : LSpec) : LSpec := fun s => match sp s with
  | some t => some (.need ps t)
  | none => none

theorem needSp_soundC {P : Program} {ro : Option Nat} {cx : Cx} {c : Code} {ps : List Prop} {sp : LSpec} (h : allP ps → LSoundC P ro cx c sp) : LSoundC P ro cx c (needSp ps sp) := by
  intro n s t ht Q hQ a w r
  unfold needSp at ht
  split at ht
  · rename_i t' ht'
    cases ht
    exact h hQ.1 n s t' ht' Q hQ.2 a w r
  · cases ht
theorem needSp_sound {P : Program} {c : Code} {ps : List Prop} {sp : LSpec} (h : allP ps → LSound P c sp) : LSound P c (needSp ps sp) := fun ro cx => needSp_soundC (fun hp => h hp ro cx)
end Go.Sx
