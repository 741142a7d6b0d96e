/-
  No cell of these rows narrows 'for every input' (looked for: loops, veiled, ifaces, maps, wideKeys, modest, calm, conditions, laid).
  DERIVED. THE GIVEN ROWS OF THIS SEAT. 13 by the template 'for every input the law returns true; each argument reads behind the call as it read before'; 0 by the template 'total and deterministic' (their statements: YtchcegfhamngkaaTotals.lean).
  GIVEN WITH THE SEED: the statements are not yours to turn. If you find one false, say at which input.
  Laid BY PROGRAM, IN A SANDBOX (cutbox-rows.mjs): the forced cells as the released guide's own fill.sh prints them over the translation 830db574e425e689… (all of the seat's roots in one cut). By AI agents, Wed Nov 11 2026. No macro, syntax, notation, axiom, sorry.
-/
import Derived.Test.YtchcegfhamngkaaChecked
import GoSem.Claim
import GoSem.ClaimJoined
import GoSem.ClaimMapViews
import Derived.JoinedTies
import Derived.KernelRfl
namespace Go.Proofs.Ytchcegfhamngkaa
/- THE CELL 'sum', in the pinned program and in every row, IS THE sha256 OF THE DUMP (.gsa) THAT YtchcegfhamngkaaProg.lean LOADS. Nothing in Lean hashes anything: it is a label: what it is worth is what the hold of that sum in a sandbox is worth. -/
noncomputable def Try.pinned : Pinned := { name := "ytchcegfhamngkaa", sum := "830db574e425e6895e52c3db9e6743b78b97f511e0a1b4ee9947a061bba66966", checked := Try.checked }
namespace Rows
def none {H : Type} : Left H := { results := [], args := [] }

/-- 'meniscuslaw03.PointConverts': WHATEVER THE INPUT: true; the input reads as it did. -/
def pointConvertsSpec : ChangeSpec := { name := "pointConverts", fn := fun _ => fun
  | [d1, d2] => { results := [.lit (.bool true)], args := [d1, d2] }
  | _ => none }
def pointConvertsRow : OpenClaim := { program := "ytchcegfhamngkaa", sum := "830db574e425e6895e52c3db9e6743b78b97f511e0a1b4ee9947a061bba66966", func := "meniscus/meniscuslaw03.PointConverts", spec := "pointConverts", unfollowed := true, recurses := true, plainKeys := false, apart := false }
def PointConvertsSaid : Prop := pointConvertsRow.holds Try.pinned (OpenSpec.ofChange pointConvertsSpec)

/-- ITS FALSE NEIGHBOUR: 'it returns false'. Refute it at one input. -/
def pointConvertsWrong : ChangeSpec := { name := "pointConverts", fn := fun _ => fun
  | [d1, d2] => { results := [.lit (.bool false)], args := [d1, d2] }
  | _ => none }
def PointConvertsWrongFalsely : Prop := pointConvertsRow.holds Try.pinned (OpenSpec.ofChange pointConvertsWrong)

/-- 'meniscuslaw03.PointBoils': WHATEVER THE INPUT: true; the input reads as it did. -/
def pointBoilsSpec : ChangeSpec := { name := "pointBoils", fn := fun _ => fun
  | [d1, d2, d3, d4] => { results := [.lit (.bool true)], args := [d1, d2, d3, d4] }
  | _ => none }
def pointBoilsRow : OpenClaim := { program := "ytchcegfhamngkaa", sum := "830db574e425e6895e52c3db9e6743b78b97f511e0a1b4ee9947a061bba66966", func := "meniscus/meniscuslaw03.PointBoils", spec := "pointBoils", unfollowed := true, recurses := true, plainKeys := false, apart := false }
def PointBoilsSaid : Prop := pointBoilsRow.holds Try.pinned (OpenSpec.ofChange pointBoilsSpec)

/-- ITS FALSE NEIGHBOUR: 'it returns false'. Refute it at one input. -/
def pointBoilsWrong : ChangeSpec := { name := "pointBoils", fn := fun _ => fun
  | [d1, d2, d3, d4] => { results := [.lit (.bool false)], args := [d1, d2, d3, d4] }
  | _ => none }
def PointBoilsWrongFalsely : Prop := pointBoilsRow.holds Try.pinned (OpenSpec.ofChange pointBoilsWrong)

/-- 'meniscuslaw03.PointTruth': WHATEVER THE INPUT: true; the input reads as it did. -/
def pointTruthSpec : ChangeSpec := { name := "pointTruth", fn := fun _ => fun
  | [d1, d2, d3, d4] => { results := [.lit (.bool true)], args := [d1, d2, d3, d4] }
  | _ => none }
def pointTruthRow : OpenClaim := { program := "ytchcegfhamngkaa", sum := "830db574e425e6895e52c3db9e6743b78b97f511e0a1b4ee9947a061bba66966", func := "meniscus/meniscuslaw03.PointTruth", spec := "pointTruth", unfollowed := true, recurses := true, plainKeys := false, apart := false }
def PointTruthSaid : Prop := pointTruthRow.holds Try.pinned (OpenSpec.ofChange pointTruthSpec)

/-- ITS FALSE NEIGHBOUR: 'it returns false'. Refute it at one input. -/
def pointTruthWrong : ChangeSpec := { name := "pointTruth", fn := fun _ => fun
  | [d1, d2, d3, d4] => { results := [.lit (.bool false)], args := [d1, d2, d3, d4] }
  | _ => none }
def PointTruthWrongFalsely : Prop := pointTruthRow.holds Try.pinned (OpenSpec.ofChange pointTruthWrong)

/-- 'meniscuslaw03.PointEnds': WHATEVER THE INPUT: true; the input reads as it did. -/
def pointEndsSpec : ChangeSpec := { name := "pointEnds", fn := fun _ => fun
  | [d1, d2, d3] => { results := [.lit (.bool true)], args := [d1, d2, d3] }
  | _ => none }
def pointEndsRow : OpenClaim := { program := "ytchcegfhamngkaa", sum := "830db574e425e6895e52c3db9e6743b78b97f511e0a1b4ee9947a061bba66966", func := "meniscus/meniscuslaw03.PointEnds", spec := "pointEnds", unfollowed := true, recurses := true, plainKeys := false, apart := false }
def PointEndsSaid : Prop := pointEndsRow.holds Try.pinned (OpenSpec.ofChange pointEndsSpec)

/-- ITS FALSE NEIGHBOUR: 'it returns false'. Refute it at one input. -/
def pointEndsWrong : ChangeSpec := { name := "pointEnds", fn := fun _ => fun
  | [d1, d2, d3] => { results := [.lit (.bool false)], args := [d1, d2, d3] }
  | _ => none }
def PointEndsWrongFalsely : Prop := pointEndsRow.holds Try.pinned (OpenSpec.ofChange pointEndsWrong)

/-- 'meniscuslaw03.PointBack': WHATEVER THE INPUT: true; the input reads as it did. -/
def pointBackSpec : ChangeSpec := { name := "pointBack", fn := fun _ => fun
  | [d1, d2, d3] => { results := [.lit (.bool true)], args := [d1, d2, d3] }
  | _ => none }
def pointBackRow : OpenClaim := { program := "ytchcegfhamngkaa", sum := "830db574e425e6895e52c3db9e6743b78b97f511e0a1b4ee9947a061bba66966", func := "meniscus/meniscuslaw03.PointBack", spec := "pointBack", unfollowed := true, recurses := true, plainKeys := false, apart := false }
def PointBackSaid : Prop := pointBackRow.holds Try.pinned (OpenSpec.ofChange pointBackSpec)

/-- ITS FALSE NEIGHBOUR: 'it returns false'. Refute it at one input. -/
def pointBackWrong : ChangeSpec := { name := "pointBack", fn := fun _ => fun
  | [d1, d2, d3] => { results := [.lit (.bool false)], args := [d1, d2, d3] }
  | _ => none }
def PointBackWrongFalsely : Prop := pointBackRow.holds Try.pinned (OpenSpec.ofChange pointBackWrong)

/-- 'meniscuslaw03.PointThrough': WHATEVER THE INPUT: true; the input reads as it did. -/
def pointThroughSpec : ChangeSpec := { name := "pointThrough", fn := fun _ => fun
  | [d1, d2, d3, d4] => { results := [.lit (.bool true)], args := [d1, d2, d3, d4] }
  | _ => none }
def pointThroughRow : OpenClaim := { program := "ytchcegfhamngkaa", sum := "830db574e425e6895e52c3db9e6743b78b97f511e0a1b4ee9947a061bba66966", func := "meniscus/meniscuslaw03.PointThrough", spec := "pointThrough", unfollowed := true, recurses := true, plainKeys := false, apart := false }
def PointThroughSaid : Prop := pointThroughRow.holds Try.pinned (OpenSpec.ofChange pointThroughSpec)

/-- ITS FALSE NEIGHBOUR: 'it returns false'. Refute it at one input. -/
def pointThroughWrong : ChangeSpec := { name := "pointThrough", fn := fun _ => fun
  | [d1, d2, d3, d4] => { results := [.lit (.bool false)], args := [d1, d2, d3, d4] }
  | _ => none }
def PointThroughWrongFalsely : Prop := pointThroughRow.holds Try.pinned (OpenSpec.ofChange pointThroughWrong)

/-- 'meniscuslaw03.PointWider': WHATEVER THE INPUT: true; the input reads as it did. -/
def pointWiderSpec : ChangeSpec := { name := "pointWider", fn := fun _ => fun
  | [d1, d2, d3, d4, d5, d6] => { results := [.lit (.bool true)], args := [d1, d2, d3, d4, d5, d6] }
  | _ => none }
def pointWiderRow : OpenClaim := { program := "ytchcegfhamngkaa", sum := "830db574e425e6895e52c3db9e6743b78b97f511e0a1b4ee9947a061bba66966", func := "meniscus/meniscuslaw03.PointWider", spec := "pointWider", unfollowed := true, recurses := true, plainKeys := false, apart := false }
def PointWiderSaid : Prop := pointWiderRow.holds Try.pinned (OpenSpec.ofChange pointWiderSpec)

/-- ITS FALSE NEIGHBOUR: 'it returns false'. Refute it at one input. -/
def pointWiderWrong : ChangeSpec := { name := "pointWider", fn := fun _ => fun
  | [d1, d2, d3, d4, d5, d6] => { results := [.lit (.bool false)], args := [d1, d2, d3, d4, d5, d6] }
  | _ => none }
def PointWiderWrongFalsely : Prop := pointWiderRow.holds Try.pinned (OpenSpec.ofChange pointWiderWrong)

/-- 'meniscuslaw03.PointPressure': WHATEVER THE INPUT: true; the input reads as it did. -/
def pointPressureSpec : ChangeSpec := { name := "pointPressure", fn := fun _ => fun
  | [d1, d2, d3, d4] => { results := [.lit (.bool true)], args := [d1, d2, d3, d4] }
  | _ => none }
def pointPressureRow : OpenClaim := { program := "ytchcegfhamngkaa", sum := "830db574e425e6895e52c3db9e6743b78b97f511e0a1b4ee9947a061bba66966", func := "meniscus/meniscuslaw03.PointPressure", spec := "pointPressure", unfollowed := true, recurses := true, plainKeys := false, apart := false }
def PointPressureSaid : Prop := pointPressureRow.holds Try.pinned (OpenSpec.ofChange pointPressureSpec)

/-- ITS FALSE NEIGHBOUR: 'it returns false'. Refute it at one input. -/
def pointPressureWrong : ChangeSpec := { name := "pointPressure", fn := fun _ => fun
  | [d1, d2, d3, d4] => { results := [.lit (.bool false)], args := [d1, d2, d3, d4] }
  | _ => none }
def PointPressureWrongFalsely : Prop := pointPressureRow.holds Try.pinned (OpenSpec.ofChange pointPressureWrong)

/-- 'meniscuslaw03.PointTurned': WHATEVER THE INPUT: true; the input reads as it did. -/
def pointTurnedSpec : ChangeSpec := { name := "pointTurned", fn := fun _ => fun
  | [d1, d2, d3, d4] => { results := [.lit (.bool true)], args := [d1, d2, d3, d4] }
  | _ => none }
def pointTurnedRow : OpenClaim := { program := "ytchcegfhamngkaa", sum := "830db574e425e6895e52c3db9e6743b78b97f511e0a1b4ee9947a061bba66966", func := "meniscus/meniscuslaw03.PointTurned", spec := "pointTurned", unfollowed := true, recurses := true, plainKeys := false, apart := false }
def PointTurnedSaid : Prop := pointTurnedRow.holds Try.pinned (OpenSpec.ofChange pointTurnedSpec)

/-- ITS FALSE NEIGHBOUR: 'it returns false'. Refute it at one input. -/
def pointTurnedWrong : ChangeSpec := { name := "pointTurned", fn := fun _ => fun
  | [d1, d2, d3, d4] => { results := [.lit (.bool false)], args := [d1, d2, d3, d4] }
  | _ => none }
def PointTurnedWrongFalsely : Prop := pointTurnedRow.holds Try.pinned (OpenSpec.ofChange pointTurnedWrong)

/-- 'meniscuslaw03.PointHeights': WHATEVER THE INPUT: true; the input reads as it did. -/
def pointHeightsSpec : ChangeSpec := { name := "pointHeights", fn := fun _ => fun
  | [d1, d2] => { results := [.lit (.bool true)], args := [d1, d2] }
  | _ => none }
def pointHeightsRow : OpenClaim := { program := "ytchcegfhamngkaa", sum := "830db574e425e6895e52c3db9e6743b78b97f511e0a1b4ee9947a061bba66966", func := "meniscus/meniscuslaw03.PointHeights", spec := "pointHeights", unfollowed := true, recurses := true, plainKeys := false, apart := false }
def PointHeightsSaid : Prop := pointHeightsRow.holds Try.pinned (OpenSpec.ofChange pointHeightsSpec)

/-- ITS FALSE NEIGHBOUR: 'it returns false'. Refute it at one input. -/
def pointHeightsWrong : ChangeSpec := { name := "pointHeights", fn := fun _ => fun
  | [d1, d2] => { results := [.lit (.bool false)], args := [d1, d2] }
  | _ => none }
def PointHeightsWrongFalsely : Prop := pointHeightsRow.holds Try.pinned (OpenSpec.ofChange pointHeightsWrong)

/-- 'meniscuslaw03.PointKinds': WHATEVER THE INPUT: true; the input reads as it did. -/
def pointKindsSpec : ChangeSpec := { name := "pointKinds", fn := fun _ => fun
  | [d1, d2] => { results := [.lit (.bool true)], args := [d1, d2] }
  | _ => none }
def pointKindsRow : OpenClaim := { program := "ytchcegfhamngkaa", sum := "830db574e425e6895e52c3db9e6743b78b97f511e0a1b4ee9947a061bba66966", func := "meniscus/meniscuslaw03.PointKinds", spec := "pointKinds", unfollowed := true, recurses := true, plainKeys := false, apart := false }
def PointKindsSaid : Prop := pointKindsRow.holds Try.pinned (OpenSpec.ofChange pointKindsSpec)

/-- ITS FALSE NEIGHBOUR: 'it returns false'. Refute it at one input. -/
def pointKindsWrong : ChangeSpec := { name := "pointKinds", fn := fun _ => fun
  | [d1, d2] => { results := [.lit (.bool false)], args := [d1, d2] }
  | _ => none }
def PointKindsWrongFalsely : Prop := pointKindsRow.holds Try.pinned (OpenSpec.ofChange pointKindsWrong)

/-- 'meniscuslaw03.PointDiaries': WHATEVER THE INPUT: true; the input reads as it did. -/
def pointDiariesSpec : ChangeSpec := { name := "pointDiaries", fn := fun _ => fun
  | [d1, d2, d3, d4] => { results := [.lit (.bool true)], args := [d1, d2, d3, d4] }
  | _ => none }
def pointDiariesRow : OpenClaim := { program := "ytchcegfhamngkaa", sum := "830db574e425e6895e52c3db9e6743b78b97f511e0a1b4ee9947a061bba66966", func := "meniscus/meniscuslaw03.PointDiaries", spec := "pointDiaries", unfollowed := true, recurses := true, plainKeys := false, apart := false }
def PointDiariesSaid : Prop := pointDiariesRow.holds Try.pinned (OpenSpec.ofChange pointDiariesSpec)

/-- ITS FALSE NEIGHBOUR: 'it returns false'. Refute it at one input. -/
def pointDiariesWrong : ChangeSpec := { name := "pointDiaries", fn := fun _ => fun
  | [d1, d2, d3, d4] => { results := [.lit (.bool false)], args := [d1, d2, d3, d4] }
  | _ => none }
def PointDiariesWrongFalsely : Prop := pointDiariesRow.holds Try.pinned (OpenSpec.ofChange pointDiariesWrong)

/-- 'meniscuslaw03.PointNames': WHATEVER THE INPUT: true; the input reads as it did. -/
def pointNamesSpec : ChangeSpec := { name := "pointNames", fn := fun _ => fun
  | [] => { results := [.lit (.bool true)], args := [] }
  | _ => none }
def pointNamesRow : OpenClaim := { program := "ytchcegfhamngkaa", sum := "830db574e425e6895e52c3db9e6743b78b97f511e0a1b4ee9947a061bba66966", func := "meniscus/meniscuslaw03.PointNames", spec := "pointNames", unfollowed := true, recurses := true, plainKeys := false, apart := false }
def PointNamesSaid : Prop := pointNamesRow.holds Try.pinned (OpenSpec.ofChange pointNamesSpec)

/-- ITS FALSE NEIGHBOUR: 'it returns false'. Refute it at one input. -/
def pointNamesWrong : ChangeSpec := { name := "pointNames", fn := fun _ => fun
  | [] => { results := [.lit (.bool false)], args := [] }
  | _ => none }
def PointNamesWrongFalsely : Prop := pointNamesRow.holds Try.pinned (OpenSpec.ofChange pointNamesWrong)

/- THE SECOND FORM. 'bulk': how many values and letters a reading holds, each counted each time it is reached (what is shared counts as often as it is met; a slice's spare places count too). A statement '..UptoSaid' is the law's where the arguments, and the package variables that the reading takes, are together of bulk at most 1048576: NARROWER than '..Said'. Prove '..Said' where nothing that the law and all that it calls make is longer than what came in: it says more and counts as full. Else prove '..UptoSaid'. A law counts once. -/
mutual
def uptoBulk {H : Type} : DataW H → Nat
  | .lit (.string bytes) => bytes.length + 1
  | .lit _ => 1
  | .nil => 1
  | .ptr d => uptoBulk d + 1
  | .slice elems spare => uptoBulkAll elems + uptoBulkAll spare + 1
  | .agg parts => uptoBulkAll parts + 1
  | .iface _ d => uptoBulk d + 1
  | .map entries => uptoBulkEntries entries + 1
  | .held _ => 1
def uptoBulkAll {H : Type} : List (DataW H) → Nat
  | [] => 0
  | d :: r => uptoBulk d + uptoBulkAll r
def uptoBulkEntries {H : Type} : List (Lit × DataW H) → Nat
  | [] => 0
  | x :: r => uptoBulkEntry x + uptoBulkEntries r
def uptoBulkEntry {H : Type} : Lit × DataW H → Nat
  | (.string bytes, d) => bytes.length + uptoBulk d + 1
  | (_, d) => uptoBulk d + 1
 end
def uptoSmall : (H : Type) → List (DataW H) → Bool := fun _ ds => decide (uptoBulkAll ds ≤ 1048576)
def OpenSpec.upto (s : _root_.Go.ChangeSpec) : _root_.Go.OpenSpec := { _root_.Go.OpenSpec.ofChange s with cond := some uptoSmall }

/-- 'meniscuslaw03.PointConverts', WHERE WHAT IT READS IS OF BULK AT MOST 1048576: true; the input reads as it did. -/
def pointConvertsUptoRow : OpenClaim := { program := "ytchcegfhamngkaa", sum := "830db574e425e6895e52c3db9e6743b78b97f511e0a1b4ee9947a061bba66966", func := "meniscus/meniscuslaw03.PointConverts", spec := "pointConverts", unfollowed := true, recurses := true, plainKeys := false, apart := false, narrowed := true }
def PointConvertsUptoSaid : Prop := pointConvertsUptoRow.holds Try.pinned (OpenSpec.upto pointConvertsSpec)

/-- 'meniscuslaw03.PointBoils', WHERE WHAT IT READS IS OF BULK AT MOST 1048576: true; the input reads as it did. -/
def pointBoilsUptoRow : OpenClaim := { program := "ytchcegfhamngkaa", sum := "830db574e425e6895e52c3db9e6743b78b97f511e0a1b4ee9947a061bba66966", func := "meniscus/meniscuslaw03.PointBoils", spec := "pointBoils", unfollowed := true, recurses := true, plainKeys := false, apart := false, narrowed := true }
def PointBoilsUptoSaid : Prop := pointBoilsUptoRow.holds Try.pinned (OpenSpec.upto pointBoilsSpec)

/-- 'meniscuslaw03.PointTruth', WHERE WHAT IT READS IS OF BULK AT MOST 1048576: true; the input reads as it did. -/
def pointTruthUptoRow : OpenClaim := { program := "ytchcegfhamngkaa", sum := "830db574e425e6895e52c3db9e6743b78b97f511e0a1b4ee9947a061bba66966", func := "meniscus/meniscuslaw03.PointTruth", spec := "pointTruth", unfollowed := true, recurses := true, plainKeys := false, apart := false, narrowed := true }
def PointTruthUptoSaid : Prop := pointTruthUptoRow.holds Try.pinned (OpenSpec.upto pointTruthSpec)

/-- 'meniscuslaw03.PointEnds', WHERE WHAT IT READS IS OF BULK AT MOST 1048576: true; the input reads as it did. -/
def pointEndsUptoRow : OpenClaim := { program := "ytchcegfhamngkaa", sum := "830db574e425e6895e52c3db9e6743b78b97f511e0a1b4ee9947a061bba66966", func := "meniscus/meniscuslaw03.PointEnds", spec := "pointEnds", unfollowed := true, recurses := true, plainKeys := false, apart := false, narrowed := true }
def PointEndsUptoSaid : Prop := pointEndsUptoRow.holds Try.pinned (OpenSpec.upto pointEndsSpec)

/-- 'meniscuslaw03.PointBack', WHERE WHAT IT READS IS OF BULK AT MOST 1048576: true; the input reads as it did. -/
def pointBackUptoRow : OpenClaim := { program := "ytchcegfhamngkaa", sum := "830db574e425e6895e52c3db9e6743b78b97f511e0a1b4ee9947a061bba66966", func := "meniscus/meniscuslaw03.PointBack", spec := "pointBack", unfollowed := true, recurses := true, plainKeys := false, apart := false, narrowed := true }
def PointBackUptoSaid : Prop := pointBackUptoRow.holds Try.pinned (OpenSpec.upto pointBackSpec)

/-- 'meniscuslaw03.PointThrough', WHERE WHAT IT READS IS OF BULK AT MOST 1048576: true; the input reads as it did. -/
def pointThroughUptoRow : OpenClaim := { program := "ytchcegfhamngkaa", sum := "830db574e425e6895e52c3db9e6743b78b97f511e0a1b4ee9947a061bba66966", func := "meniscus/meniscuslaw03.PointThrough", spec := "pointThrough", unfollowed := true, recurses := true, plainKeys := false, apart := false, narrowed := true }
def PointThroughUptoSaid : Prop := pointThroughUptoRow.holds Try.pinned (OpenSpec.upto pointThroughSpec)

/-- 'meniscuslaw03.PointWider', WHERE WHAT IT READS IS OF BULK AT MOST 1048576: true; the input reads as it did. -/
def pointWiderUptoRow : OpenClaim := { program := "ytchcegfhamngkaa", sum := "830db574e425e6895e52c3db9e6743b78b97f511e0a1b4ee9947a061bba66966", func := "meniscus/meniscuslaw03.PointWider", spec := "pointWider", unfollowed := true, recurses := true, plainKeys := false, apart := false, narrowed := true }
def PointWiderUptoSaid : Prop := pointWiderUptoRow.holds Try.pinned (OpenSpec.upto pointWiderSpec)

/-- 'meniscuslaw03.PointPressure', WHERE WHAT IT READS IS OF BULK AT MOST 1048576: true; the input reads as it did. -/
def pointPressureUptoRow : OpenClaim := { program := "ytchcegfhamngkaa", sum := "830db574e425e6895e52c3db9e6743b78b97f511e0a1b4ee9947a061bba66966", func := "meniscus/meniscuslaw03.PointPressure", spec := "pointPressure", unfollowed := true, recurses := true, plainKeys := false, apart := false, narrowed := true }
def PointPressureUptoSaid : Prop := pointPressureUptoRow.holds Try.pinned (OpenSpec.upto pointPressureSpec)

/-- 'meniscuslaw03.PointTurned', WHERE WHAT IT READS IS OF BULK AT MOST 1048576: true; the input reads as it did. -/
def pointTurnedUptoRow : OpenClaim := { program := "ytchcegfhamngkaa", sum := "830db574e425e6895e52c3db9e6743b78b97f511e0a1b4ee9947a061bba66966", func := "meniscus/meniscuslaw03.PointTurned", spec := "pointTurned", unfollowed := true, recurses := true, plainKeys := false, apart := false, narrowed := true }
def PointTurnedUptoSaid : Prop := pointTurnedUptoRow.holds Try.pinned (OpenSpec.upto pointTurnedSpec)

/-- 'meniscuslaw03.PointHeights', WHERE WHAT IT READS IS OF BULK AT MOST 1048576: true; the input reads as it did. -/
def pointHeightsUptoRow : OpenClaim := { program := "ytchcegfhamngkaa", sum := "830db574e425e6895e52c3db9e6743b78b97f511e0a1b4ee9947a061bba66966", func := "meniscus/meniscuslaw03.PointHeights", spec := "pointHeights", unfollowed := true, recurses := true, plainKeys := false, apart := false, narrowed := true }
def PointHeightsUptoSaid : Prop := pointHeightsUptoRow.holds Try.pinned (OpenSpec.upto pointHeightsSpec)

/-- 'meniscuslaw03.PointKinds', WHERE WHAT IT READS IS OF BULK AT MOST 1048576: true; the input reads as it did. -/
def pointKindsUptoRow : OpenClaim := { program := "ytchcegfhamngkaa", sum := "830db574e425e6895e52c3db9e6743b78b97f511e0a1b4ee9947a061bba66966", func := "meniscus/meniscuslaw03.PointKinds", spec := "pointKinds", unfollowed := true, recurses := true, plainKeys := false, apart := false, narrowed := true }
def PointKindsUptoSaid : Prop := pointKindsUptoRow.holds Try.pinned (OpenSpec.upto pointKindsSpec)

/-- 'meniscuslaw03.PointDiaries', WHERE WHAT IT READS IS OF BULK AT MOST 1048576: true; the input reads as it did. -/
def pointDiariesUptoRow : OpenClaim := { program := "ytchcegfhamngkaa", sum := "830db574e425e6895e52c3db9e6743b78b97f511e0a1b4ee9947a061bba66966", func := "meniscus/meniscuslaw03.PointDiaries", spec := "pointDiaries", unfollowed := true, recurses := true, plainKeys := false, apart := false, narrowed := true }
def PointDiariesUptoSaid : Prop := pointDiariesUptoRow.holds Try.pinned (OpenSpec.upto pointDiariesSpec)

/-- 'meniscuslaw03.PointNames', WHERE WHAT IT READS IS OF BULK AT MOST 1048576: true; the input reads as it did. -/
def pointNamesUptoRow : OpenClaim := { program := "ytchcegfhamngkaa", sum := "830db574e425e6895e52c3db9e6743b78b97f511e0a1b4ee9947a061bba66966", func := "meniscus/meniscuslaw03.PointNames", spec := "pointNames", unfollowed := true, recurses := true, plainKeys := false, apart := false, narrowed := true }
def PointNamesUptoSaid : Prop := pointNamesUptoRow.holds Try.pinned (OpenSpec.upto pointNamesSpec)

end Rows
end Go.Proofs.Ytchcegfhamngkaa
