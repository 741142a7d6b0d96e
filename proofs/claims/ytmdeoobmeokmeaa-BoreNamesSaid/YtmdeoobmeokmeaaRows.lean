/-
  No cell of these rows narrows 'for every input' (looked for: loops, veiled, ifaces, maps, wideKeys, modest, calm, conditions, laid).
  DERIVED. THE GIVEN ROWS OF THIS SEAT. 16 by the template 'for every input the law returns true; each argument reads behind the call as it read before'; 0 by the template 'total and deterministic' (their statements: YtmdeoobmeokmeaaTotals.lean).
  GIVEN WITH THE SEED: the statements are not yours to turn. If you find one false, say at which input.
  Laid BY PROGRAM, IN A SANDBOX (cutbox-rows.mjs): the forced cells as the released guide's own fill.sh prints them over the translation 16b9e3b4b028f4cf… (all of the seat's roots in one cut). By AI agents, Wed Nov 11 2026. No macro, syntax, notation, axiom, sorry.
-/
import Derived.Test.YtmdeoobmeokmeaaChecked
import GoSem.Claim
import GoSem.ClaimJoined
import GoSem.ClaimMapViews
import Derived.JoinedTies
import Derived.KernelRfl
namespace Go.Proofs.Ytmdeoobmeokmeaa
/- THE CELL 'sum', in the pinned program and in every row, IS THE sha256 OF THE DUMP (.gsa) THAT YtmdeoobmeokmeaaProg.lean LOADS. Nothing in Lean hashes anything: it is a label: what it is worth is what the hold of that sum in a sandbox is worth. -/
noncomputable def Try.pinned : Pinned := { name := "ytmdeoobmeokmeaa", sum := "16b9e3b4b028f4cfc83fc89439b9a6c4a0d755ec4271fcf515b64c02bc422789", checked := Try.checked }
namespace Rows
def none {H : Type} : Left H := { results := [], args := [] }

/-- 'meniscuslaw01.BoreNexts': WHATEVER THE INPUT: true; the input reads as it did. -/
def boreNextsSpec : ChangeSpec := { name := "boreNexts", fn := fun _ => fun
  | [d1, d2, d3] => { results := [.lit (.bool true)], args := [d1, d2, d3] }
  | _ => none }
def boreNextsRow : OpenClaim := { program := "ytmdeoobmeokmeaa", sum := "16b9e3b4b028f4cfc83fc89439b9a6c4a0d755ec4271fcf515b64c02bc422789", func := "meniscus/meniscuslaw01.BoreNexts", spec := "boreNexts", unfollowed := true, recurses := true, plainKeys := false, apart := false }
def BoreNextsSaid : Prop := boreNextsRow.holds Try.pinned (OpenSpec.ofChange boreNextsSpec)

/-- ITS FALSE NEIGHBOUR: 'it returns false'. Refute it at one input. -/
def boreNextsWrong : ChangeSpec := { name := "boreNexts", fn := fun _ => fun
  | [d1, d2, d3] => { results := [.lit (.bool false)], args := [d1, d2, d3] }
  | _ => none }
def BoreNextsWrongFalsely : Prop := boreNextsRow.holds Try.pinned (OpenSpec.ofChange boreNextsWrong)

/-- 'meniscuslaw01.BoreMore': WHATEVER THE INPUT: true; the input reads as it did. -/
def boreMoreSpec : ChangeSpec := { name := "boreMore", fn := fun _ => fun
  | [d1, d2, d3, d4, d5] => { results := [.lit (.bool true)], args := [d1, d2, d3, d4, d5] }
  | _ => none }
def boreMoreRow : OpenClaim := { program := "ytmdeoobmeokmeaa", sum := "16b9e3b4b028f4cfc83fc89439b9a6c4a0d755ec4271fcf515b64c02bc422789", func := "meniscus/meniscuslaw01.BoreMore", spec := "boreMore", unfollowed := true, recurses := true, plainKeys := false, apart := false }
def BoreMoreSaid : Prop := boreMoreRow.holds Try.pinned (OpenSpec.ofChange boreMoreSpec)

/-- ITS FALSE NEIGHBOUR: 'it returns false'. Refute it at one input. -/
def boreMoreWrong : ChangeSpec := { name := "boreMore", fn := fun _ => fun
  | [d1, d2, d3, d4, d5] => { results := [.lit (.bool false)], args := [d1, d2, d3, d4, d5] }
  | _ => none }
def BoreMoreWrongFalsely : Prop := boreMoreRow.holds Try.pinned (OpenSpec.ofChange boreMoreWrong)

/-- 'meniscuslaw01.BoreFree': WHATEVER THE INPUT: true; the input reads as it did. -/
def boreFreeSpec : ChangeSpec := { name := "boreFree", fn := fun _ => fun
  | [d] => { results := [.lit (.bool true)], args := [d] }
  | _ => none }
def boreFreeRow : OpenClaim := { program := "ytmdeoobmeokmeaa", sum := "16b9e3b4b028f4cfc83fc89439b9a6c4a0d755ec4271fcf515b64c02bc422789", func := "meniscus/meniscuslaw01.BoreFree", spec := "boreFree", unfollowed := true, recurses := true, plainKeys := false, apart := false }
def BoreFreeSaid : Prop := boreFreeRow.holds Try.pinned (OpenSpec.ofChange boreFreeSpec)

/-- ITS FALSE NEIGHBOUR: 'it returns false'. Refute it at one input. -/
def boreFreeWrong : ChangeSpec := { name := "boreFree", fn := fun _ => fun
  | [d] => { results := [.lit (.bool false)], args := [d] }
  | _ => none }
def BoreFreeWrongFalsely : Prop := boreFreeRow.holds Try.pinned (OpenSpec.ofChange boreFreeWrong)

/-- 'meniscuslaw01.BoreScaled': WHATEVER THE INPUT: true; the input reads as it did. -/
def boreScaledSpec : ChangeSpec := { name := "boreScaled", fn := fun _ => fun
  | [d1, d2, d3, d4] => { results := [.lit (.bool true)], args := [d1, d2, d3, d4] }
  | _ => none }
def boreScaledRow : OpenClaim := { program := "ytmdeoobmeokmeaa", sum := "16b9e3b4b028f4cfc83fc89439b9a6c4a0d755ec4271fcf515b64c02bc422789", func := "meniscus/meniscuslaw01.BoreScaled", spec := "boreScaled", unfollowed := true, recurses := true, plainKeys := false, apart := false }
def BoreScaledSaid : Prop := boreScaledRow.holds Try.pinned (OpenSpec.ofChange boreScaledSpec)

/-- ITS FALSE NEIGHBOUR: 'it returns false'. Refute it at one input. -/
def boreScaledWrong : ChangeSpec := { name := "boreScaled", fn := fun _ => fun
  | [d1, d2, d3, d4] => { results := [.lit (.bool false)], args := [d1, d2, d3, d4] }
  | _ => none }
def BoreScaledWrongFalsely : Prop := boreScaledRow.holds Try.pinned (OpenSpec.ofChange boreScaledWrong)

/-- 'meniscuslaw01.BoreHeights': WHATEVER THE INPUT: true; the input reads as it did. -/
def boreHeightsSpec : ChangeSpec := { name := "boreHeights", fn := fun _ => fun
  | [d1, d2] => { results := [.lit (.bool true)], args := [d1, d2] }
  | _ => none }
def boreHeightsRow : OpenClaim := { program := "ytmdeoobmeokmeaa", sum := "16b9e3b4b028f4cfc83fc89439b9a6c4a0d755ec4271fcf515b64c02bc422789", func := "meniscus/meniscuslaw01.BoreHeights", spec := "boreHeights", unfollowed := true, recurses := true, plainKeys := false, apart := false }
def BoreHeightsSaid : Prop := boreHeightsRow.holds Try.pinned (OpenSpec.ofChange boreHeightsSpec)

/-- ITS FALSE NEIGHBOUR: 'it returns false'. Refute it at one input. -/
def boreHeightsWrong : ChangeSpec := { name := "boreHeights", fn := fun _ => fun
  | [d1, d2] => { results := [.lit (.bool false)], args := [d1, d2] }
  | _ => none }
def BoreHeightsWrongFalsely : Prop := boreHeightsRow.holds Try.pinned (OpenSpec.ofChange boreHeightsWrong)

/-- 'meniscuslaw01.BoreNext': WHATEVER THE INPUT: true; the input reads as it did. -/
def boreNextSpec : ChangeSpec := { name := "boreNext", fn := fun _ => fun
  | [d1, d2, d3, d4] => { results := [.lit (.bool true)], args := [d1, d2, d3, d4] }
  | _ => none }
def boreNextRow : OpenClaim := { program := "ytmdeoobmeokmeaa", sum := "16b9e3b4b028f4cfc83fc89439b9a6c4a0d755ec4271fcf515b64c02bc422789", func := "meniscus/meniscuslaw01.BoreNext", spec := "boreNext", unfollowed := true, recurses := true, plainKeys := false, apart := false }
def BoreNextSaid : Prop := boreNextRow.holds Try.pinned (OpenSpec.ofChange boreNextSpec)

/-- ITS FALSE NEIGHBOUR: 'it returns false'. Refute it at one input. -/
def boreNextWrong : ChangeSpec := { name := "boreNext", fn := fun _ => fun
  | [d1, d2, d3, d4] => { results := [.lit (.bool false)], args := [d1, d2, d3, d4] }
  | _ => none }
def BoreNextWrongFalsely : Prop := boreNextRow.holds Try.pinned (OpenSpec.ofChange boreNextWrong)

/-- 'meniscuslaw01.BoreShows': WHATEVER THE INPUT: true; the input reads as it did. -/
def boreShowsSpec : ChangeSpec := { name := "boreShows", fn := fun _ => fun
  | [d1, d2, d3, d4] => { results := [.lit (.bool true)], args := [d1, d2, d3, d4] }
  | _ => none }
def boreShowsRow : OpenClaim := { program := "ytmdeoobmeokmeaa", sum := "16b9e3b4b028f4cfc83fc89439b9a6c4a0d755ec4271fcf515b64c02bc422789", func := "meniscus/meniscuslaw01.BoreShows", spec := "boreShows", unfollowed := true, recurses := true, plainKeys := false, apart := false }
def BoreShowsSaid : Prop := boreShowsRow.holds Try.pinned (OpenSpec.ofChange boreShowsSpec)

/-- ITS FALSE NEIGHBOUR: 'it returns false'. Refute it at one input. -/
def boreShowsWrong : ChangeSpec := { name := "boreShows", fn := fun _ => fun
  | [d1, d2, d3, d4] => { results := [.lit (.bool false)], args := [d1, d2, d3, d4] }
  | _ => none }
def BoreShowsWrongFalsely : Prop := boreShowsRow.holds Try.pinned (OpenSpec.ofChange boreShowsWrong)

/-- 'meniscuslaw01.BoreEnds': WHATEVER THE INPUT: true; the input reads as it did. -/
def boreEndsSpec : ChangeSpec := { name := "boreEnds", fn := fun _ => fun
  | [d1, d2, d3] => { results := [.lit (.bool true)], args := [d1, d2, d3] }
  | _ => none }
def boreEndsRow : OpenClaim := { program := "ytmdeoobmeokmeaa", sum := "16b9e3b4b028f4cfc83fc89439b9a6c4a0d755ec4271fcf515b64c02bc422789", func := "meniscus/meniscuslaw01.BoreEnds", spec := "boreEnds", unfollowed := true, recurses := true, plainKeys := false, apart := false }
def BoreEndsSaid : Prop := boreEndsRow.holds Try.pinned (OpenSpec.ofChange boreEndsSpec)

/-- ITS FALSE NEIGHBOUR: 'it returns false'. Refute it at one input. -/
def boreEndsWrong : ChangeSpec := { name := "boreEnds", fn := fun _ => fun
  | [d1, d2, d3] => { results := [.lit (.bool false)], args := [d1, d2, d3] }
  | _ => none }
def BoreEndsWrongFalsely : Prop := boreEndsRow.holds Try.pinned (OpenSpec.ofChange boreEndsWrong)

/-- 'meniscuslaw01.BoreProves': WHATEVER THE INPUT: true; the input reads as it did. -/
def boreProvesSpec : ChangeSpec := { name := "boreProves", fn := fun _ => fun
  | [d1, d2, d3] => { results := [.lit (.bool true)], args := [d1, d2, d3] }
  | _ => none }
def boreProvesRow : OpenClaim := { program := "ytmdeoobmeokmeaa", sum := "16b9e3b4b028f4cfc83fc89439b9a6c4a0d755ec4271fcf515b64c02bc422789", func := "meniscus/meniscuslaw01.BoreProves", spec := "boreProves", unfollowed := true, recurses := true, plainKeys := false, apart := false }
def BoreProvesSaid : Prop := boreProvesRow.holds Try.pinned (OpenSpec.ofChange boreProvesSpec)

/-- ITS FALSE NEIGHBOUR: 'it returns false'. Refute it at one input. -/
def boreProvesWrong : ChangeSpec := { name := "boreProves", fn := fun _ => fun
  | [d1, d2, d3] => { results := [.lit (.bool false)], args := [d1, d2, d3] }
  | _ => none }
def BoreProvesWrongFalsely : Prop := boreProvesRow.holds Try.pinned (OpenSpec.ofChange boreProvesWrong)

/-- 'meniscuslaw01.BoreTruth': WHATEVER THE INPUT: true; the input reads as it did. -/
def boreTruthSpec : ChangeSpec := { name := "boreTruth", fn := fun _ => fun
  | [d1, d2, d3] => { results := [.lit (.bool true)], args := [d1, d2, d3] }
  | _ => none }
def boreTruthRow : OpenClaim := { program := "ytmdeoobmeokmeaa", sum := "16b9e3b4b028f4cfc83fc89439b9a6c4a0d755ec4271fcf515b64c02bc422789", func := "meniscus/meniscuslaw01.BoreTruth", spec := "boreTruth", unfollowed := true, recurses := true, plainKeys := false, apart := false }
def BoreTruthSaid : Prop := boreTruthRow.holds Try.pinned (OpenSpec.ofChange boreTruthSpec)

/-- ITS FALSE NEIGHBOUR: 'it returns false'. Refute it at one input. -/
def boreTruthWrong : ChangeSpec := { name := "boreTruth", fn := fun _ => fun
  | [d1, d2, d3] => { results := [.lit (.bool false)], args := [d1, d2, d3] }
  | _ => none }
def BoreTruthWrongFalsely : Prop := boreTruthRow.holds Try.pinned (OpenSpec.ofChange boreTruthWrong)

/-- 'meniscuslaw01.BoreKnots': WHATEVER THE INPUT: true; the input reads as it did. -/
def boreKnotsSpec : ChangeSpec := { name := "boreKnots", fn := fun _ => fun
  | [d1, d2, d3] => { results := [.lit (.bool true)], args := [d1, d2, d3] }
  | _ => none }
def boreKnotsRow : OpenClaim := { program := "ytmdeoobmeokmeaa", sum := "16b9e3b4b028f4cfc83fc89439b9a6c4a0d755ec4271fcf515b64c02bc422789", func := "meniscus/meniscuslaw01.BoreKnots", spec := "boreKnots", unfollowed := true, recurses := true, plainKeys := false, apart := false }
def BoreKnotsSaid : Prop := boreKnotsRow.holds Try.pinned (OpenSpec.ofChange boreKnotsSpec)

/-- ITS FALSE NEIGHBOUR: 'it returns false'. Refute it at one input. -/
def boreKnotsWrong : ChangeSpec := { name := "boreKnots", fn := fun _ => fun
  | [d1, d2, d3] => { results := [.lit (.bool false)], args := [d1, d2, d3] }
  | _ => none }
def BoreKnotsWrongFalsely : Prop := boreKnotsRow.holds Try.pinned (OpenSpec.ofChange boreKnotsWrong)

/-- 'meniscuslaw01.BoreBlames': WHATEVER THE INPUT: true; the input reads as it did. -/
def boreBlamesSpec : ChangeSpec := { name := "boreBlames", fn := fun _ => fun
  | [d1, d2] => { results := [.lit (.bool true)], args := [d1, d2] }
  | _ => none }
def boreBlamesRow : OpenClaim := { program := "ytmdeoobmeokmeaa", sum := "16b9e3b4b028f4cfc83fc89439b9a6c4a0d755ec4271fcf515b64c02bc422789", func := "meniscus/meniscuslaw01.BoreBlames", spec := "boreBlames", unfollowed := true, recurses := true, plainKeys := false, apart := false }
def BoreBlamesSaid : Prop := boreBlamesRow.holds Try.pinned (OpenSpec.ofChange boreBlamesSpec)

/-- ITS FALSE NEIGHBOUR: 'it returns false'. Refute it at one input. -/
def boreBlamesWrong : ChangeSpec := { name := "boreBlames", fn := fun _ => fun
  | [d1, d2] => { results := [.lit (.bool false)], args := [d1, d2] }
  | _ => none }
def BoreBlamesWrongFalsely : Prop := boreBlamesRow.holds Try.pinned (OpenSpec.ofChange boreBlamesWrong)

/-- 'meniscuslaw01.BoreOrder': WHATEVER THE INPUT: true; the input reads as it did. -/
def boreOrderSpec : ChangeSpec := { name := "boreOrder", fn := fun _ => fun
  | [d1, d2, d3] => { results := [.lit (.bool true)], args := [d1, d2, d3] }
  | _ => none }
def boreOrderRow : OpenClaim := { program := "ytmdeoobmeokmeaa", sum := "16b9e3b4b028f4cfc83fc89439b9a6c4a0d755ec4271fcf515b64c02bc422789", func := "meniscus/meniscuslaw01.BoreOrder", spec := "boreOrder", unfollowed := true, recurses := true, plainKeys := false, apart := false }
def BoreOrderSaid : Prop := boreOrderRow.holds Try.pinned (OpenSpec.ofChange boreOrderSpec)

/-- ITS FALSE NEIGHBOUR: 'it returns false'. Refute it at one input. -/
def boreOrderWrong : ChangeSpec := { name := "boreOrder", fn := fun _ => fun
  | [d1, d2, d3] => { results := [.lit (.bool false)], args := [d1, d2, d3] }
  | _ => none }
def BoreOrderWrongFalsely : Prop := boreOrderRow.holds Try.pinned (OpenSpec.ofChange boreOrderWrong)

/-- 'meniscuslaw01.BoreFewest': WHATEVER THE INPUT: true; the input reads as it did. -/
def boreFewestSpec : ChangeSpec := { name := "boreFewest", fn := fun _ => fun
  | [d1, d2, d3] => { results := [.lit (.bool true)], args := [d1, d2, d3] }
  | _ => none }
def boreFewestRow : OpenClaim := { program := "ytmdeoobmeokmeaa", sum := "16b9e3b4b028f4cfc83fc89439b9a6c4a0d755ec4271fcf515b64c02bc422789", func := "meniscus/meniscuslaw01.BoreFewest", spec := "boreFewest", unfollowed := true, recurses := true, plainKeys := false, apart := false }
def BoreFewestSaid : Prop := boreFewestRow.holds Try.pinned (OpenSpec.ofChange boreFewestSpec)

/-- ITS FALSE NEIGHBOUR: 'it returns false'. Refute it at one input. -/
def boreFewestWrong : ChangeSpec := { name := "boreFewest", fn := fun _ => fun
  | [d1, d2, d3] => { results := [.lit (.bool false)], args := [d1, d2, d3] }
  | _ => none }
def BoreFewestWrongFalsely : Prop := boreFewestRow.holds Try.pinned (OpenSpec.ofChange boreFewestWrong)

/-- 'meniscuslaw01.BoreKnot': WHATEVER THE INPUT: true; the input reads as it did. -/
def boreKnotSpec : ChangeSpec := { name := "boreKnot", fn := fun _ => fun
  | [d1, d2, d3] => { results := [.lit (.bool true)], args := [d1, d2, d3] }
  | _ => none }
def boreKnotRow : OpenClaim := { program := "ytmdeoobmeokmeaa", sum := "16b9e3b4b028f4cfc83fc89439b9a6c4a0d755ec4271fcf515b64c02bc422789", func := "meniscus/meniscuslaw01.BoreKnot", spec := "boreKnot", unfollowed := true, recurses := true, plainKeys := false, apart := false }
def BoreKnotSaid : Prop := boreKnotRow.holds Try.pinned (OpenSpec.ofChange boreKnotSpec)

/-- ITS FALSE NEIGHBOUR: 'it returns false'. Refute it at one input. -/
def boreKnotWrong : ChangeSpec := { name := "boreKnot", fn := fun _ => fun
  | [d1, d2, d3] => { results := [.lit (.bool false)], args := [d1, d2, d3] }
  | _ => none }
def BoreKnotWrongFalsely : Prop := boreKnotRow.holds Try.pinned (OpenSpec.ofChange boreKnotWrong)

/-- 'meniscuslaw01.BoreNames': WHATEVER THE INPUT: true; the input reads as it did. -/
def boreNamesSpec : ChangeSpec := { name := "boreNames", fn := fun _ => fun
  | [] => { results := [.lit (.bool true)], args := [] }
  | _ => none }
def boreNamesRow : OpenClaim := { program := "ytmdeoobmeokmeaa", sum := "16b9e3b4b028f4cfc83fc89439b9a6c4a0d755ec4271fcf515b64c02bc422789", func := "meniscus/meniscuslaw01.BoreNames", spec := "boreNames", unfollowed := true, recurses := true, plainKeys := false, apart := false }
def BoreNamesSaid : Prop := boreNamesRow.holds Try.pinned (OpenSpec.ofChange boreNamesSpec)

/-- ITS FALSE NEIGHBOUR: 'it returns false'. Refute it at one input. -/
def boreNamesWrong : ChangeSpec := { name := "boreNames", fn := fun _ => fun
  | [] => { results := [.lit (.bool false)], args := [] }
  | _ => none }
def BoreNamesWrongFalsely : Prop := boreNamesRow.holds Try.pinned (OpenSpec.ofChange boreNamesWrong)

/- THE SECOND FORM. 'bulk': how many values and letters a reading holds, each counted each time it is reached (what is shared counts as often as it is met; a slice's spare places count too). A statement '..UptoSaid' is the law's where the arguments, and the package variables that the reading takes, are together of bulk at most 1048576: NARROWER than '..Said'. Prove '..Said' where nothing that the law and all that it calls make is longer than what came in: it says more and counts as full. Else prove '..UptoSaid'. A law counts once. -/
mutual
def uptoBulk {H : Type} : DataW H → Nat
  | .lit (.string bytes) => bytes.length + 1
  | .lit _ => 1
  | .nil => 1
  | .ptr d => uptoBulk d + 1
  | .slice elems spare => uptoBulkAll elems + uptoBulkAll spare + 1
  | .agg parts => uptoBulkAll parts + 1
  | .iface _ d => uptoBulk d + 1
  | .map entries => uptoBulkEntries entries + 1
  | .held _ => 1
def uptoBulkAll {H : Type} : List (DataW H) → Nat
  | [] => 0
  | d :: r => uptoBulk d + uptoBulkAll r
def uptoBulkEntries {H : Type} : List (Lit × DataW H) → Nat
  | [] => 0
  | x :: r => uptoBulkEntry x + uptoBulkEntries r
def uptoBulkEntry {H : Type} : Lit × DataW H → Nat
  | (.string bytes, d) => bytes.length + uptoBulk d + 1
  | (_, d) => uptoBulk d + 1
 end
def uptoSmall : (H : Type) → List (DataW H) → Bool := fun _ ds => decide (uptoBulkAll ds ≤ 1048576)
def OpenSpec.upto (s : _root_.Go.ChangeSpec) : _root_.Go.OpenSpec := { _root_.Go.OpenSpec.ofChange s with cond := some uptoSmall }

/-- 'meniscuslaw01.BoreNexts', WHERE WHAT IT READS IS OF BULK AT MOST 1048576: true; the input reads as it did. -/
def boreNextsUptoRow : OpenClaim := { program := "ytmdeoobmeokmeaa", sum := "16b9e3b4b028f4cfc83fc89439b9a6c4a0d755ec4271fcf515b64c02bc422789", func := "meniscus/meniscuslaw01.BoreNexts", spec := "boreNexts", unfollowed := true, recurses := true, plainKeys := false, apart := false, narrowed := true }
def BoreNextsUptoSaid : Prop := boreNextsUptoRow.holds Try.pinned (OpenSpec.upto boreNextsSpec)

/-- 'meniscuslaw01.BoreMore', WHERE WHAT IT READS IS OF BULK AT MOST 1048576: true; the input reads as it did. -/
def boreMoreUptoRow : OpenClaim := { program := "ytmdeoobmeokmeaa", sum := "16b9e3b4b028f4cfc83fc89439b9a6c4a0d755ec4271fcf515b64c02bc422789", func := "meniscus/meniscuslaw01.BoreMore", spec := "boreMore", unfollowed := true, recurses := true, plainKeys := false, apart := false, narrowed := true }
def BoreMoreUptoSaid : Prop := boreMoreUptoRow.holds Try.pinned (OpenSpec.upto boreMoreSpec)

/-- 'meniscuslaw01.BoreFree', WHERE WHAT IT READS IS OF BULK AT MOST 1048576: true; the input reads as it did. -/
def boreFreeUptoRow : OpenClaim := { program := "ytmdeoobmeokmeaa", sum := "16b9e3b4b028f4cfc83fc89439b9a6c4a0d755ec4271fcf515b64c02bc422789", func := "meniscus/meniscuslaw01.BoreFree", spec := "boreFree", unfollowed := true, recurses := true, plainKeys := false, apart := false, narrowed := true }
def BoreFreeUptoSaid : Prop := boreFreeUptoRow.holds Try.pinned (OpenSpec.upto boreFreeSpec)

/-- 'meniscuslaw01.BoreScaled', WHERE WHAT IT READS IS OF BULK AT MOST 1048576: true; the input reads as it did. -/
def boreScaledUptoRow : OpenClaim := { program := "ytmdeoobmeokmeaa", sum := "16b9e3b4b028f4cfc83fc89439b9a6c4a0d755ec4271fcf515b64c02bc422789", func := "meniscus/meniscuslaw01.BoreScaled", spec := "boreScaled", unfollowed := true, recurses := true, plainKeys := false, apart := false, narrowed := true }
def BoreScaledUptoSaid : Prop := boreScaledUptoRow.holds Try.pinned (OpenSpec.upto boreScaledSpec)

/-- 'meniscuslaw01.BoreHeights', WHERE WHAT IT READS IS OF BULK AT MOST 1048576: true; the input reads as it did. -/
def boreHeightsUptoRow : OpenClaim := { program := "ytmdeoobmeokmeaa", sum := "16b9e3b4b028f4cfc83fc89439b9a6c4a0d755ec4271fcf515b64c02bc422789", func := "meniscus/meniscuslaw01.BoreHeights", spec := "boreHeights", unfollowed := true, recurses := true, plainKeys := false, apart := false, narrowed := true }
def BoreHeightsUptoSaid : Prop := boreHeightsUptoRow.holds Try.pinned (OpenSpec.upto boreHeightsSpec)

/-- 'meniscuslaw01.BoreNext', WHERE WHAT IT READS IS OF BULK AT MOST 1048576: true; the input reads as it did. -/
def boreNextUptoRow : OpenClaim := { program := "ytmdeoobmeokmeaa", sum := "16b9e3b4b028f4cfc83fc89439b9a6c4a0d755ec4271fcf515b64c02bc422789", func := "meniscus/meniscuslaw01.BoreNext", spec := "boreNext", unfollowed := true, recurses := true, plainKeys := false, apart := false, narrowed := true }
def BoreNextUptoSaid : Prop := boreNextUptoRow.holds Try.pinned (OpenSpec.upto boreNextSpec)

/-- 'meniscuslaw01.BoreShows', WHERE WHAT IT READS IS OF BULK AT MOST 1048576: true; the input reads as it did. -/
def boreShowsUptoRow : OpenClaim := { program := "ytmdeoobmeokmeaa", sum := "16b9e3b4b028f4cfc83fc89439b9a6c4a0d755ec4271fcf515b64c02bc422789", func := "meniscus/meniscuslaw01.BoreShows", spec := "boreShows", unfollowed := true, recurses := true, plainKeys := false, apart := false, narrowed := true }
def BoreShowsUptoSaid : Prop := boreShowsUptoRow.holds Try.pinned (OpenSpec.upto boreShowsSpec)

/-- 'meniscuslaw01.BoreEnds', WHERE WHAT IT READS IS OF BULK AT MOST 1048576: true; the input reads as it did. -/
def boreEndsUptoRow : OpenClaim := { program := "ytmdeoobmeokmeaa", sum := "16b9e3b4b028f4cfc83fc89439b9a6c4a0d755ec4271fcf515b64c02bc422789", func := "meniscus/meniscuslaw01.BoreEnds", spec := "boreEnds", unfollowed := true, recurses := true, plainKeys := false, apart := false, narrowed := true }
def BoreEndsUptoSaid : Prop := boreEndsUptoRow.holds Try.pinned (OpenSpec.upto boreEndsSpec)

/-- 'meniscuslaw01.BoreProves', WHERE WHAT IT READS IS OF BULK AT MOST 1048576: true; the input reads as it did. -/
def boreProvesUptoRow : OpenClaim := { program := "ytmdeoobmeokmeaa", sum := "16b9e3b4b028f4cfc83fc89439b9a6c4a0d755ec4271fcf515b64c02bc422789", func := "meniscus/meniscuslaw01.BoreProves", spec := "boreProves", unfollowed := true, recurses := true, plainKeys := false, apart := false, narrowed := true }
def BoreProvesUptoSaid : Prop := boreProvesUptoRow.holds Try.pinned (OpenSpec.upto boreProvesSpec)

/-- 'meniscuslaw01.BoreTruth', WHERE WHAT IT READS IS OF BULK AT MOST 1048576: true; the input reads as it did. -/
def boreTruthUptoRow : OpenClaim := { program := "ytmdeoobmeokmeaa", sum := "16b9e3b4b028f4cfc83fc89439b9a6c4a0d755ec4271fcf515b64c02bc422789", func := "meniscus/meniscuslaw01.BoreTruth", spec := "boreTruth", unfollowed := true, recurses := true, plainKeys := false, apart := false, narrowed := true }
def BoreTruthUptoSaid : Prop := boreTruthUptoRow.holds Try.pinned (OpenSpec.upto boreTruthSpec)

/-- 'meniscuslaw01.BoreKnots', WHERE WHAT IT READS IS OF BULK AT MOST 1048576: true; the input reads as it did. -/
def boreKnotsUptoRow : OpenClaim := { program := "ytmdeoobmeokmeaa", sum := "16b9e3b4b028f4cfc83fc89439b9a6c4a0d755ec4271fcf515b64c02bc422789", func := "meniscus/meniscuslaw01.BoreKnots", spec := "boreKnots", unfollowed := true, recurses := true, plainKeys := false, apart := false, narrowed := true }
def BoreKnotsUptoSaid : Prop := boreKnotsUptoRow.holds Try.pinned (OpenSpec.upto boreKnotsSpec)

/-- 'meniscuslaw01.BoreBlames', WHERE WHAT IT READS IS OF BULK AT MOST 1048576: true; the input reads as it did. -/
def boreBlamesUptoRow : OpenClaim := { program := "ytmdeoobmeokmeaa", sum := "16b9e3b4b028f4cfc83fc89439b9a6c4a0d755ec4271fcf515b64c02bc422789", func := "meniscus/meniscuslaw01.BoreBlames", spec := "boreBlames", unfollowed := true, recurses := true, plainKeys := false, apart := false, narrowed := true }
def BoreBlamesUptoSaid : Prop := boreBlamesUptoRow.holds Try.pinned (OpenSpec.upto boreBlamesSpec)

/-- 'meniscuslaw01.BoreOrder', WHERE WHAT IT READS IS OF BULK AT MOST 1048576: true; the input reads as it did. -/
def boreOrderUptoRow : OpenClaim := { program := "ytmdeoobmeokmeaa", sum := "16b9e3b4b028f4cfc83fc89439b9a6c4a0d755ec4271fcf515b64c02bc422789", func := "meniscus/meniscuslaw01.BoreOrder", spec := "boreOrder", unfollowed := true, recurses := true, plainKeys := false, apart := false, narrowed := true }
def BoreOrderUptoSaid : Prop := boreOrderUptoRow.holds Try.pinned (OpenSpec.upto boreOrderSpec)

/-- 'meniscuslaw01.BoreFewest', WHERE WHAT IT READS IS OF BULK AT MOST 1048576: true; the input reads as it did. -/
def boreFewestUptoRow : OpenClaim := { program := "ytmdeoobmeokmeaa", sum := "16b9e3b4b028f4cfc83fc89439b9a6c4a0d755ec4271fcf515b64c02bc422789", func := "meniscus/meniscuslaw01.BoreFewest", spec := "boreFewest", unfollowed := true, recurses := true, plainKeys := false, apart := false, narrowed := true }
def BoreFewestUptoSaid : Prop := boreFewestUptoRow.holds Try.pinned (OpenSpec.upto boreFewestSpec)

/-- 'meniscuslaw01.BoreKnot', WHERE WHAT IT READS IS OF BULK AT MOST 1048576: true; the input reads as it did. -/
def boreKnotUptoRow : OpenClaim := { program := "ytmdeoobmeokmeaa", sum := "16b9e3b4b028f4cfc83fc89439b9a6c4a0d755ec4271fcf515b64c02bc422789", func := "meniscus/meniscuslaw01.BoreKnot", spec := "boreKnot", unfollowed := true, recurses := true, plainKeys := false, apart := false, narrowed := true }
def BoreKnotUptoSaid : Prop := boreKnotUptoRow.holds Try.pinned (OpenSpec.upto boreKnotSpec)

/-- 'meniscuslaw01.BoreNames', WHERE WHAT IT READS IS OF BULK AT MOST 1048576: true; the input reads as it did. -/
def boreNamesUptoRow : OpenClaim := { program := "ytmdeoobmeokmeaa", sum := "16b9e3b4b028f4cfc83fc89439b9a6c4a0d755ec4271fcf515b64c02bc422789", func := "meniscus/meniscuslaw01.BoreNames", spec := "boreNames", unfollowed := true, recurses := true, plainKeys := false, apart := false, narrowed := true }
def BoreNamesUptoSaid : Prop := boreNamesUptoRow.holds Try.pinned (OpenSpec.upto boreNamesSpec)

end Rows
end Go.Proofs.Ytmdeoobmeokmeaa
