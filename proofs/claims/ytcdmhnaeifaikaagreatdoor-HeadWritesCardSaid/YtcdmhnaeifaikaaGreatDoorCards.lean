/-
  DERIVED. GIVEN WITH THE SEED: THE CARDS: each row of YtcdmhnaeifaikaaGreatDoorRows.lean that lists a variable, with what it lists TIED to the program's text (the seventh form; the later family's looks); each row that meets fmt, with fmt's text TOLD by the authors' own Lean function (tested against real Go, not proved from fmt's source: count such statements apart). THE CARD IS WHAT COUNTS. Prove the row's statement (the work); the ties are given (YtcdmhnaeifaikaaGreatDoorTie.lean); close each card by the builder's one call (the guide's Derived/Test/ToyasCard.lean, 'card_holds'). Laid BY PROGRAM, IN A SANDBOX (cutbox-door.mjs). By AI agents, Wed Nov 11 2026. No macro, syntax, notation, axiom, sorry.
-/
import Derived.Test.YtcdmhnaeifaikaaGreatDoorRows
import GoSem.ClaimSeven
namespace Go.Proofs.YtcdmhnaeifaikaaGreatDoor
namespace Rows

/-- THE TIED CARD OF 'meniscuslaw12.HeadWrites'. -/
def headWritesCard : Claim7 := { stood := { row := headWritesRow, standIns := [], harness := (true, "871208194054d8055edf234d398f012bb336ef30ee86009be4d89f2c628ca094"), looks := true }, kinds := [], alts := [], laidByText := true, laidKinds := [.data, .data, .data, .data, .sentinel, .sentinel, .pinned], laidTests := true, laidLooks := .later }
def HeadWritesCardSaid : Prop := Claim7.holds Tryz.pinned (.plain (OpenSpec.ofChange headWritesSpec)) headWritesCard

/-- THE SECOND FORM's CARD OF 'meniscuslaw12.HeadWrites'. -/
def headWritesUptoCard : Claim7 := { stood := { row := headWritesUptoRow, standIns := [], harness := (true, "871208194054d8055edf234d398f012bb336ef30ee86009be4d89f2c628ca094"), looks := true }, kinds := [], alts := [], laidByText := true, laidKinds := [.data, .data, .data, .data, .sentinel, .sentinel, .pinned], laidTests := true, laidLooks := .later }
def HeadWritesUptoCardSaid : Prop := Claim7.holds Tryz.pinned (.plain (OpenSpec.upto headWritesSpec)) headWritesUptoCard
end Rows
end Go.Proofs.YtcdmhnaeifaikaaGreatDoor
