/-
  DERIVED. GIVEN WITH THE SEED: THE CARDS: each row of YtlclobclmfhlmaaGreatDoorRows.lean that lists a variable, with what it lists TIED to the program's text (the seventh form; the later family's looks); each row that meets fmt, with fmt's text TOLD by the authors' own Lean function (tested against real Go, not proved from fmt's source: count such statements apart). THE CARD IS WHAT COUNTS. Prove the row's statement (the work); the ties are given (YtlclobclmfhlmaaGreatDoorTie.lean); close each card by the builder's one call (the guide's Derived/Test/ToyasCard.lean, 'card_holds'). Laid BY PROGRAM, IN A SANDBOX (cutbox-door.mjs). By AI agents, Wed Nov 11 2026. No macro, syntax, notation, axiom, sorry.
-/
import Derived.Test.YtlclobclmfhlmaaGreatDoorRows
import GoSem.ClaimSeven
namespace Go.Proofs.YtlclobclmfhlmaaGreatDoor
namespace Rows

/-- THE TIED CARD OF 'meniscuslaw12.HeadReplays'. -/
def headReplaysCard : Claim7 := { stood := { row := headReplaysRow, standIns := [], harness := (true, "f2910bf3abd2768b3813542442328d62843d196e679e340d1b562eaa7d9a7e0d"), looks := true }, kinds := [], alts := [], laidByText := true, laidKinds := [.data, .data, .data, .data, .sentinel, .sentinel, .pinned], laidTests := true, laidLooks := .later }
def HeadReplaysCardSaid : Prop := Claim7.holds Tryz.pinned (.plain (OpenSpec.ofChange headReplaysSpec)) headReplaysCard

/-- THE TIED CARD OF 'meniscuslaw12.HeadAll'. -/
def headAllCard : Claim7 := { stood := { row := headAllRow, standIns := [], harness := (true, "f2910bf3abd2768b3813542442328d62843d196e679e340d1b562eaa7d9a7e0d"), looks := true }, kinds := [], alts := [], laidByText := true, laidKinds := [.data, .data, .data, .data, .sentinel, .sentinel, .pinned], laidTests := true, laidLooks := .later }
def HeadAllCardSaid : Prop := Claim7.holds Tryz.pinned (.plain (OpenSpec.ofChange headAllSpec)) headAllCard

/-- THE TIED CARD OF 'meniscuslaw12.HeadStops'. -/
def headStopsCard : Claim7 := { stood := { row := headStopsRow, standIns := [], harness := (true, "f2910bf3abd2768b3813542442328d62843d196e679e340d1b562eaa7d9a7e0d"), looks := true }, kinds := [], alts := [], laidByText := true, laidKinds := [.data, .data, .data, .data, .sentinel, .sentinel, .pinned], laidTests := true, laidLooks := .later }
def HeadStopsCardSaid : Prop := Claim7.holds Tryz.pinned (.plain (OpenSpec.ofChange headStopsSpec)) headStopsCard

/-- THE TIED CARD OF 'meniscuslaw12.HeadPlace'. -/
def headPlaceCard : Claim7 := { stood := { row := headPlaceRow, standIns := [], harness := (true, "f2910bf3abd2768b3813542442328d62843d196e679e340d1b562eaa7d9a7e0d"), looks := true }, kinds := [], alts := [], laidByText := true, laidKinds := [.data, .data, .data, .data, .sentinel, .sentinel, .pinned], laidTests := true, laidLooks := .later }
def HeadPlaceCardSaid : Prop := Claim7.holds Tryz.pinned (.plain (OpenSpec.ofChange headPlaceSpec)) headPlaceCard

/-- THE SECOND FORM's CARD OF 'meniscuslaw12.HeadReplays'. -/
def headReplaysUptoCard : Claim7 := { stood := { row := headReplaysUptoRow, standIns := [], harness := (true, "f2910bf3abd2768b3813542442328d62843d196e679e340d1b562eaa7d9a7e0d"), looks := true }, kinds := [], alts := [], laidByText := true, laidKinds := [.data, .data, .data, .data, .sentinel, .sentinel, .pinned], laidTests := true, laidLooks := .later }
def HeadReplaysUptoCardSaid : Prop := Claim7.holds Tryz.pinned (.plain (OpenSpec.upto headReplaysSpec)) headReplaysUptoCard

/-- THE SECOND FORM's CARD OF 'meniscuslaw12.HeadAll'. -/
def headAllUptoCard : Claim7 := { stood := { row := headAllUptoRow, standIns := [], harness := (true, "f2910bf3abd2768b3813542442328d62843d196e679e340d1b562eaa7d9a7e0d"), looks := true }, kinds := [], alts := [], laidByText := true, laidKinds := [.data, .data, .data, .data, .sentinel, .sentinel, .pinned], laidTests := true, laidLooks := .later }
def HeadAllUptoCardSaid : Prop := Claim7.holds Tryz.pinned (.plain (OpenSpec.upto headAllSpec)) headAllUptoCard

/-- THE SECOND FORM's CARD OF 'meniscuslaw12.HeadStops'. -/
def headStopsUptoCard : Claim7 := { stood := { row := headStopsUptoRow, standIns := [], harness := (true, "f2910bf3abd2768b3813542442328d62843d196e679e340d1b562eaa7d9a7e0d"), looks := true }, kinds := [], alts := [], laidByText := true, laidKinds := [.data, .data, .data, .data, .sentinel, .sentinel, .pinned], laidTests := true, laidLooks := .later }
def HeadStopsUptoCardSaid : Prop := Claim7.holds Tryz.pinned (.plain (OpenSpec.upto headStopsSpec)) headStopsUptoCard

/-- THE SECOND FORM's CARD OF 'meniscuslaw12.HeadPlace'. -/
def headPlaceUptoCard : Claim7 := { stood := { row := headPlaceUptoRow, standIns := [], harness := (true, "f2910bf3abd2768b3813542442328d62843d196e679e340d1b562eaa7d9a7e0d"), looks := true }, kinds := [], alts := [], laidByText := true, laidKinds := [.data, .data, .data, .data, .sentinel, .sentinel, .pinned], laidTests := true, laidLooks := .later }
def HeadPlaceUptoCardSaid : Prop := Claim7.holds Tryz.pinned (.plain (OpenSpec.upto headPlaceSpec)) headPlaceUptoCard
end Rows
end Go.Proofs.YtlclobclmfhlmaaGreatDoor
