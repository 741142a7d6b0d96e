/-
  DERIVED. GIVEN WITH THE SEED: THE CARDS: each row of YtakpdkmhclhlnaaGreatDoorRows.lean that lists a variable, with what it lists TIED to the program's text (the seventh form; the later family's looks); each row that meets fmt, with fmt's text TOLD by the authors' own Lean function (tested against real Go, not proved from fmt's source: count such statements apart). THE CARD IS WHAT COUNTS. Prove the row's statement (the work); the ties are given (YtakpdkmhclhlnaaGreatDoorTie.lean); close each card by the builder's one call (the guide's Derived/Test/ToyasCard.lean, 'card_holds'). Laid BY PROGRAM, IN A SANDBOX (cutbox-door.mjs). By AI agents, Wed Nov 11 2026. No macro, syntax, notation, axiom, sorry.
-/
import Derived.Test.YtakpdkmhclhlnaaGreatDoorRows
import GoSem.ClaimSeven
namespace Go.Proofs.YtakpdkmhclhlnaaGreatDoor
namespace Rows

/-- THE TIED CARD OF 'meniscuslaw12.HeadNames'. -/
def headNamesCard : Claim7 := { stood := { row := headNamesRow, standIns := [], harness := (true, "25354a267e8b729063c53146fedf9b6182b778ce7730d5417b2bee6ec6d16557"), looks := true }, kinds := [], alts := [], laidByText := true, laidKinds := [.data, .data, .data, .data, .sentinel, .sentinel, .pinned], laidTests := true, laidLooks := .later }
def HeadNamesCardSaid : Prop := Claim7.holds Tryz.pinned (.plain (OpenSpec.ofChange headNamesSpec)) headNamesCard

/-- THE TIED CARD OF 'meniscuslaw12.HeadTrue'. -/
def headTrueCard : Claim7 := { stood := { row := headTrueRow, standIns := [], harness := (true, "25354a267e8b729063c53146fedf9b6182b778ce7730d5417b2bee6ec6d16557"), looks := true }, kinds := [], alts := [], laidByText := true, laidKinds := [.data, .data, .data, .data, .sentinel, .sentinel, .pinned], laidTests := true, laidLooks := .later }
def HeadTrueCardSaid : Prop := Claim7.holds Tryz.pinned (.plain (OpenSpec.ofChange headTrueSpec)) headTrueCard

/-- THE TIED CARD OF 'meniscuslaw12.HeadIssued'. -/
def headIssuedCard : Claim7 := { stood := { row := headIssuedRow, standIns := [], harness := (true, "25354a267e8b729063c53146fedf9b6182b778ce7730d5417b2bee6ec6d16557"), looks := true }, kinds := [], alts := [], laidByText := true, laidKinds := [.data, .data, .data, .data, .sentinel, .sentinel, .pinned], laidTests := true, laidLooks := .later }
def HeadIssuedCardSaid : Prop := Claim7.holds Tryz.pinned (.plain (OpenSpec.ofChange headIssuedSpec)) headIssuedCard

/-- THE TIED CARD OF 'meniscuslaw12.HeadThreads'. -/
def headThreadsCard : Claim7 := { stood := { row := headThreadsRow, standIns := [], harness := (true, "25354a267e8b729063c53146fedf9b6182b778ce7730d5417b2bee6ec6d16557"), looks := true }, kinds := [], alts := [], laidByText := true, laidKinds := [.data, .data, .data, .data, .sentinel, .sentinel, .pinned], laidTests := true, laidLooks := .later }
def HeadThreadsCardSaid : Prop := Claim7.holds Tryz.pinned (.plain (OpenSpec.ofChange headThreadsSpec)) headThreadsCard

/-- THE TIED CARD OF 'meniscuslaw12.HeadVoid'. -/
def headVoidCard : Claim7 := { stood := { row := headVoidRow, standIns := [], harness := (true, "25354a267e8b729063c53146fedf9b6182b778ce7730d5417b2bee6ec6d16557"), looks := true }, kinds := [], alts := [], laidByText := true, laidKinds := [.data, .data, .data, .data, .sentinel, .sentinel, .pinned], laidTests := true, laidLooks := .later }
def HeadVoidCardSaid : Prop := Claim7.holds Tryz.pinned (.plain (OpenSpec.ofChange headVoidSpec)) headVoidCard

/-- THE TIED CARD OF 'meniscuslaw12.HeadGoesOn'. -/
def headGoesOnCard : Claim7 := { stood := { row := headGoesOnRow, standIns := [], harness := (true, "25354a267e8b729063c53146fedf9b6182b778ce7730d5417b2bee6ec6d16557"), looks := true }, kinds := [], alts := [], laidByText := true, laidKinds := [.data, .data, .data, .data, .sentinel, .sentinel, .pinned], laidTests := true, laidLooks := .later }
def HeadGoesOnCardSaid : Prop := Claim7.holds Tryz.pinned (.plain (OpenSpec.ofChange headGoesOnSpec)) headGoesOnCard

/-- THE SECOND FORM's CARD OF 'meniscuslaw12.HeadNames'. -/
def headNamesUptoCard : Claim7 := { stood := { row := headNamesUptoRow, standIns := [], harness := (true, "25354a267e8b729063c53146fedf9b6182b778ce7730d5417b2bee6ec6d16557"), looks := true }, kinds := [], alts := [], laidByText := true, laidKinds := [.data, .data, .data, .data, .sentinel, .sentinel, .pinned], laidTests := true, laidLooks := .later }
def HeadNamesUptoCardSaid : Prop := Claim7.holds Tryz.pinned (.plain (OpenSpec.upto headNamesSpec)) headNamesUptoCard

/-- THE SECOND FORM's CARD OF 'meniscuslaw12.HeadTrue'. -/
def headTrueUptoCard : Claim7 := { stood := { row := headTrueUptoRow, standIns := [], harness := (true, "25354a267e8b729063c53146fedf9b6182b778ce7730d5417b2bee6ec6d16557"), looks := true }, kinds := [], alts := [], laidByText := true, laidKinds := [.data, .data, .data, .data, .sentinel, .sentinel, .pinned], laidTests := true, laidLooks := .later }
def HeadTrueUptoCardSaid : Prop := Claim7.holds Tryz.pinned (.plain (OpenSpec.upto headTrueSpec)) headTrueUptoCard

/-- THE SECOND FORM's CARD OF 'meniscuslaw12.HeadIssued'. -/
def headIssuedUptoCard : Claim7 := { stood := { row := headIssuedUptoRow, standIns := [], harness := (true, "25354a267e8b729063c53146fedf9b6182b778ce7730d5417b2bee6ec6d16557"), looks := true }, kinds := [], alts := [], laidByText := true, laidKinds := [.data, .data, .data, .data, .sentinel, .sentinel, .pinned], laidTests := true, laidLooks := .later }
def HeadIssuedUptoCardSaid : Prop := Claim7.holds Tryz.pinned (.plain (OpenSpec.upto headIssuedSpec)) headIssuedUptoCard

/-- THE SECOND FORM's CARD OF 'meniscuslaw12.HeadThreads'. -/
def headThreadsUptoCard : Claim7 := { stood := { row := headThreadsUptoRow, standIns := [], harness := (true, "25354a267e8b729063c53146fedf9b6182b778ce7730d5417b2bee6ec6d16557"), looks := true }, kinds := [], alts := [], laidByText := true, laidKinds := [.data, .data, .data, .data, .sentinel, .sentinel, .pinned], laidTests := true, laidLooks := .later }
def HeadThreadsUptoCardSaid : Prop := Claim7.holds Tryz.pinned (.plain (OpenSpec.upto headThreadsSpec)) headThreadsUptoCard

/-- THE SECOND FORM's CARD OF 'meniscuslaw12.HeadVoid'. -/
def headVoidUptoCard : Claim7 := { stood := { row := headVoidUptoRow, standIns := [], harness := (true, "25354a267e8b729063c53146fedf9b6182b778ce7730d5417b2bee6ec6d16557"), looks := true }, kinds := [], alts := [], laidByText := true, laidKinds := [.data, .data, .data, .data, .sentinel, .sentinel, .pinned], laidTests := true, laidLooks := .later }
def HeadVoidUptoCardSaid : Prop := Claim7.holds Tryz.pinned (.plain (OpenSpec.upto headVoidSpec)) headVoidUptoCard

/-- THE SECOND FORM's CARD OF 'meniscuslaw12.HeadGoesOn'. -/
def headGoesOnUptoCard : Claim7 := { stood := { row := headGoesOnUptoRow, standIns := [], harness := (true, "25354a267e8b729063c53146fedf9b6182b778ce7730d5417b2bee6ec6d16557"), looks := true }, kinds := [], alts := [], laidByText := true, laidKinds := [.data, .data, .data, .data, .sentinel, .sentinel, .pinned], laidTests := true, laidLooks := .later }
def HeadGoesOnUptoCardSaid : Prop := Claim7.holds Tryz.pinned (.plain (OpenSpec.upto headGoesOnSpec)) headGoesOnUptoCard
end Rows
end Go.Proofs.YtakpdkmhclhlnaaGreatDoor
