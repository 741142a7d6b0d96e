/- Contracts, put together. Conditions: those of each. -/
import Derived.Test.YtakpdkmhclhlnaaGreatDoorMp
import Derived.Lib.AtoiAllCases
set_option linter.unusedSimpArgs false
set_option linter.unusedVariables false
namespace Go.Proofs.YtakpdkmhclhlnaaGreatDoor.Hd
open Go Go.Shelf Go.Sx Go.RowKit
theorem sz1(x:UInt8):(⟨#[x]⟩:ByteArray).size=1:=rfl
end Go.Proofs.YtakpdkmhclhlnaaGreatDoor.Hd
namespace Go.Proofs.YtakpdkmhclhlnaaGreatDoor.Hd
open Go Go.Sx Go.RowKit
open Go.Sx.VM (need branch leaf)
open Go.Sx.AV (lst ptr agg roI tup top)
end Go.Proofs.YtakpdkmhclhlnaaGreatDoor.Hd
