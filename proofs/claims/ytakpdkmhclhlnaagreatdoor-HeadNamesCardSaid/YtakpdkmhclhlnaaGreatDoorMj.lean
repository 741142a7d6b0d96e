/- Contracts, put together. Conditions: those of each. -/
import Derived.Test.YtakpdkmhclhlnaaGreatDoorMi
import Derived.Test.YtakpdkmhclhlnaaGreatDoorProg
set_option linter.unusedSimpArgs false
set_option linter.unusedVariables false
namespace Go.Proofs.YtakpdkmhclhlnaaGreatDoor
open Go Go.Sx Go.RowKit
open Go.Sx.VO (need branch leaf)
open Go.Sx.AV (lst ptr agg roI tup top)
theorem Ze8:Tryz.prog.follows .mixedOrders=true:=VX
abbrev I2(d:TypeId)(k:Value):Value:= .iface d (.agg #[k])
noncomputable abbrev RA:DS:=rI Tryz.prog [] {} [] [] Tryz.f145 (UA Tryz.f145)
theorem RQ:D4 VQ 145 RA:=
 FP (G:=[]) (X:={}) Aa (λcx=>VY.nil _ cx) (UT.nil _) Ze8 (UJ Tryz.func145) Tryz.func145 (UV Tryz.f145)
  (λj I _ sp A=>by simp at A)
end Go.Proofs.YtakpdkmhclhlnaaGreatDoor
