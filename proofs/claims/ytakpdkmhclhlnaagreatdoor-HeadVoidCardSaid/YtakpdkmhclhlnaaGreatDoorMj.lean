/- Contracts, put together. Conditions: those of each. -/
import Derived.Test.YtakpdkmhclhlnaaGreatDoorMi
import Derived.Test.YtakpdkmhclhlnaaGreatDoorProg
set_option linter.unusedSimpArgs false
set_option linter.unusedVariables false
namespace Go.Proofs.YtakpdkmhclhlnaaGreatDoor
open Go Go.Sx Go.RowKit
open Go.Sx.VM (need branch leaf)
open Go.Sx.AV (lst ptr agg roI tup top)
theorem Zi2:Tryz.prog.follows .mixedOrders=true:=VT
abbrev IA(d:TypeId)(k:Value):Value:= .iface d (.agg #[k])
noncomputable abbrev R9:DW:=rM Tryz.prog [] {} [] [] Tryz.f145 (U7 Tryz.f145)
theorem RN:D4 VO 145 R9:=
 FP (G:=[]) (X:={}) Aa (λcx=>VW.nil _ cx) (US.nil _) Zi2 (UG Tryz.func145) Tryz.func145 (UT Tryz.f145)
  (λj I _ sp A=>by simp at A)
end Go.Proofs.YtakpdkmhclhlnaaGreatDoor
