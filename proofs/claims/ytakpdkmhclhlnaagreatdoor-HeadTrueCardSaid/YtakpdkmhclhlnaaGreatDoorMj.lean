/- Contracts, put together. Conditions: those of each. -/
import Derived.Test.YtakpdkmhclhlnaaGreatDoorMi
import Derived.Test.YtakpdkmhclhlnaaGreatDoorProg
set_option linter.unusedSimpArgs false
set_option linter.unusedVariables false
namespace Go.Proofs.YtakpdkmhclhlnaaGreatDoor
open Go Go.Sx Go.RowKit
open Go.Sx.VJ (need branch leaf)
open Go.Sx.AV (lst ptr agg roI tup top)
theorem Zi9:Tryz.prog.follows .mixedOrders=true:=VQ
abbrev IO(d:TypeId)(k:Value):Value:= .iface d (.agg #[k])
noncomputable abbrev FZ:DU:=rW Tryz.prog [] {} [] [] Tryz.f145 (U5 Tryz.f145)
theorem RL:D2 VL 145 FZ:=
 FN (G:=[]) (X:={}) Aa (λcx=>VT.nil _ cx) (UQ.nil _) Zi9 (UC Tryz.func145) Tryz.func145 (UR Tryz.f145)
  (λj I _ sp A=>by simp at A)
end Go.Proofs.YtakpdkmhclhlnaaGreatDoor
