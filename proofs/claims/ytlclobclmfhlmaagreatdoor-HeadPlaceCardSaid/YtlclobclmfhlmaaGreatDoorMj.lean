/- Contracts, put together. Conditions: those of each. -/
import Derived.Test.YtlclobclmfhlmaaGreatDoorMi
import Derived.Test.YtlclobclmfhlmaaGreatDoorProg
set_option linter.unusedSimpArgs false
set_option linter.unusedVariables false
namespace Go.Proofs.YtlclobclmfhlmaaGreatDoor
open Go Go.Sx Go.RowKit
open Go.Sx.VP (need branch leaf)
open Go.Sx.AV (lst ptr agg roI tup top)
theorem Zm1:Tryz.prog.follows .mixedOrders=true:=VW
abbrev IU(d:TypeId)(k:Value):Value:= .iface d (.agg #[k])
noncomputable abbrev RD:F0:=A8 Tryz.prog [] {} [] [] Tryz.f114 (U9 Tryz.f114)
theorem RS:DA VR 114 RD:=
 FU (G:=[]) (X:={}) Aa (λcx=>VZ.nil _ cx) (UU.nil _) Zm1 (UK Tryz.func114) Tryz.func114 (UW Tryz.f114)
  (λj I _ sp A=>by simp at A)
end Go.Proofs.YtlclobclmfhlmaaGreatDoor
