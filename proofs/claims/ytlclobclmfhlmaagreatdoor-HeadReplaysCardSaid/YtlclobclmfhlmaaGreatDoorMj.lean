/- Contracts, put together. Conditions: those of each. -/
import Derived.Test.YtlclobclmfhlmaaGreatDoorMi
import Derived.Test.YtlclobclmfhlmaaGreatDoorProg
set_option linter.unusedSimpArgs false
set_option linter.unusedVariables false
namespace Go.Proofs.YtlclobclmfhlmaaGreatDoor
open Go Go.Sx Go.RowKit
open Go.Sx.VN (need branch leaf)
open Go.Sx.AV (lst ptr agg roI tup top)
theorem Zi0:Tryz.prog.follows .mixedOrders=true:=VU
abbrev IF(d:TypeId)(k:Value):Value:= .iface d (.agg #[k])
noncomputable abbrev RB:DW:=rM Tryz.prog [] {} [] [] Tryz.f114 (U8 Tryz.f114)
theorem RP:D4 VP 114 RB:=
 FS (G:=[]) (X:={}) (VL.nil _) (λcx=>VX.nil _ cx) (UU.nil _) Zi0 (UK Tryz.func114) Tryz.func114 (UV Tryz.f114)
  (λj cj _ sp hsp=>by simp at hsp)
end Go.Proofs.YtlclobclmfhlmaaGreatDoor
