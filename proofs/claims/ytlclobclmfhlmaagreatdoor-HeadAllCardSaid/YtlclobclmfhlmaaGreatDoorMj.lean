/- Contracts, put together. Conditions: those of each. -/
import Derived.Test.YtlclobclmfhlmaaGreatDoorMi
import Derived.Test.YtlclobclmfhlmaaGreatDoorProg
set_option linter.unusedSimpArgs false
set_option linter.unusedVariables false
namespace Go.Proofs.YtlclobclmfhlmaaGreatDoor
open Go Go.Sx Go.RowKit
open Go.Sx.VL (need branch leaf)
open Go.Sx.AV (lst ptr agg roI tup top)
theorem Zh3:Tryz.prog.follows .mixedOrders=true:=VS
abbrev II(d:TypeId)(k:Value):Value:= .iface d (.agg #[k])
noncomputable abbrev FZ:DV:=rN Tryz.prog [] {} [] [] Tryz.f114 (U6 Tryz.f114)
theorem RN:D2 VN 114 FZ:=
 FP (G:=[]) (X:={}) (VJ.nil _) (λcx=>VV.nil _ cx) (UR.nil _) Zh3 (UF Tryz.func114) Tryz.func114 (US Tryz.f114)
  (λj cj _ sp hsp=>by simp at hsp)
end Go.Proofs.YtlclobclmfhlmaaGreatDoor
