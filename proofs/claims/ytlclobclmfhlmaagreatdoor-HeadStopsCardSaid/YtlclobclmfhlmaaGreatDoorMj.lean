/- Contracts, put together. Conditions: those of each. -/
import Derived.Test.YtlclobclmfhlmaaGreatDoorMi
import Derived.Test.YtlclobclmfhlmaaGreatDoorProg
set_option linter.unusedSimpArgs false
set_option linter.unusedVariables false
namespace Go.Proofs.YtlclobclmfhlmaaGreatDoor
open Go Go.Sx Go.RowKit
open Go.Sx.VR (need branch leaf)
open Go.Sx.AV (lst ptr agg roI tup top)
theorem Zl7:Tryz.prog.follows .mixedOrders=true:=VY
abbrev IW(d:TypeId)(k:Value):Value:= .iface d (.agg #[k])
noncomputable abbrev RE:F3:=AB Tryz.prog [] {} [] [] Tryz.f114 (UB Tryz.f114)
theorem RT:DB VT 114 RE:=
 FW (G:=[]) (X:={}) Aa (λcx=>U1.nil _ cx) (UW.nil _) Zl7 (UM Tryz.func114) Tryz.func114 (UY Tryz.f114)
  (λj I _ sp A=>by simp at A)
end Go.Proofs.YtlclobclmfhlmaaGreatDoor
