/- Contracts, put together. Conditions: those of each. -/
import Derived.Test.YtlclobclmfhlmaaGreatDoorMg
import Derived.Shelf.Strings.Prefix
import Derived.Shelf.Strings.Split
import Derived.Shelf.Strconv.AtoiAll
import Derived.Shelf.Strconv.Itoa3
set_option linter.unusedSimpArgs false
set_option linter.unusedVariables false
namespace Go.Proofs.YtlclobclmfhlmaaGreatDoor.Hd
open Go Go.Shelf
def iJ:Go.Shelf.Ren:=⟨λ| 101=>154| 208=>194| 206=>224|n=>n,λn=>n,λn=>n⟩
theorem Xj5:Go.Proofs.Lays.n101 Tryz.prog iJ:=by
 constructor<;>first|(intro _;kernel_rfl)|kernel_rfl|(constructor<;>first|(intro _;kernel_rfl)|kernel_rfl|(constructor<;>first|(intro _;kernel_rfl)|kernel_rfl))
def gO:Go.Shelf.Ren:=⟨λ| 146=>112| 221=>145| 268=>179| 138=>180| 143=>181| 195=>214| 197=>215| 218=>216| 219=>217| 260=>234| 217=>235| 225=>236| 224=>237| 267=>238| 266=>245| 314=>246|n=>n,λ| 31=>22| 105=>323| 46=>282| 119=>350| 139=>353| 138=>352| 146=>354| 51=>307|n=>n,λ| 1=>3| 3=>6| 4=>7|n=>n⟩
theorem Wj6:Go.Proofs.Lays.n146 Tryz.prog gO:=by
 constructor<;>first|(intro _;kernel_rfl)|kernel_rfl|(constructor<;>first|(intro _;kernel_rfl)|kernel_rfl|(constructor<;>first|(intro _;kernel_rfl)|kernel_rfl))
def iM:Go.Shelf.Ren:=⟨λ| 172=>88| 244=>110| 245=>111| 247=>140| 279=>141| 280=>142| 281=>143| 282=>144| 287=>176| 316=>177| 171=>73| 205=>178| 321=>212| 322=>213| 243=>99| 246=>131| 283=>167| 284=>168| 285=>169| 286=>170| 129=>199| 317=>198| 318=>200| 319=>201| 320=>202| 337=>225| 338=>226|n=>n,λ| 75=>113| 76=>114| 167=>255| 37=>45| 85=>256| 168=>258| 53=>189| 175=>280| 46=>282| 210=>285| 127=>170| 145=>322| 143=>320| 171=>267| 173=>270| 212=>306| 51=>307| 213=>308| 232=>347| 233=>348| 80=>130|n=>n,λ| 15=>0| 16=>1| 17=>2| 18=>4| 19=>5|n=>n⟩
theorem gQ:Go.Proofs.LaysC.n172 Tryz.prog iM:=by
 constructor<;>first|(intro _;kernel_rfl)|kernel_rfl|(constructor<;>first|(intro _;kernel_rfl)|kernel_rfl|(constructor<;>first|(intro _;kernel_rfl)|kernel_rfl))
def iK:Go.Shelf.Ren:=⟨λ| 171=>73| 243=>99| 246=>131| 283=>167| 284=>168| 285=>169| 286=>170| 129=>199| 317=>198| 318=>200| 319=>201| 320=>202| 337=>225| 338=>226|n=>n,λ| 171=>267| 53=>189| 37=>45| 173=>270| 212=>306| 51=>307| 213=>308| 46=>282| 232=>347| 233=>348|n=>n,λ| 17=>2| 18=>4| 19=>5|n=>n⟩
theorem Qd7:Go.Proofs.LaysM.n171 Tryz.prog iK:=by
 constructor<;>first|(intro _;kernel_rfl)|kernel_rfl|(constructor<;>first|(intro _;kernel_rfl)|kernel_rfl|(constructor<;>first|(intro _;kernel_rfl)|kernel_rfl))
open Go.Sx
end Go.Proofs.YtlclobclmfhlmaaGreatDoor.Hd
