/- Contracts, put together. Conditions: those of each. -/
import Derived.Test.YtakpdkmhclhlnaaGreatDoorMg
import Derived.Shelf.Strings.Prefix
import Derived.Shelf.Strings.Split
import Derived.Shelf.Strconv.AtoiAll
import Derived.Shelf.Strconv.Itoa3
set_option linter.unusedSimpArgs false
set_option linter.unusedVariables false
namespace Go.Proofs.YtakpdkmhclhlnaaGreatDoor.Hd
open Go Go.Shelf
def eO:Go.Shelf.Ren:=⟨λ| 101=>182| 208=>214| 206=>239|n=>n,λn=>n,λn=>n⟩
theorem Xf9:Go.Proofs.Lays.n101 Tryz.prog eO:=by
 constructor<;>first|(intro _;kernel_rfl)|kernel_rfl|(constructor<;>first|(intro _;kernel_rfl)|kernel_rfl|(constructor<;>first|(intro _;kernel_rfl)|kernel_rfl))
def gA:Go.Shelf.Ren:=⟨λ| 146=>143| 221=>173| 268=>200| 138=>201| 143=>202| 195=>229| 197=>230| 218=>231| 219=>232| 260=>246| 217=>247| 225=>248| 224=>249| 267=>250| 266=>255| 314=>256|n=>n,λ| 31=>26| 105=>334| 46=>331| 119=>360| 139=>363| 138=>362| 146=>364| 51=>329|n=>n,λ| 1=>1| 3=>6| 4=>7|n=>n⟩
theorem Wg1:Go.Proofs.Lays.n146 Tryz.prog gA:=by
 constructor<;>first|(intro _;kernel_rfl)|kernel_rfl|(constructor<;>first|(intro _;kernel_rfl)|kernel_rfl|(constructor<;>first|(intro _;kernel_rfl)|kernel_rfl))
def eT:Go.Shelf.Ren:=⟨λ| 172=>147| 244=>183| 245=>184| 247=>215| 279=>216| 280=>217| 281=>218| 282=>219| 287=>240| 316=>241| 171=>69| 205=>242| 321=>253| 322=>254| 243=>112| 246=>149| 283=>185| 284=>186| 285=>187| 286=>188| 129=>221| 317=>220| 318=>222| 319=>223| 320=>224| 337=>243| 338=>244|n=>n,λ| 75=>107| 76=>108| 167=>321| 37=>87| 85=>322| 168=>324| 53=>181| 175=>345| 46=>331| 210=>349| 127=>165| 145=>357| 143=>355| 171=>287| 173=>290| 212=>328| 51=>329| 213=>330| 232=>358| 233=>359| 80=>122|n=>n,λ| 15=>2| 16=>3| 17=>0| 18=>4| 19=>5|n=>n⟩
theorem A7:Go.Proofs.LaysC.n172 Tryz.prog eT:=by
 constructor<;>first|(intro _;kernel_rfl)|kernel_rfl|(constructor<;>first|(intro _;kernel_rfl)|kernel_rfl|(constructor<;>first|(intro _;kernel_rfl)|kernel_rfl))
def eR:Go.Shelf.Ren:=⟨λ| 171=>69| 243=>112| 246=>149| 283=>185| 284=>186| 285=>187| 286=>188| 129=>221| 317=>220| 318=>222| 319=>223| 320=>224| 337=>243| 338=>244|n=>n,λ| 171=>287| 53=>181| 37=>87| 173=>290| 212=>328| 51=>329| 213=>330| 46=>331| 232=>358| 233=>359|n=>n,λ| 17=>0| 18=>4| 19=>5|n=>n⟩
theorem Qb7:Go.Proofs.LaysM.n171 Tryz.prog eR:=by
 constructor<;>first|(intro _;kernel_rfl)|kernel_rfl|(constructor<;>first|(intro _;kernel_rfl)|kernel_rfl|(constructor<;>first|(intro _;kernel_rfl)|kernel_rfl))
open Go.Sx
end Go.Proofs.YtakpdkmhclhlnaaGreatDoor.Hd
