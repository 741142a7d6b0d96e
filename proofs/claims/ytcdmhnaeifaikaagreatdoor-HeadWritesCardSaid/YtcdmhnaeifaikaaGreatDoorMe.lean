/- Contracts, put together. Conditions: those of each. -/
import Derived.Test.YtcdmhnaeifaikaaGreatDoorMd
import Derived.Shelf.Strings.Prefix
import Derived.Shelf.Strings.Split
import Derived.Shelf.Strconv.AtoiAll
import Derived.Shelf.Strconv.Itoa3
import Derived.Shelf.Slices.Cells
import Derived.Deep.Upon
import Derived.Test.YtcdmhnaeifaikaaGreatDoorProg
import Derived.Lib.AppendIntMem
import Derived.Shelf.Spec.SlicesGrow
import Derived.Tactics
import Derived.Tactics2
import Derived.Defers
import Derived.Recover
import Derived.Laws.Pointers
import Derived.WideLaws
import Derived.RegionTactic
import Derived.Stop.Walk2
import Derived.RangeFuncRecord
import Derived.Test.YtcdmhnaeifaikaaGreatDoorCards
import Derived.Test.YtcdmhnaeifaikaaGreatDoorTie
import Derived.LaidMore
import Derived.OpenShut
import Derived.Stop.Joined
import Derived.Stop.LaidErr
import Derived.Lib.LaidTab
import Derived.Handed
import Derived.SevenTiedAt
import Derived.Lib.AtoiAllCases
set_option linter.unusedSimpArgs false
set_option linter.unusedVariables false
set_option maxRecDepth 100000
namespace Go.Proofs.YtcdmhnaeifaikaaGreatDoor.Hd
open Go Go.Sx Go.RowKit Bo
open Go.Sx.VR (need branch leaf)
open Go.Sx.AV (lst ptr agg roI tup top)
abbrev KO(Z:Int):Value:=Value.int IntKind.i64 Z
theorem Xo7(n:Nat)(a b c U O:Cg)(ea la:AV)(d:Nat)(Z:Int)(ord:List Int)(dy:Cg)(oa:Option Addr)(ol oc:Nat)(da:Option Addr)(dl dc:Nat)(N:Nat)(VW:sV n a b c U O)(UG:d<2^n)(HX:2^n-d<=N+1)(F6:0<=Z/\Z<=100)(qD:ord.length<=1000)(j6:GH VU 221 (oV n a b c U O N)):Xj5 VU 221 [.agg [i d,i Z],.ptr 0 0,.ptr 1 0,.ptr 2 0,.ptr 3 0,.ptr 4 0] (OM n a b c U O ea la d Z ord dy oa ol oc da dl dc) 901 [[.ptr 0 0,.ptr 1 0,.ptr 2 0,.ptr 3 0,.ptr 4 0]] (OT_ n a b c U O ea la d Z ord dy oa ol oc da dl dc (orG n a b c U O d Z)) (OF_ n a b c U O ea la d Z ord dy oa ol oc da dl dc) (orS n a b c U O d Z).isSome:=by
 refine Qu7 (X:={R:=[(121,CC)],H:=[(221,(oV n a b c U O N))] }) (L:=[FX [d≠2^n-1] (Zg6 n a b c U O ea la d Z ord dy oa ol oc da dl dc N)]) (Ae F5 (Ae LR Aa)) (Ai (Af S2 Ab) (Ag j6 Ac)) U3 Tryz.func221 (UW Tryz.f221) (G0 (lpE (b:= .rangeFunc (rfF (VX (UB Tryz.f221) 0)) (xS (VX (UB Tryz.f221) 0)) Ke7 Kc5) VZ<|BG (λh=>Jn6 n a b c U O ea la d Z ord dy oa ol oc da dl dc N VW ⟨UG,h⟩ HX F6 qD j6))) (N:=[(.cell 3 0,900,3,1)]) (t:=let z7:=(U4 (AV.x (.slice oa ol oc)));let A:=orH n a b c U O;let z6:=ZO n a b c U O ea la;let S:=(U4 (AV.x (.slice da dl dc)));let I:=(orG n a b c U O d Z);let W:=(Value.agg #[Value.int IntKind.i64 (d:Int),KO Z]);let z0:=(need [d≠2^n-1] (need [U4 (agg [iI (d:Int),iI Z]),QO,XY,ZC,ZH,W7,KW,KX,U4 (AV.fn (Fn.func 164) [] [AV.ro [QQ n a b c U O ea la],AV.ro [iI (d:Int)]]),false=false,U4 (d:Int),Z=Z,ZY,z7,JV ord,∀(i:Nat),i<List.length ord->[iI (UE ord i)]=[iI (UE ord i)],∀(k:Value),A k->A k/\orV k=orV k,n=n,∀(i:Nat),i<n->[iI (dy i)]=[iI (dy i)],z6,JK,QM=QM,J9,S,QO,XY,ZC,ZH,W7] (branch (Option.isSome (orS n a b c U O d Z)) (need [ZY,U4 (List.length (ord++orL I)),∀(i:Nat),i<List.length (ord++orL I)->[iI (UE (ord++orL I) i)]=[iI (UE (ord++orL I) i)],∀(k:Value),A k->A k/\orV k=orV k,n=n,∀(i:Nat),i<n->[iI (dyU I dy i)]=[iI (dyU I dy i)],z6,JK,QM=QM,J9,S,QO,XY,ZC,ZH,W7] (leaf true)) (need [∀(u:Value),A u->orV u=Value.bool true,FK Tryz.prog 325 (λu=>A u\/u=Value.agg #[Value.int IntKind.i64 (d:Int),KO Z]) W (WL)] (need [ZY,z7,JV ord,∀(i:Nat),i<List.length ord->[iI (UE ord i)]=[iI (UE ord i)],∀(k:Value),A k\/k=Value.agg #[Value.int IntKind.i64 (d:Int),KO Z]->A k/\Value.bool true=orV k,n=n,∀(i:Nat),i<n->[iI (dy i)]=[iI (dy i)],z6,JK,QM=QM,J9,S,QO,XY,ZC,ZH,W7] (leaf false))))));let z1:=(need [ZY,z7,JV ord,∀(i:Nat),i<List.length ord->[iI (UE ord i)]=[iI (UE ord i)],∀(k:Value),A k->A k/\orV k=orV k,n=n,∀(i:Nat),i<n->[iI (dy i)]=[iI (dy i)],z6,JK,QM=QM,J9,S,QO,XY,ZC,ZH,W7] (leaf false));(need [n<=8] (branch ((d:Int)==2^n-1) (need [ZY,List.length ord=List.length (ord++orL I),∀(i:Nat),i<List.length (ord++orL I)->[iI (UE ord i)]=[iI (UE (ord++orL I) i)],∀(k:Value),A k->A k/\orV k=orV k,n=n,∀(i:Nat),i<n->[iI (dy i)]=[iI (dyU I dy i)],z6,JK,QM=QM,J9,S,QO,XY,ZC,ZH,W7] (leaf true)) (need [FK Tryz.prog 325 (A) W (WL)] (VR.may (A W) (branch true z1 z0) (branch false z1 z0)))))) VZ VZ rfl rfl VZ ?_
 have h8:=VW.1;have hp1:1<=2^n:=Cc;have hpn:((2^n:Nat):Int)=2^n:=VY;have hmk:FK Tryz.prog 325 (orH n a b c U O) (.agg #[.int .i64 d,.int .i64 Z]) (.bool false):=(SC d Z).mono (λx hx=>Wl4 hx);have hmk2:FK Tryz.prog 325 (λu=>orH n a b c U O u\/u= .agg #[.int .i64 d,.int .i64 Z]) (.agg #[.int .i64 d,.int .i64 Z]) (.bool false):=(SC d Z).mono (λx hx=>hx.elim Wl4 (λh=>⟨_,_,h⟩));have Jr1:orH n a b c U O (.agg #[.int .i64 d,.int .i64 Z])->(orS n a b c U O d Z).isSome=false:=by
  rintro ⟨d',day',h,_,h2⟩;simp only [Value.agg.injEq,Array.mk.injEq,List.cons.injEq,Value.int.injEq,UK] at h;obtain ⟨e1,rfl⟩:=h;obtain rfl:d=d':=VO;rw [h2];rfl
 have Jq5:(orS n a b c U O d Z).isSome=false-> ∀k,orH n a b c U O k\/k= .agg #[.int .i64 d,.int .i64 Z]->orH n a b c U O k/\Value.bool true=orV k:=by
  rintro hn k (hk|rfl);exact ⟨hk,rfl⟩;exact ⟨⟨d,Z,rfl,UG,by simpa using hn⟩,rfl⟩
 simp only [VR.sat,UF,UK];refine ⟨h8,?_⟩;by_cases hw:d=2^n-1;have hS:orS n a b c U O d Z=some []:=by
  rw [hw];exact Wl3 h8 Z
 have hG:orG n a b c U O d Z=[]:=by
  unfold orG;rw [hS];rfl
 rw [hG,hS];refine ⟨λ_=>?_,λh=>?_⟩
 ·simp only [orL,List.map_nil,List.append_nil,dyU];all_goals exact V8
 exfalso;rw [beq_eq_false_iff_ne] at h;omega;refine ⟨λh=>?_,λ_=>?_⟩;exfalso;rw [beq_iff_eq] at h;omega
 ·(with_reducible repeat' first|apply Al|intro _)
  all_goals first|exact Ak|exact hmk|exact hmk2|exact hw|(exact (Jr1 (by assumption)).symm)|rfl|contradiction|(exact Eq.symm (by assumption))|assumption|exact (Jq5 (by assumption) _ (by assumption)).1|exact (Jq5 (by assumption) _ (by assumption)).2
theorem Wl2{n:Nat}{a b c U O:Cg}(h0:sV n a b c U O): ∀N:Nat,GH VU 221 (oV n a b c U O N)
 | 0=>l9 λea la d Z ord dy oa ol oc da dl dc h1 h2=>VO
 |N+1=>l9 λea la d Z ord dy oa ol oc da dl dc h1 h2 h3 h4=>Xo7 n a b c U O ea la d Z ord dy oa ol oc da dl dc N h0 h1 h2 h3 h4 (Wl2 h0 N)
open Go Go.Shelf
def lL:Go.Shelf.Ren:=⟨λ| 101=>149| 208=>192| 206=>223|n=>n,λn=>n,λn=>n⟩
theorem Xp6:Go.Proofs.Lays.n101 Tryz.prog lL:=by
 constructor<;>first|(intro _;kernel_rfl)|kernel_rfl|(constructor<;>first|(intro _;kernel_rfl)|kernel_rfl|(constructor<;>first|(intro _;kernel_rfl)|kernel_rfl))
def dD:Go.Shelf.Ren:=⟨λ| 146=>100| 221=>140| 268=>177| 138=>178| 143=>179| 195=>213| 197=>214| 218=>215| 219=>216| 260=>233| 217=>234| 225=>235| 224=>236| 267=>237| 266=>244| 314=>245|n=>n,λ| 31=>22| 105=>319| 46=>277| 119=>346| 139=>349| 138=>348| 146=>350| 51=>303|n=>n,λ| 1=>3| 3=>6| 4=>7|n=>n⟩
theorem Wo0:Go.Proofs.Lays.n146 Tryz.prog dD:=by
 constructor<;>first|(intro _;kernel_rfl)|kernel_rfl|(constructor<;>first|(intro _;kernel_rfl)|kernel_rfl|(constructor<;>first|(intro _;kernel_rfl)|kernel_rfl))
def lO:Go.Shelf.Ren:=⟨λ| 172=>70| 244=>98| 245=>99| 247=>135| 279=>136| 280=>137| 281=>138| 282=>139| 287=>174| 316=>175| 171=>62| 205=>176| 321=>211| 322=>212| 243=>90| 246=>127| 283=>165| 284=>166| 285=>167| 286=>168| 129=>198| 317=>197| 318=>199| 319=>200| 320=>201| 337=>224| 338=>225|n=>n,λ| 75=>91| 76=>92| 167=>249| 37=>23| 85=>250| 168=>252| 53=>166| 175=>275| 46=>277| 210=>280| 127=>157| 145=>318| 143=>316| 171=>262| 173=>265| 212=>302| 51=>303| 213=>304| 232=>343| 233=>344| 80=>112|n=>n,λ| 15=>0| 16=>1| 17=>2| 18=>4| 19=>5|n=>n⟩
theorem dF:Go.Proofs.LaysC.n172 Tryz.prog lO:=by
 constructor<;>first|(intro _;kernel_rfl)|kernel_rfl|(constructor<;>first|(intro _;kernel_rfl)|kernel_rfl|(constructor<;>first|(intro _;kernel_rfl)|kernel_rfl))
def lM:Go.Shelf.Ren:=⟨λ| 171=>62| 243=>90| 246=>127| 283=>165| 284=>166| 285=>167| 286=>168| 129=>198| 317=>197| 318=>199| 319=>200| 320=>201| 337=>224| 338=>225|n=>n,λ| 171=>262| 53=>166| 37=>23| 173=>265| 212=>302| 51=>303| 213=>304| 46=>277| 232=>343| 233=>344|n=>n,λ| 17=>2| 18=>4| 19=>5|n=>n⟩
theorem Qh2:Go.Proofs.LaysM.n171 Tryz.prog lM:=by
 constructor<;>first|(intro _;kernel_rfl)|kernel_rfl|(constructor<;>first|(intro _;kernel_rfl)|kernel_rfl|(constructor<;>first|(intro _;kernel_rfl)|kernel_rfl))
open Go.Sx
open Go Go.Shelf Go.Sx Go.RowKit
def sX:Go.Shelf.Ren:=⟨λ| 112=>222|n=>n,λ| 28=>52|n=>n,λn=>n⟩
theorem Wo1:Go.Proofs.Lays.n112 Tryz.prog sX:=by
 constructor<;>first|(intro _;kernel_rfl)|kernel_rfl|(constructor<;>first|(intro _;kernel_rfl)|kernel_rfl|(constructor<;>first|(intro _;kernel_rfl)|kernel_rfl))
def Qd5:D9:=λavs m nx sv=>match avs with
 |[.row q]=>match DN m q with
  |some (.row T sz n g)=>match SA [(T,3),(sz,1)] with
   |true=>some (.needT [UL 1 n g,n<=100000] (.leaf (.tup [],kB (sN m) q,nx,sv)))
   |false=>none
  |_=>none
 |_=>none
theorem vO(b:Nat): ∀(vs:List Value) (o:Nat) (w:World),(w.setCells b o vs).heap.size=w.heap.size
 |[],_,_=>rfl
 |v::r,o,w=>by
  rw [World.setCells,vO b r];simp
theorem vN(b:Nat): ∀(vs:List Value) (o:Nat) (w:World),(w.setCells b o vs).tape=w.tape
 |[],_,_=>rfl
 |v::r,o,w=>by
  rw [World.setCells,vN b r];simp
theorem Qr0{w:World}{ov:Value}{n:Nat}{l:List Int}(I:n<=100000)(ho:w.ownsRow 0 3 1 ov n (l.map (Value.int .i64))):
  Calls Tryz.prog 222 #[ov] w λen Z=>en= .returned (.tuple #[])/\Z.heap.size=w.heap.size/\Z.os=w.os/\Z.tape=w.tape/\Z.output=w.output/\ ∀x,x<w.heap.size->ov.ownBlock≠some x->Z.heap[x]? =w.heap[x]? :=by
 have D5:l.length=n:=by
  have:=ho.1;simpa using this
 rcases ho.2 with ⟨rfl,rfl⟩|⟨g,cap,cur,rfl,_,hh,r1,r2,r3,r4⟩;refine Calls.mono (Any.slices_Reverse_int_empty Wo1 none 0 w) ?_;rintro en Z ⟨rfl,rfl⟩;exact ⟨rfl,rfl,rfl,rfl,rfl,λ_ _ _=>rfl⟩;have F3: ∀j,j<l.length->w.cell? ⟨g,0+j,none⟩=some (.int .i64 (l.getD j 0)):=by
  intro j hj;have h2:cur[j]? =some (.int .i64 (l.getD j 0)):=by
   have h3:=congrArg (λl=>l[j]?) r4;simp only [List.getElem?_take,Bn] at h3;rw [if_pos VO,D8 hj] at h3;rw [List.getD_eq_getElem?_getD,D8 hj];simpa using h3
  rw [Ap];simp [World.cell?,hh,h2]
 refine Calls.mono (Any.slices_Reverse_int_cells Wo1 g 0 n cap l w VO VO F3 (λj _=>by simp [World.frozen?,hh])) ?_
 rintro en Z ⟨rfl,q,rfl⟩;refine ⟨rfl,?_,?_,?_,?_,λx hx hne=>?_⟩;rw [vO];rfl;rw [World.os_setCells];rfl;rw [vN];rfl;rw [World.output_setCells];rfl;exact World.heap_setCells_other (w.drewN q) g 0 _ hx (λh=>hne (by rw [h];rfl))
theorem Wk7:GH VU 222 Qd5:=by
 refine ⟨(UM Tryz.func222),?_⟩;intro avs m nx sv tr ht Q hQ cx w0 TT e ds args w hE hB hm hlv P2 hxt hr;unfold Qd5 at ht;split at ht;rename_i q;split at ht;rename_i T sz n g h1;split at ht;rename_i hb;simp only [II] at hb;obtain ⟨rfl,rfl,_⟩:=hb;cases ht;obtain ⟨I,hq⟩:=VR.sat_needT hQ;obtain ⟨n1,n2⟩:=I;obtain ⟨ov,l1,rfl,r1,hr⟩:=hr.cons_inv;obtain rfl:=hr.nil_inv;have H1:=hm _ (GA h1);have R1:=qU H1 n1;have hv:e.val q=ov:=by
  cases r1 with
  |row _ a n c _ hv=>exact hv
 simp only at R1;rw [hv] at R1;have own1: ∀x,ov.ownBlock=some x->e.own x=some q:=λx hx=>H1.2.1 x (by show (e.val q).ownBlock=some x;rw [hv];exact hx)
 refine (Qr0 n2 R1).mono ?_;rintro en Z ⟨rfl,hsz,q1,q2,q3,jY⟩;have dne: ∀{x y j j':Nat},e.own x=some j->e.own y=some j'->j≠j'->x≠y:=by
  rintro x y j j' hx hy hj rfl;rw [hx] at hy;exact hj (Bb hy)
 have Xr4: ∀x,x<w.heap.size->e.ro x->Z.heap[x]? =w.heap[x]? :=λx hx hx2=>jY x hx (λh=>by
  have:=own1 x h;rw [(hE.apart x hx2).1] at this;cases this)
 have st:Step e e w Z:=⟨λx hx hx2=>⟨hx2,Xr4 x hx hx2⟩,λ_ h=>⟨h,rfl,rfl⟩,VO⟩;have hBel:Below w0.heap.size w0 Z:=by
  refine ⟨q1.trans hB.os,q2.trans hB.tape,q3.trans hB.output,by have:=hB.size;omega,λx hx=>?_⟩
  rw [jY x (PJ hx hB.size) (λh=>by have:=(hE.owned _ _ (own1 x h)).1;omega)]
  exact hB.block x hx
 refine ⟨_,_,_,_,_,e,rfl,hq,⟨λx hx=>⟨(hE.apart x hx).1,by rw [hsz];exact (hE.apart x hx).2⟩,λx j hx=>⟨(hE.owned x j hx).1,by rw [hsz];exact (hE.owned x j hx).2⟩,hE.glob.step st⟩,hBel,?_,hlv,P2,hxt.step st,Rep.tupL (.nil _ _)⟩
 intro p hp;obtain ⟨hp,hne⟩:=LF hp;obtain ⟨hpm,hna⟩:=IM hp;exact LW st (λx hx=>⟨hx,jY x (hE.owned x _ hx).2 (λh=>dne hx (own1 x h) hne rfl)⟩) hna (hm p hpm);cases ht;cases ht;cases ht
section
variable (n:Nat)(a b c U O:Cg)
def orE:Int:=if jL n a b c U O=true then 0 else 9
theorem Qs4(VW:sV n a b c U O):U2 VU 191 [.agg [i 4,i 10,sls n a b c U O]] (.tup [.top,.top,i (orE n a b c U O)]):=by
 refine G7 (X:={R:=[],H:=[(221,(Zc3 [(.slot 1,0,0,0),(.slot 2,0,0,0),(.slot 3,0,0,0),(.cell 1 0,900,3,1)] (oV n a b c U O (2^n)))),(222,Qd5)],C:=[(58,(NL n a b c U O))] }) (L:=[]) Aa (Aj Ab (Ag (lE (Wl2 VW (2^n))) (Ag Wk7 Ac)) (Ah (uG n a b c U O VW) (UJ.nil _))) U3 Tryz.func191 (UW Tryz.f191) G9 (t:=let z2:=(orG n a b c U O (0:Int).toNat (0:Int));let z0:=(leaf (RV.tup [RV.top,RV.lst 1 n λj=>[iI (dyU z2 (col 0 λx=>List.map AV.x (Array.toList (Value.cells (WV)))) j)],RV.x (WV)]));let z1:=(leaf (RV.tup [RV.top,RV.lst 1 n λx=>[iI 0],RV.x (WV)]));let z3:=(need [(0:Int)<=(n:Int)/\(n:Int)<=1000000,U4 (n:Int)] VR.fail);(need [QP n a b c U O] (branch (!true) (branch ((2:Int) != 0) (leaf (RV.tup [RV.x (J6),RV.x (J6),RV.x (.int .i64 (2:Int))])) z3) (branch (!jL n a b c U O) (branch ((9:Int) != 0) (leaf (RV.tup [RV.x (J6),RV.x (J6),RV.x (.int .i64 (9:Int))])) z3) (branch ((0:Int) != 0) (leaf (RV.tup [RV.x (J6),RV.x (J6),RV.x (WV)])) (need [(0:Int)<=(n:Int)/\(n:Int)<=1000000,U4 (n:Int)] (need [U4 (iI 4),U4 (iI 10),W2 n a b c U O,∀(x:Value),False->orH n a b c U O x/\x=orV x,UL 1 0 λx=>[],UL 1 n λx=>List.map AV.x (Array.toList (Value.cells (WV))),n=n,(0:Int)<=0/\(0:Int)<2^n,2^n-(0:Int).toNat<=2^n,(0:Int)<=0/\(0:Int)<=100,0<=1000] (branch (Option.isSome (orS n a b c U O (0:Int).toNat (0:Int))) (need [UL 1 (List.length ((zLo 0 λx=>[])++orL z2)) λj=>[i (UE ((zLo 0 λx=>[])++orL z2) j)],List.length ((zLo 0 λx=>[])++orL z2)<=100000] (VR.may True z0 (VR.may True z0 z0))) (need [UL 1 0 λx=>[],0<=100000] (VR.may True z1 (VR.may True z1 z1))))))))))) VZ ?_;have h8:=VW.1;have hp1:1<=2^n:=Cc;have hpi:=hO h8;have h256:=AY h8;have hgl:=Qg4 n a b c U O 0 0;simp only [VR.sat,UF,G6,GQ,UH,UK,orE,Int.toNat_zero];refine ⟨λh=>by simp at h,λ_=>⟨λh=>?_,λh=>?_⟩⟩
 have hf: ¬jL n a b c U O=true:=by
  rw [Ax] at h;rw [h];simp
 rw [if_neg hf];exact ⟨λ_=>rfl,λh=>by simp at h⟩
 have hf:jL n a b c U O=true:=by simpa using h
 rw [if_pos hf];have D5:((zLo 0 λx=>[])++orL (orG n a b c U O 0 0)).length<=100000:=by
  rw [Be];simp only [zLo,orL,List.range_zero,List.map_nil,List.length_nil,Bm];omega
 refine ⟨λh=>by simp at h,λ_=>⟨VO,⟨λ_ h=>h.elim,λk hk=>absurd hk (Aq _),λk _=>rfl,VO,VO⟩,λ_=>?_,λ_=>?_⟩⟩
 exact ⟨⟨pU _ _,D5⟩,λ_=>rfl,λ_=>rfl,rfl⟩;exact ⟨⟨λk hk=>absurd hk (Aq _),VO⟩,λ_=>rfl,λ_=>rfl,rfl⟩
end
def gdX(sz n:Nat)(f:Ci):Prop:= ∀k,k<n->(f k).length=sz/\ ∀x∈f k,isX x/\AV.one x=true
def HN(n:Nat)(f:Cg)(x:Int)(k:Nat):Int:=if k<n then f k else x
def apB(n:Nat)(f:Nat->Bool)(x:Bool)(k:Nat):Bool:=if k<n then f k else x
abbrev crs(n:Nat)(a b c d:Cg)(v:Nat->Bool):AV:= .lst 5 n (λk=>[i (a k),i (b k),i (c k),i (d k),bl (v k)])
theorem TA(f:Ci)(k:Nat):GL 0 (λ_=>[]) f k=f k:=by
 show HJ (decide (k<0)) [] (f (k-0))=_;rw [show decide (k<0)=false by simp]
 rfl
theorem V7{p:Prop}(h:p:=by
 simp only [VR.sat,UF,Xs8,true_and];refine ⟨λh=>h,⟨VO,λk hk x hm=>((UG k hk).2 x hm).2⟩,VO,λk hk=>⟨TA f k,λx hm=>((UG k hk).2 x hm).1⟩⟩):p:=h
theorem Ww1(n:Nat)(f:Ci)(VW:n<=100000)(UG:gdX 4 n f):DV VU 50 [.lst 4 n f] 126 4 (n) (f):=by
 refine qB (L:=[]) Aa Ad U3 Tryz.func50 (UW Tryz.f50) G9 (t:=VR.may (n=0) (leaf none) (need [(0+n)*32<=140737488355328,∀(i:Nat),i<n-> ∀(a:AV),a∈f i->AV.one a=true] (leaf (some (126,4,0+n,GL 0 (λx=>[]) λa=>f a))))) VZ ?_ (λk hk=>(UG k hk).1);exact V7
def Qe0:BZ:=λl=>match l with
 |[.lst 4 n f]=>some ([n<=100000,gdX 4 n f],126,4,n,f)
 |_=>none
theorem Ww0:Sx.Enters Tryz.prog 50/\ ∀avs ns T sz n g,Qe0 avs=some (ns,T,sz,n,g)->(∀q∈ns,q)->DV VU 50 avs T sz n g:=by
 refine ⟨(UM Tryz.func50),?_⟩;intro avs ns T sz n g h I;unfold Qe0 at h;split at h;cases h;exact Ww1 _ _ (I _ VY) (I _ VY);cases h
theorem Ww3(n:Nat)(f:Ci)(VW:n<=100000)(UG:gdX 5 n f):DV VU 51 [.lst 5 n f] 80 5 (n) (f):=by
 refine qB (L:=[]) Aa Ad U3 Tryz.func51 (UW Tryz.f51) G9 (t:=VR.may (n=0) (leaf none) (need [(0+n)*40<=140737488355328,∀(i:Nat),i<n-> ∀(a:AV),a∈f i->AV.one a=true] (leaf (some (80,5,0+n,GL 0 (λx=>[]) λa=>f a))))) VZ ?_ (λk hk=>(UG k hk).1);exact V7
def cX:BZ:=λl=>match l with
 |[.lst 5 n f]=>some ([n<=100000,gdX 5 n f],80,5,n,f)
 |_=>none
theorem mL:Sx.Enters Tryz.prog 51/\ ∀avs ns T sz n g,cX avs=some (ns,T,sz,n,g)->(∀q∈ns,q)->DV VU 51 avs T sz n g:=by
 refine ⟨(UM Tryz.func51),?_⟩;intro avs ns T sz n g h I;unfold cX at h;split at h;cases h;exact Ww3 _ _ (I _ VY) (I _ VY);cases h
theorem Wv9(n:Nat)(f:Ci)(VW:n<=100000)(UG:gdX 5 n f):DV VU 52 [.lst 5 n f] 130 5 (n) (f):=by
 refine qB (L:=[]) Aa Ad U3 Tryz.func52 (UW Tryz.f52) G9 (t:=VR.may (n=0) (leaf none) (need [(0+n)*40<=140737488355328,∀(i:Nat),i<n-> ∀(a:AV),a∈f i->AV.one a=true] (leaf (some (130,5,0+n,GL 0 (λx=>[]) λa=>f a))))) VZ ?_ (λk hk=>(UG k hk).1);exact V7
def Qd9:BZ:=λl=>match l with
 |[.lst 5 n f]=>some ([n<=100000,gdX 5 n f],130,5,n,f)
 |_=>none
theorem Wv8:Sx.Enters Tryz.prog 52/\ ∀avs ns T sz n g,Qd9 avs=some (ns,T,sz,n,g)->(∀q∈ns,q)->DV VU 52 avs T sz n g:=by
 refine ⟨(UM Tryz.func52),?_⟩;intro avs ns T sz n g h I;unfold Qd9 at h;split at h;cases h;exact Wv9 _ _ (I _ VY) (I _ VY);cases h
theorem Wv7(n:Nat)(f:Ci)(VW:n<=100000)(UG:gdX 2 n f):DV VU 53 [.lst 2 n f] 136 2 (n) (f):=by
 refine qB (L:=[]) Aa Ad U3 Tryz.func53 (UW Tryz.f53) G9 (t:=VR.may (n=0) (leaf none) (need [(0+n)*16<=140737488355328,∀(i:Nat),i<n-> ∀(a:AV),a∈f i->AV.one a=true] (leaf (some (136,2,0+n,GL 0 (λx=>[]) λa=>f a))))) VZ ?_ (λk hk=>(UG k hk).1);exact V7
def Qd8:BZ:=λl=>match l with
 |[.lst 2 n f]=>some ([n<=100000,gdX 2 n f],136,2,n,f)
 |_=>none
theorem Wv6:Sx.Enters Tryz.prog 53/\ ∀avs ns T sz n g,Qd8 avs=some (ns,T,sz,n,g)->(∀q∈ns,q)->DV VU 53 avs T sz n g:=by
 refine ⟨(UM Tryz.func53),?_⟩;intro avs ns T sz n g h I;unfold Qd8 at h;split at h;cases h;exact Wv7 _ _ (I _ VY) (I _ VY);cases h
abbrev rdl(n:Nat)(r v:Cg):AV:= .lst 2 n (λk=>[i (r k),i (v k)])
theorem V3{p:Prop}(h:p:=by
 have e0:j-n=0:=VO;show HJ (decide (j<n)) _ (UA _ _ (j-n))=_;rw [e0];rcases (show j<n\/j=n by omega) with h|rfl
 rw [decide_eq_true h];simp only [HN,apB,if_pos h];rfl;rw [show decide (j<j)=false by simp]
 simp only [HN,apB,if_neg (Bf j)];rfl):p:=h
section
variable (n:Nat)
theorem Zu9(a b u v:Cg)(x0 A W S:Int)(VW:n<=100000):U2 VU 181 [rds n a b u v,.agg [i x0,i A,i W,i S]] (rds (n+1) (HN n a x0) (HN n b A) (HN n u W) (HN n v S)):=by
 refine G7 (X:={R:=[],H:=[],C:=[],F:=[(50,Qe0)],D:=[] }) (L:=[]) Aa (U0.ofF Ab Ac (UJ.nil _) (L6.cons Ww0 (L6.nil _)) (BH.nil _)) U3 Tryz.func181 (UW Tryz.f181) G9 (t:=need [n<=100000,gdX 4 n λk=>[Bo.i (a k),Bo.i (b k),Bo.i (u k),Bo.i (v k)]] (need [(n+1)*32<=140737488355328,RY 1 (UA 4 [iI x0,iI A,iI W,iI S])] (leaf (RV.lst 4 (n+1) (GL n ((rq4 a b u v)) (UA 4 [iI x0,iI A,iI W,iI S])))))) VZ ?_;simp only [VR.sat,UF,G6,GQ,UH,UK];have hg:gdX 4 n (λk=>[i (a k),i (b k),i (u k),i (v k)]):=λk _=>⟨rfl,λx hx=>by
  simp only [GT,DO,or_false] at hx;rcases hx with rfl|rfl|rfl|rfl<;>exact ⟨Ak,by simp [AV.one,Value.oneCell']⟩⟩
 refine ⟨⟨VW,hg⟩,⟨VO,λj hj x hx=>?_⟩,?_⟩;obtain rfl:j=0:=VO;have hx:x∈[i x0,i A,i W,i S]:=hx;simp only [GT,DO,or_false] at hx;rcases hx with rfl|rfl|rfl|rfl<;>simp [AV.one,Value.oneCell'];intro j hj;refine ⟨?_,λx hx=>?_⟩;exact V3;simp only [GT,DO,or_false] at hx;rcases hx with rfl|rfl|rfl|rfl<;>exact Ak
def Qo1(a b u v:Cg):G4
 |[.lst 4 n1 f1,.agg [.x (.int .i64 x0),.x (.int .i64 A),.x (.int .i64 W),.x (.int .i64 S)]]=>some ([lst 4 n1 f1=rds n a b u v,n<=100000],rds (n+1) (HN n a x0) (HN n b A) (HN n u W) (HN n v S))
 |_=>none
theorem Xq9(a b u v:Cg):VT VU 181 (Qo1 n a b u v):=by
 refine ⟨(UM Tryz.func181),?_⟩;intro avs ns res h I;unfold Qo1 at h;split at h;cases h;have e:=I _ GN;rw [e];exact Zu9 n a b u v _ _ _ _ (I _ VY);cases h
theorem Zu8(a b c U O:Cg)(x0 A W S x4:Int)(VW:n<=100000):U2 VU 190 [sls n a b c U O,.agg [i x0,i A,i W,i S,i x4]] (sls (n+1) (HN n a x0) (HN n b A) (HN n c W) (HN n U S) (HN n O x4)):=by
 refine G7 (X:={R:=[],H:=[],C:=[],F:=[(52,Qd9)],D:=[] }) (L:=[]) Aa (U0.ofF Ab Ac (UJ.nil _) (L6.cons Wv8 (L6.nil _)) (BH.nil _)) U3 Tryz.func190 (UW Tryz.f190) G9 (t:=need [n<=100000,gdX 5 n λk=>[i (a k),i (b k),i (c k),i (U k),i (O k)]] (need [(n+1)*40<=140737488355328,RY 1 (UA 5 [iI x0,iI A,iI W,iI S,iI x4])] (leaf (RV.lst 5 (n+1) (GL n (λk=>[iI (a k),iI (b k),iI (c k),iI (U k),iI (O k)]) (UA 5 [iI x0,iI A,iI W,iI S,iI x4])))))) VZ ?_;simp only [VR.sat,UF,G6,GQ,UH,UK];have hg:gdX 5 n (λk=>[i (a k),i (b k),i (c k),i (U k),i (O k)]):=λk _=>⟨rfl,λx hx=>by
  simp only [GT,DO,or_false] at hx;rcases hx with rfl|rfl|rfl|rfl|rfl<;>exact ⟨Ak,by simp [AV.one,Value.oneCell']⟩⟩
 refine ⟨⟨VW,hg⟩,⟨VO,λj hj x hx=>?_⟩,?_⟩;obtain rfl:j=0:=VO;have hx:x∈[i x0,i A,i W,i S,i x4]:=hx;simp only [GT,DO,or_false] at hx;rcases hx with rfl|rfl|rfl|rfl|rfl<;>simp [AV.one,Value.oneCell'];intro j hj;refine ⟨?_,λx hx=>?_⟩;exact V3;simp only [GT,DO,or_false] at hx;rcases hx with rfl|rfl|rfl|rfl|rfl<;>exact Ak
def Qo0(a b c U O:Cg):G4
 |[.lst 5 n1 f1,.agg [.x (.int .i64 x0),.x (.int .i64 A),.x (.int .i64 W),.x (.int .i64 S),.x (.int .i64 x4)]]=>some ([lst 5 n1 f1=sls n a b c U O,n<=100000],sls (n+1) (HN n a x0) (HN n b A) (HN n c W) (HN n U S) (HN n O x4))
 |_=>none
theorem Xq8(a b c U O:Cg):VT VU 190 (Qo0 n a b c U O):=by
 refine ⟨(UM Tryz.func190),?_⟩;intro avs ns res h I;unfold Qo0 at h;split at h;cases h;have e:=I _ GN;rw [e];exact Zu8 n a b c U O _ _ _ _ _ (I _ VY);cases h
theorem Zu7(r v:Cg)(x0 A:Int)(VW:n<=100000):U2 VU 188 [rdl n r v,.agg [i x0,i A]] (rdl (n+1) (HN n r x0) (HN n v A)):=by
 refine G7 (X:={R:=[],H:=[],C:=[],F:=[(53,Qd8)],D:=[] }) (L:=[]) Aa (U0.ofF Ab Ac (UJ.nil _) (L6.cons Wv6 (L6.nil _)) (BH.nil _)) U3 Tryz.func188 (UW Tryz.f188) G9 (t:=need [n<=100000,gdX 2 n λk=>[i (r k),i (v k)]] (need [(n+1)*16<=140737488355328,RY 1 (UA 2 [iI x0,iI A])] (leaf (RV.lst 2 (n+1) (GL n (λk=>[iI (r k),iI (v k)]) (UA 2 [iI x0,iI A])))))) VZ ?_;simp only [VR.sat,UF,G6,GQ,UH,UK];have hg:gdX 2 n (λk=>[i (r k),i (v k)]):=λk _=>⟨rfl,λx hx=>by
  simp only [GT,DO,or_false] at hx;rcases hx with rfl|rfl<;>exact ⟨Ak,by simp [AV.one,Value.oneCell']⟩⟩
 refine ⟨⟨VW,hg⟩,⟨VO,λj hj x hx=>?_⟩,?_⟩;obtain rfl:j=0:=VO;have hx:x∈[i x0,i A]:=hx;simp only [GT,DO,or_false] at hx;rcases hx with rfl|rfl<;>simp [AV.one,Value.oneCell'];intro j hj;refine ⟨?_,λx hx=>?_⟩;exact V3;simp only [GT,DO,or_false] at hx;rcases hx with rfl|rfl<;>exact Ak
def Qn9(r v:Cg):G4
 |[.lst 2 n1 f1,.agg [.x (.int .i64 x0),.x (.int .i64 A)]]=>some ([lst 2 n1 f1=rdl n r v,n<=100000],rdl (n+1) (HN n r x0) (HN n v A))
 |_=>none
theorem Xq7(r v:Cg):VT VU 188 (Qn9 n r v):=by
 refine ⟨(UM Tryz.func188),?_⟩;intro avs ns res h I;unfold Qn9 at h;split at h;cases h;have e:=I _ GN;rw [e];exact Zu7 n r v _ _ (I _ VY);cases h
theorem Zv0(a b c d:Cg)(w:Nat->Bool)(x0 A W S:Int)(xw:Bool)(VW:n<=100000):U2 VU 189 [crs n a b c d w,.agg [i x0,i A,i W,i S,bl xw]] (crs (n+1) (HN n a x0) (HN n b A) (HN n c W) (HN n d S) (apB n w xw)):=by
 refine G7 (X:={R:=[],H:=[],C:=[],F:=[(51,cX)],D:=[] }) (L:=[]) Aa (U0.ofF Ab Ac (UJ.nil _) (L6.cons mL (L6.nil _)) (BH.nil _)) U3 Tryz.func189 (UW Tryz.f189) G9 (t:=need [n<=100000,gdX 5 n λk=>[i (a k),i (b k),i (c k),i (d k),bl (w k)]] (need [(n+1)*40<=140737488355328,RY 1 (UA 5 [iI x0,iI A,iI W,iI S,AV.x (.bool xw)])] (leaf (RV.lst 5 (n+1) (GL n (λk=>[iI (a k),iI (b k),iI (c k),iI (d k),AV.x (.bool (w k))]) (UA 5 [iI x0,iI A,iI W,iI S,AV.x (.bool xw)])))))) VZ ?_;simp only [VR.sat,UF,G6,GQ,UH,UK];have hg:gdX 5 n (λk=>[i (a k),i (b k),i (c k),i (d k),bl (w k)]):=λk _=>⟨rfl,λx hx=>by
  simp only [GT,DO,or_false] at hx;rcases hx with rfl|rfl|rfl|rfl|rfl<;>exact ⟨Ak,by simp [AV.one,Value.oneCell']⟩⟩
 refine ⟨⟨VW,hg⟩,⟨VO,λj hj x hx=>?_⟩,?_⟩;obtain rfl:j=0:=VO;have hx:x∈[i x0,i A,i W,i S,bl xw]:=hx;simp only [GT,DO,or_false] at hx;rcases hx with rfl|rfl|rfl|rfl|rfl<;>simp [AV.one,Value.oneCell'];intro j hj;refine ⟨?_,λx hx=>?_⟩;exact V3;simp only [GT,DO,or_false] at hx;rcases hx with rfl|rfl|rfl|rfl|rfl<;>exact Ak
def Qo2(a b c d:Cg)(w:Nat->Bool):G4
 |[.lst 5 n1 f1,.agg [.x (.int .i64 x0),.x (.int .i64 A),.x (.int .i64 W),.x (.int .i64 S),.x (.bool xw)]]=>some ([lst 5 n1 f1=crs n a b c d w,n<=100000],crs (n+1) (HN n a x0) (HN n b A) (HN n c W) (HN n d S) (apB n w xw))
 |_=>none
theorem Xr0(a b c d:Cg)(w:Nat->Bool):VT VU 189 (Qo2 n a b c d w):=by
 refine ⟨(UM Tryz.func189),?_⟩;intro avs ns res h I;unfold Qo2 at h;split at h;cases h;have e:=I _ GN;rw [e];exact Zv0 n a b c d w _ _ _ _ _ (I _ VY);cases h
end
def RW:G4
 |[.x (.int .i64 n),.x (.int .i64 U),.x (.int .i64 O)]=>some ([],bl (bt U n O))
 |_=>none
theorem IX(n U O:Int):U2 VU 29 [i n,i U,i O] (bl (bt U n O)):=by
 refine H0 Tryz.func29 (t:=branch (decide (U<=n)) (leaf (RV.x (.bool (decide (n<=O))))) (leaf (RV.x (WL)))) VZ ?_;exact VB
theorem BB:VT VU 29 RW:=by
 refine ⟨(UM Tryz.func29),?_⟩;intro avs ns res h I;unfold RW at h;split at h;cases h;exact IX _ _ _;cases h
end Go.Proofs.YtcdmhnaeifaikaaGreatDoor.Hd
namespace Go.Proofs.YtcdmhnaeifaikaaGreatDoor
open Go Go.Sx Go.RowKit
open Go.Sx.VR (need branch leaf)
open Go.Sx.AV (lst ptr agg roI tup top)
theorem Zt4:Tryz.prog.follows .mixedOrders=true:=VZ
abbrev MS(d:TypeId)(k:Value):Value:= .iface d (.agg #[k])
noncomputable abbrev RI:F4:=AT Tryz.prog [] {} [] [] Tryz.f102 (UB Tryz.f102)
theorem RZ:DE VU 102 RI:=
 FY (G:=[]) (X:={}) Aa (λcx=>U0.nil _ cx) (UY.nil _) Zt4 (UM Tryz.func102) Tryz.func102 (UW Tryz.f102)
  (λj I _ sp A=>by simp at A)
end Go.Proofs.YtcdmhnaeifaikaaGreatDoor
namespace Go.Proofs.YtcdmhnaeifaikaaGreatDoor.Hd
open Go Go.Shelf Go.Sx
theorem Wg4{e:UP}{w:World}(hgl:D2 e w):Lib.TabIs Tryz.prog w "internal/strconv.uint64pow10" .u64 Lib.pow10Tab:=by
 obtain ⟨_,_,o,ho,_,T,fr,rfl⟩:=hgl 2 _ rfl;have hg:Tryz.prog.globalNamed "internal/strconv.uint64pow10"=some 2:=VZ;unfold Lib.TabIs World.var?;rw [hg];show (match w.heap[2]? with|some (.cells cs _ _)=>some cs|_=>none)=_
 rw [ho];simp [Lib.pow10Tab]
theorem Zt5{e:UP}{w:World}(hgl:D2 e w): ∃m,w.cell? ⟨3,0,none⟩=some (.int .i64 m):=by
 obtain ⟨_,_,o,ho,_,m,T,fr,rfl⟩:=hgl 3 _ rfl;exact ⟨m,by simp [World.cell?,ho]⟩
theorem Xq0(n:Int)(VW:VQ n):U2 VU 62 [.x (.int .i64 n)] (.x (.string ⟨(Lib.itoa n).toArray⟩)):=by
 intro e w args hro hgl FU hr;obtain ⟨u,us,rfl,h1,h2⟩:=hr.cons_inv;cases h2.nil_inv;cases h1.x_inv;unfold VQ at VW;refine Calls.mono (Any.strconv_Itoa Qh2 n VO VO w (Wg4 hgl)) ?_;rintro en w' ⟨rfl,k,os,rfl⟩;exact ⟨_,rfl,Lib.below_grow _ w (Am _) k os,.x _⟩
def rO:G4
 |[.x (.int .i64 n)]=>some ([VQ n],.x (.string ⟨(Lib.itoa n).toArray⟩))
 |_=>none
theorem bL:VT VU 62 rO:=by
 refine ⟨(UM Tryz.func62),?_⟩;intro avs ns res h hn;unfold rO at h;split at h;cases h;exact Xq0 _ (hn _ VY);cases h
def spl(s sep:ByteArray):List ByteArray:=Lib.splitB sep 0 (Lib.countB s sep) s
theorem Wg8(s sep:ByteArray)(hs:s.size<4294967281)(h1:1<=sep.size):U2 VU 100 [.x (.string s),.x (.string sep)] (.lst 1 (Lib.countB s sep+1) (λk=>[.x (.string ((spl s sep).getD k ByteArray.empty))])):=by
 intro e w args hro hgl FU hr;obtain ⟨u,us,rfl,r1,r2⟩:=hr.cons_inv;obtain ⟨u2,us2,rfl,r3,r4⟩:=r2.cons_inv;cases r4.nil_inv;cases r1.x_inv;cases r3.x_inv;obtain ⟨m,hm⟩:=Zt5 hgl;have hle:=Lib.countB_le sep h1 s.size s (Am _);have D5:=Lib.splitB_all sep h1 0 _ s rfl;refine Calls.mono (Any.strings_Split Wo0 VZ s sep m w hs hm h1) ?_;rintro en w' ⟨rfl,rfl⟩;generalize hobj:Obj.cells (List.map Value.string (Lib.splitB sep 0 (Lib.countB s sep) s)).toArray (dD.t 9)=ob;have hsz:(w.alloc ob).heap.size=w.heap.size+1:=VY;refine ⟨_,rfl,(RowKit.Below.refl w.heap.size w).alloc (Am _) _,?_⟩;refine Rep.lst (e:=PS w (w.alloc ob)) 1 _ _ w.heap.size 0 _ (λi _=> .string ((spl s sep).getD i ByteArray.empty)) (λ_=>(show w.heap.size<=w.heap.size/\w.heap.size<(w.alloc ob).heap.size by omega)) (λ_=>VO) (λi _ a ha=>?_) (Am _) (by unfold maxLen;omega) (λi j O hj=>?_) (λ_ _=>rfl) (λi j a O ha=>?_) _ (λ_=>rfl)
 simp at ha;subst ha;exact .x _
 ·obtain rfl:j=0:=VO;have hi':i<(spl s sep).length:=by unfold spl;omega
  have hh:(w.alloc ob).heap[w.heap.size]? =some ob:=by first|(rw [World.alloc_eq];simp;done)|(simp only [World.alloc_eq,Array.getElem?_push_size];done)|exact Array.getElem?_push_size|(unfold World.alloc;exact Array.getElem?_push_size)
  unfold World.cell?;rw [hh,←hobj];have e:0+(i*1+0)=i:=VO;show (List.map Value.string (spl s sep)).toArray[0+(i*1+0)]? =_;rw [e];simp [hi']
 cases j with
 |zero=>simp at ha;subst ha;exact .x _
 |succ j=>simp at ha
open Go Go.Shelf Go.Sx Go.RowKit
def U5(s:ByteArray):Int:=match Lib.atoiAll s.data.toList with
 | .ok v=>v
 |_=>0
def O7(s:ByteArray):Bool:=match Lib.atoiAll s.data.toList with
 | .ok v=>decide (Lib.itoa v=s.data.toList)&&decide ((Lib.trimPrefix s.data.toList [45]).length<=9)
 |_=>false
theorem LH{l:List UInt8}{s:ByteArray}:(⟨l.toArray⟩:ByteArray)=s↔l=s.data.toList:=by
 constructor;rintro rfl;rfl;rintro rfl;cases s;rfl
theorem Qb6(k:Int)(w:World):Calls Tryz.prog 102 #[.bool false,.int .i64 k] w λen w'=>en= .panicked [{v:=MS 159 (.int .i64 k),recovered:=false}]/\w'=w:=by
 go_enter Tryz.func102,Tryz.ntmps102
 go_wp2
 exact ⟨rfl,rfl,rfl⟩
theorem Xv8(k:Int)(w:World):Calls Tryz.prog 102 #[.bool true,.int .i64 k] w λen w'=>en= .returned (.tuple #[])/\w'=w:=by
 go_enter Tryz.func102,Tryz.ntmps102
 go_wp2
 go_end0
 exact ⟨rfl,rfl⟩
theorem RO{e:UP}{w w1:World}(h:D2 e w)(hb:Below w.heap.size w w1):D2 e w1:=λb p hp=>by
 obtain ⟨h1,h2,o,h3,h4⟩:=h b p hp;exact ⟨h1,PJ h2 hb.size,o,(hb.block b h2).trans h3,h4⟩
theorem x6{w w1:World}{T:TypeId}(h:w1=w\/ ∃t,w1=Lib.bytesWorld w T t):Below w.heap.size w w1:=by
 rcases h with rfl|⟨t,rfl⟩;exact Below.refl _ _;exact Lib.bytesWorld_below w _ _
theorem Qk5{l:List UInt8}{v:Int}(h:Lib.atoiAll l= .ok v): -9223372036854775808<=v/\v<=9223372036854775807:=by
 unfold Lib.atoiAll at h;split at h;cases h;simp only at h;split at h;cases h;cases h;split at h;cases h;split at h;cases h;cases h;split<;>omega
theorem uS{v:Int}(h: -9223372036854775808<=v/\v<=9223372036854775807){e:UP}{w:World}(hgl:D2 e w):Calls Tryz.prog 62 #[.int .i64 v] w λen w'=>en= .returned (.string ⟨(Lib.itoa v).toArray⟩)/\Below w.heap.size w w':=by
 refine Calls.mono (Any.strconv_Itoa Qh2 v h.1 h.2 w (Wg4 hgl)) ?_;rintro en w' ⟨rfl,k,os,rfl⟩;exact ⟨rfl,Lib.below_grow _ w (Am _) k os⟩
theorem uB(s p:ByteArray)(w:World):Calls Tryz.prog 149 #[.string s,.string p] w λen w'=>en= .returned (.string ⟨(Lib.trimPrefix s.data.toList p.data.toList).toArray⟩)/\w'=w:=Any.strings_TrimPrefix Xp6 s p w
theorem Wz6{e:UP}{w:World}(hgl:D2 e w):(∃ev,w.cell? ⟨0,0,none⟩=some ev/\(ev= .nilIface\/ ∃te pe,ev= .iface te pe))/\ ∃ev,w.cell? ⟨1,0,none⟩=some ev/\(ev= .nilIface\/ ∃te pe,ev= .iface te pe):=by
 obtain ⟨_,_,o,h3,_,te,pe,T,fr,rfl⟩:=hgl 0 _ rfl;obtain ⟨_,_,o,k3,_,te',pe',T',fr',rfl⟩:=hgl 1 _ rfl;exact ⟨⟨.iface te pe,by simp [World.cell?,h3],.inr ⟨te,pe,rfl⟩⟩,⟨.iface te' pe',by simp [World.cell?,k3],.inr ⟨te',pe',rfl⟩⟩⟩
theorem sM(s:ByteArray)(hs:s.size<=100000)(hb:O7 s=true){e:UP}{w:World}(hgl:D2 e w):Calls Tryz.prog 103 #[.string s] w λen w'=>en= .returned (.int .i64 (U5 s))/\Below w.heap.size w w':=by
 unfold O7 at hb;split at hb
 ·rename_i v hv;rw [HF,vK,vK] at hb;have hA:=Any.strconv_Atoi_ok dF s VO v hv w;have hnv:U5 s=v:=by unfold U5;rw [hv]
  rw [hnv];have hin:=Qk5 hv
  change Calls Tryz.prog 70 _ _ _ at hA
  have heq2:(⟨(Lib.itoa v).toArray⟩:ByteArray)=s:=LH.2 hb.1;have hle:(decide (((Lib.trimPrefix s.data.toList [45]).length:Int)<=9))=true:=decide_eq_true VO
  go_enter Tryz.func103,Tryz.ntmps103
  go_wp2_with (go_at_call 70;refine hA.mono ?_;rintro en w1 ⟨rfl,hw1⟩)
  have hb1:=x6 hw1;refine (uS hin (RO hgl hb1)).mono ?_;rintro en w2 ⟨rfl,hb2⟩;have hb3:Below w.heap.size w w2:=hb1.trans (hb2.mono hb1.size)
  go_wp2_with (go_at_call 149;refine (uB _ _ _).mono ?_;rintro en w3 ⟨rfl,rfl⟩)
  try rw [hle]
  refine (Xv8 _ _).mono ?_;rintro en w4 ⟨rfl,rfl⟩
  go_wp2
  go_ret
  exact ⟨rfl,hb3⟩
 cases hb
theorem VM{p:Prop}(h:p:=by
 refine Calls.mono (Any.strconv_Atoi_range dF s VO h ev1 w he1 he1') ?_;rintro en w' ⟨N,rfl,_,_,hb⟩;exact ⟨⟨_,_,_,rfl⟩,hb⟩):p:=h
theorem VL{p:Prop}(h:p:=by
 refine Calls.mono (Any.strconv_Atoi_syntax dF s VO h ev0 w he0 he0') ?_;rintro en w' ⟨N,rfl,_,_,hb⟩;exact ⟨⟨_,_,_,rfl⟩,hb⟩):p:=h
theorem Qs9(s:ByteArray)(hs:s.size<=100000)(hb:O7 s=false){e:UP}{w:World}(hgl:D2 e w):Calls Tryz.prog 103 #[.string s] w λen w'=>en= .panicked [{v:=MS 159 (.int .i64 4),recovered:=false}]/\Below w.heap.size w w':=by
 obtain ⟨⟨ev0,he0,he0'⟩,⟨ev1,he1,he1'⟩⟩:=Wz6 hgl;unfold O7 at hb;split at hb;rename_i v hv;have hA:=Any.strconv_Atoi_ok dF s VO v hv w;have hin:=Qk5 hv
 change Calls Tryz.prog 70 _ _ _ at hA
 rcases Classical.em (Lib.itoa v=s.data.toList) with h1|h1
 ·have heq2:(⟨(Lib.itoa v).toArray⟩:ByteArray)=s:=LH.2 h1;rw [decide_eq_true h1,Bool.true_and,Jv7] at hb;have hle:(decide (((Lib.trimPrefix s.data.toList [45]).length:Int)<=9))=false:=decide_eq_false VO
  go_enter Tryz.func103,Tryz.ntmps103
  go_wp2_with (go_at_call 70;refine hA.mono ?_;rintro en w1 ⟨rfl,hw1⟩)
  have hb1:=x6 hw1;refine (uS hin (RO hgl hb1)).mono ?_;rintro en w2 ⟨rfl,hb2⟩;have hb3:Below w.heap.size w w2:=hb1.trans (hb2.mono hb1.size)
  go_wp2_with (go_at_call 149;refine (uB _ _ _).mono ?_;rintro en w3 ⟨rfl,rfl⟩)
  try rw [hle]
  refine (Qb6 _ _).mono ?_;rintro en w4 ⟨rfl,rfl⟩;exact ⟨rfl,rfl,hb3⟩
 ·have hne: ¬(⟨(Lib.itoa v).toArray⟩:ByteArray)=s:=λh=>h1 (LH.1 h)
  go_enter Tryz.func103,Tryz.ntmps103
  go_wp2_with (go_at_call 70;refine hA.mono ?_;rintro en w1 ⟨rfl,hw1⟩)
  have hb1:=x6 hw1;refine (uS hin (RO hgl hb1)).mono ?_;rintro en w2 ⟨rfl,hb2⟩;have hb3:Below w.heap.size w w2:=hb1.trans (hb2.mono hb1.size)
  go_wp2_with (go_at_call 149;refine (uB _ _ _).mono ?_;rintro en w3 ⟨rfl,rfl⟩)
  exact absurd ‹Lib.itoa v=s.toList› (λhx=>h1 (hx.trans (ByteArray.toList_eq s)));refine (Qb6 _ _).mono ?_;rintro en w4 ⟨rfl,rfl⟩;exact ⟨rfl,rfl,hb3⟩
 ·rename_i hno;have hA:Calls Tryz.prog 70 #[.string s] w λen w'=>(∃k te pe,en= .returned (.tuple #[.int .i64 k,.iface te pe]))/\Below w.heap.size w w':=by
   cases h:Lib.atoiAll s.data.toList;rename_i v;exact absurd h (hno v);exact VL;exact VM
  go_enter Tryz.func103,Tryz.ntmps103
  go_wp2_with (go_at_call 70;refine hA.mono ?_;rintro en w1 ⟨⟨k,te,pe,rfl⟩,hb3⟩)
  refine (Qb6 _ _).mono ?_;rintro en w4 ⟨rfl,rfl⟩;exact ⟨rfl,rfl,hb3⟩
def k8:F4:=λavs m nx sv=>match avs with
 |[.x (.string s)]=>some (.need [s.size<=100000] (.branch (O7 s) (.leaf (.ret (.x (.int .i64 (U5 s))),m,nx,sv)) (.leaf (.pan (MS 159 (.int .i64 4)),m,nx,sv))))
 |_=>none
theorem xF:DE VU 103 k8:=by
 refine ⟨(UM Tryz.func103),?_⟩;intro avs m nx sv t ht Q hQ c w0 T e ds args w hE hB hm hl P2 hxt hr;unfold k8 at ht;split at ht;rename_i s;cases ht;obtain ⟨hs,hQ⟩:=hQ;obtain ⟨u,us,rfl,h1,h2⟩:=hr.cons_inv;cases h2.nil_inv;cases h1.x_inv;have key: ∀{w':World},Below w.heap.size w w'->Step e e w w'/\GB e w0.heap.size w'/\Below w0.heap.size w0 w':=by
  intro w' hb;have st:Step e e w w':=⟨λb hlt hr=>⟨hr,hb.block b hlt⟩,λ_ h=>⟨h,rfl,rfl⟩,hb.size⟩;exact ⟨st,⟨λb h=>⟨(hE.apart b h).1,PJ (hE.apart b h).2 hb.size⟩,λb k h=>⟨(hE.owned b k h).1,PJ (hE.owned b k h).2 hb.size⟩,hE.glob.step st⟩,hB.trans (hb.mono hB.size)⟩
 cases hb:O7 s with
 |true=>
  refine (sM s hs hb hE.glob).mono ?_;rintro en w' ⟨rfl,hbl⟩;obtain ⟨k1,k2,k3⟩:=key hbl;exact ⟨.ret (.x (.int .i64 (U5 s))),_,_,_,e,⟨_,rfl,.x _⟩,hQ.1 hb,k2,k3,hm.ext hbl k1 (λ_ _ h=>h),hl,P2,hxt.step k1⟩
 |false=>
  refine (Qs9 s hs hb hE.glob).mono ?_;rintro en w' ⟨rfl,hbl⟩;obtain ⟨k1,k2,k3⟩:=key hbl;exact ⟨.pan (MS 159 (.int .i64 4)),_,_,_,e,rfl,hQ.2 hb,k2,k3,hm.ext hbl k1 (λ_ _ h=>h),hl,P2,hxt.step k1⟩
 cases ht
def wdE:List MapEntry:=[{key:= .string ⟨#[116,104,114,101,97,100]⟩,val:= .agg #[.int .i64 4,.func (.func 141) #[] #[]],born:=0},
 {key:= .string ⟨#[115,116,114,105,107,101]⟩,val:= .agg #[.int .i64 1,.func (.func 142) #[] #[]],born:=1},
 {key:= .string ⟨#[98,97,114,111]⟩,val:= .agg #[.int .i64 2,.func (.func 143) #[] #[]],born:=2},
 {key:= .string ⟨#[98,97,116,104]⟩,val:= .agg #[.int .i64 2,.func (.func 144) #[] #[]],born:=3},
 {key:= .string ⟨#[115,101,101]⟩,val:= .agg #[.int .i64 2,.func (.func 145) #[] #[]],born:=4},
 {key:= .string ⟨#[105,115,115,117,101]⟩,val:= .agg #[.int .i64 4,.func (.func 146) #[] #[]],born:=5},
 {key:= .string ⟨#[118,111,105,100]⟩,val:= .agg #[.int .i64 1,.func (.func 147) #[] #[]],born:=6},
 {key:= .string ⟨#[115,101,108,108]⟩,val:= .agg #[.int .i64 5,.func (.func 148) #[] #[]],born:=7}]
theorem wT(w:World)(es:Array MapEntry)(c:Nat)(s:ByteArray)(val:Value)(hf:Instr.findNow .string (.string s) es.toList 0=some none):
  (Instr.mapUpdate 203 (.map (some w.heap.size)) (.string s) val).run Tryz.prog (w.alloc (.map es c))= .ok () (w.alloc (.map (es.push {key:= .string s,val:=val,born:=c}) (c+1))):=by
 have hm:Tryz.prog.underlying 203=some (.map 9 201):=VZ;have hk:Tryz.prog.underlying 9=some .string:=VZ;have hb:(w.alloc (.map es c)).heap[w.heap.size]? =some (.map es c):=World.alloc_heap_new w _;have hc:(Instr.checkKey false 10000 9 (.string s)).run Tryz.prog (w.alloc (.map es c))= .ok () (w.alloc (.map es c)):=MapKept.run_checkKey (k:= .string s) hk (by simp [MapKept.IsKey]) false 9999
 have hp: ∀o o':Obj,({w.alloc o with heap:=(w.alloc o).heap.setIfInBounds w.heap.size o'}:World)=w.alloc o':=λo o'=>by
  have ha:(w.heap.push o).setIfInBounds w.heap.size o'=w.heap.push o':=Array.toList_inj.1 (by simp [List.set_append])
  have h0: ∀q:Obj,(w.alloc q).heap=w.heap.push q:=λq=>rfl;rw [h0,ha];rfl
 have h1:(Instr.mapUpdate 203 (.map (some w.heap.size)) (.string s) val).run Tryz.prog (w.alloc (.map es c))= .ok () {w.alloc (.map es c) with heap:=(w.alloc (.map es c)).heap.setIfInBounds w.heap.size (.map (es.push {key:= .string s,val:=val,born:=c}) (c+1)) }:=by
  simp only [Instr.mapUpdate,At,run_underlying hm,MapKept.run_getObj_map hb,hc,MapKept.run_findKey hk hf,MapKept.run_setObj_map _ hb,Result.andThen]
 rw [h1,hp]
theorem N9(w:World):Calls Tryz.prog 101 #[] w λen w'=>en= .returned (.map (some w.heap.size))/\w'=w.alloc (.map wdE.toArray 8):=by
 have i0:=run_makeMap (P:=Tryz.prog) 203 w;have i1:=wT w #[] 0 ⟨#[116,104,114,101,97,100]⟩ (.agg #[.int .i64 4,.func (.func 141) #[] #[]]) (by rfl)
 have i2:=wT w #[{key:= .string ⟨#[116,104,114,101,97,100]⟩,val:= .agg #[.int .i64 4,.func (.func 141) #[] #[]],born:=0}] 1 ⟨#[115,116,114,105,107,101]⟩ (.agg #[.int .i64 1,.func (.func 142) #[] #[]]) (by rfl)
 have i3:=wT w #[{key:= .string ⟨#[116,104,114,101,97,100]⟩,val:= .agg #[.int .i64 4,.func (.func 141) #[] #[]],born:=0},{key:= .string ⟨#[115,116,114,105,107,101]⟩,val:= .agg #[.int .i64 1,.func (.func 142) #[] #[]],born:=1}] 2 ⟨#[98,97,114,111]⟩ (.agg #[.int .i64 2,.func (.func 143) #[] #[]]) (by rfl)
 have i4:=wT w #[{key:= .string ⟨#[116,104,114,101,97,100]⟩,val:= .agg #[.int .i64 4,.func (.func 141) #[] #[]],born:=0},{key:= .string ⟨#[115,116,114,105,107,101]⟩,val:= .agg #[.int .i64 1,.func (.func 142) #[] #[]],born:=1},{key:= .string ⟨#[98,97,114,111]⟩,val:= .agg #[.int .i64 2,.func (.func 143) #[] #[]],born:=2}] 3 ⟨#[98,97,116,104]⟩ (.agg #[.int .i64 2,.func (.func 144) #[] #[]]) (by rfl)
 have i5:=wT w #[{key:= .string ⟨#[116,104,114,101,97,100]⟩,val:= .agg #[.int .i64 4,.func (.func 141) #[] #[]],born:=0},{key:= .string ⟨#[115,116,114,105,107,101]⟩,val:= .agg #[.int .i64 1,.func (.func 142) #[] #[]],born:=1},{key:= .string ⟨#[98,97,114,111]⟩,val:= .agg #[.int .i64 2,.func (.func 143) #[] #[]],born:=2},{key:= .string ⟨#[98,97,116,104]⟩,val:= .agg #[.int .i64 2,.func (.func 144) #[] #[]],born:=3}] 4 ⟨#[115,101,101]⟩ (.agg #[.int .i64 2,.func (.func 145) #[] #[]]) (by rfl)
 have i6:=wT w #[{key:= .string ⟨#[116,104,114,101,97,100]⟩,val:= .agg #[.int .i64 4,.func (.func 141) #[] #[]],born:=0},{key:= .string ⟨#[115,116,114,105,107,101]⟩,val:= .agg #[.int .i64 1,.func (.func 142) #[] #[]],born:=1},{key:= .string ⟨#[98,97,114,111]⟩,val:= .agg #[.int .i64 2,.func (.func 143) #[] #[]],born:=2},{key:= .string ⟨#[98,97,116,104]⟩,val:= .agg #[.int .i64 2,.func (.func 144) #[] #[]],born:=3},{key:= .string ⟨#[115,101,101]⟩,val:= .agg #[.int .i64 2,.func (.func 145) #[] #[]],born:=4}] 5 ⟨#[105,115,115,117,101]⟩ (.agg #[.int .i64 4,.func (.func 146) #[] #[]]) (by rfl)
 have i7:=wT w #[{key:= .string ⟨#[116,104,114,101,97,100]⟩,val:= .agg #[.int .i64 4,.func (.func 141) #[] #[]],born:=0},{key:= .string ⟨#[115,116,114,105,107,101]⟩,val:= .agg #[.int .i64 1,.func (.func 142) #[] #[]],born:=1},{key:= .string ⟨#[98,97,114,111]⟩,val:= .agg #[.int .i64 2,.func (.func 143) #[] #[]],born:=2},{key:= .string ⟨#[98,97,116,104]⟩,val:= .agg #[.int .i64 2,.func (.func 144) #[] #[]],born:=3},{key:= .string ⟨#[115,101,101]⟩,val:= .agg #[.int .i64 2,.func (.func 145) #[] #[]],born:=4},{key:= .string ⟨#[105,115,115,117,101]⟩,val:= .agg #[.int .i64 4,.func (.func 146) #[] #[]],born:=5}] 6 ⟨#[118,111,105,100]⟩ (.agg #[.int .i64 1,.func (.func 147) #[] #[]]) (by rfl)
 have i8:=wT w #[{key:= .string ⟨#[116,104,114,101,97,100]⟩,val:= .agg #[.int .i64 4,.func (.func 141) #[] #[]],born:=0},{key:= .string ⟨#[115,116,114,105,107,101]⟩,val:= .agg #[.int .i64 1,.func (.func 142) #[] #[]],born:=1},{key:= .string ⟨#[98,97,114,111]⟩,val:= .agg #[.int .i64 2,.func (.func 143) #[] #[]],born:=2},{key:= .string ⟨#[98,97,116,104]⟩,val:= .agg #[.int .i64 2,.func (.func 144) #[] #[]],born:=3},{key:= .string ⟨#[115,101,101]⟩,val:= .agg #[.int .i64 2,.func (.func 145) #[] #[]],born:=4},{key:= .string ⟨#[105,115,115,117,101]⟩,val:= .agg #[.int .i64 4,.func (.func 146) #[] #[]],born:=5},{key:= .string ⟨#[118,111,105,100]⟩,val:= .agg #[.int .i64 1,.func (.func 147) #[] #[]],born:=6}] 7 ⟨#[115,101,108,108]⟩ (.agg #[.int .i64 5,.func (.func 148) #[] #[]]) (by rfl)
 go_enter Tryz.func101,Tryz.ntmps101
 go_wp2
 go_ret
 exact ⟨rfl,rfl⟩
def eqU:List UInt8->List UInt8->Bool
 |[],[]=>true
 |a::l,b::m=>Nat.beq a.toNat b.toNat&&eqU l m
 |_,_=>false
theorem c9: ∀{l m:List UInt8},eqU l m=true↔l=m
 |[],[]=>by simp [eqU]
 |[],_::_=>by simp [eqU]
 |_::_,[]=>by simp [eqU]
 |a::l,b::m=>by
  simp only [eqU,HF,c9,List.cons.injEq];constructor;rintro ⟨h,h2⟩;exact ⟨UInt8.toNat_inj.1 (H5 h),h2⟩;rintro ⟨rfl,h2⟩;exact ⟨Nat.beq_refl _,h2⟩
section
variable (s:ByteArray)
def wdK:Nat:=match eqU s.data.toList [116,104,114,101,97,100] with
 |true=>0
 |false=>match eqU s.data.toList [115,116,114,105,107,101] with
 |true=>1
 |false=>match eqU s.data.toList [98,97,114,111] with
 |true=>2
 |false=>match eqU s.data.toList [98,97,116,104] with
 |true=>3
 |false=>match eqU s.data.toList [115,101,101] with
 |true=>4
 |false=>match eqU s.data.toList [105,115,115,117,101] with
 |true=>5
 |false=>match eqU s.data.toList [118,111,105,100] with
 |true=>6
 |false=>match eqU s.data.toList [115,101,108,108] with
 |true=>7
 |false=>8
def wdM:Nat->Int
 | 0=>4
 | 1=>1
 | 2=>2
 | 3=>2
 | 4=>2
 | 5=>4
 | 6=>1
 | 7=>5
 |_=>0
def wdO:Bool:=Nat.blt (wdK s) 8
def Wa2:List AV:=[match wdO s with|true=> .x (.int .i64 (wdM (wdK s)))|false=> .top,match wdO s with|true=> .fn (.func (141+wdK s)) [] []|false=> .top]
def wdL:List ByteArray:=[⟨#[116,104,114,101,97,100]⟩,⟨#[115,116,114,105,107,101]⟩,⟨#[98,97,114,111]⟩,⟨#[98,97,116,104]⟩,⟨#[115,101,101]⟩,⟨#[105,115,115,117,101]⟩,⟨#[118,111,105,100]⟩,⟨#[115,101,108,108]⟩]
theorem CK:(wdK s<8/\wdL[wdK s]? =some s)\/(wdK s=8/\ ∀x∈wdL,x≠s):=by
 have mk: ∀(l:List UInt8),eqU s.data.toList l=true->(⟨l.toArray⟩:ByteArray)=s:=λl h=>LH.2 (c9.1 h).symm;have no: ∀(l:List UInt8),eqU s.data.toList l=false->(⟨l.toArray⟩:ByteArray)≠s:=λl h he=>by
  rw [c9.2 (LH.1 he).symm] at h;cases h
 unfold wdK;split;rename_i h0;exact .inl ⟨VO,by rw [←mk _ h0];rfl⟩
 rename_i h0;split;rename_i h1;exact .inl ⟨VO,by rw [←mk _ h1];rfl⟩
 rename_i h1;split;rename_i h2;exact .inl ⟨VO,by rw [←mk _ h2];rfl⟩
 rename_i h2;split;rename_i h3;exact .inl ⟨VO,by rw [←mk _ h3];rfl⟩
 rename_i h3;split;rename_i h4;exact .inl ⟨VO,by rw [←mk _ h4];rfl⟩
 rename_i h4;split;rename_i h5;exact .inl ⟨VO,by rw [←mk _ h5];rfl⟩
 rename_i h5;split;rename_i h6;exact .inl ⟨VO,by rw [←mk _ h6];rfl⟩
 rename_i h6;split;rename_i h7;exact .inl ⟨VO,by rw [←mk _ h7];rfl⟩
 rename_i h7;refine .inr ⟨rfl,λx hx=>?_⟩;simp only [wdL,GT,DO,or_false] at hx;rcases hx with rfl|rfl|rfl|rfl|rfl|rfl|rfl|rfl;exact no _ h0;exact no _ h1;exact no _ h2;exact no _ h3;exact no _ h4;exact no _ h5;exact no _ h6;exact no _ h7
def wdV:List Value:=[.int .i64 (wdM (wdK s)),.func (.func (141+wdK s)) #[] #[]]
end
theorem mW{s:ByteArray}(h:wdO s=true): ∃j,Instr.findNow .string (.string s) wdE 0=some (some (j,.agg (wdV s).toArray)):=by
 rcases CK s with ⟨h1,h2⟩|⟨h1,_⟩;unfold wdV;rcases (show wdK s=0\/wdK s=1\/wdK s=2\/wdK s=3\/wdK s=4\/wdK s=5\/wdK s=6\/wdK s=7 by omega) with h3|h3|h3|h3|h3|h3|h3|h3<;>rw [h3] at h2 ⊢ <;>(obtain rfl:_=s:=Bb h2)<;>exact ⟨_,rfl⟩
 unfold wdO at h;rw [h1] at h;cases h
theorem MO{s:ByteArray}: ∀(es:List MapEntry) (j:Nat),(∀x∈es,∃k,x.key= .string k/\k≠s)->Instr.findNow .string (.string s) es j=some none
 |[],_,_=>rfl
 |x::es,j,h=>by
  obtain ⟨k,hk,hne⟩:=h x GN;have hs:Instr.sameNow .string (.string s) (.string k)=some false:=by
   have hb:(s==k)=false:=by
    cases hq:(s==k) with
    |false=>rfl
    |true=>
     obtain ⟨a⟩:=s;obtain ⟨b⟩:=k;have h':(a==b)=true:=hq;exact absurd (by rw [eq_of_beq h']) hne
   simp [Instr.sameNow,hb]
  unfold Instr.findNow;rw [hk,hs];exact MO es (j+1) (λy hy=>h y (D1 _ hy))
theorem Qi9{s:ByteArray}(h:wdO s=false):Instr.findNow .string (.string s) wdE 0=some none:=by
 rcases CK s with ⟨h1,_⟩|⟨_,h2⟩;unfold wdO at h;rw [Cb,ne_eq,Aw] at h;omega;refine MO _ _ λx hx=>?_;simp only [wdE,GT,DO,or_false] at hx;rcases hx with rfl|rfl|rfl|rfl|rfl|rfl|rfl|rfl<;>exact ⟨_,rfl,h2 _ (by simp [wdL])⟩
theorem Xw7:U2 VU 101 [] (.mpr Wa2 wdO):=by
 intro e w args hro hgl FU hr;obtain rfl:=hr.nil_inv;refine (N9 w).mono ?_;rintro en w' ⟨rfl,rfl⟩;have hsz:(w.alloc (.map wdE.toArray 8)).heap.size=w.heap.size+1:=VY;refine ⟨_,rfl,(Below.refl _ _).alloc (Am _) _,?_⟩;refine .mpr Wa2 wdO wdV w.heap.size wdE.toArray 8 (show w.heap.size<=w.heap.size/\w.heap.size<(w.alloc (.map wdE.toArray 8)).heap.size by omega) VO (λs a ha=>?_) (World.alloc_heap_new w _) (λs hs=>by simpa using mW hs) (λs hs=>⟨by simpa using Qi9 hs,λa ha=>?_⟩) (λs hs=>rfl) (λs k a v hs ha hv=>?_)
 unfold Wa2 at ha;cases h:wdO s<;>rw [h] at ha<;>simp only [GT,DO,or_false,or_self] at ha;subst ha;exact .top;rcases ha with rfl|rfl;exact .x _;exact .fn _ _ _ (λ_ h=>by cases h) (λ_ h=>by cases h)
 unfold Wa2 at ha;rw [hs] at ha;exact .inl (by simpa using ha)
 unfold Wa2 at ha;unfold wdV at hv;rw [hs] at ha
 match k,ha,hv with
 | 0,ha,hv=>
  simp only [List.getElem?_cons_zero,HL] at ha hv;subst ha hv;exact .x _
 | 1,ha,hv=>
  simp only [List.getElem?_cons_succ,List.getElem?_cons_zero,HL] at ha hv;subst ha hv;exact .fn _ [] [] [] [] rfl (λ_ _ _ h=>by simp at h) rfl (λ_ _ _ h=>by simp at h)
 |k+2,ha,hv=>simp at ha
def Xg2:G4
 |[]=>some ([],.mpr Wa2 wdO)
 |_=>none
theorem x7:VT VU 101 Xg2:=by
 refine ⟨(UM Tryz.func101),?_⟩;intro avs ns res h hn;unfold Xg2 at h;split at h;cases h;exact Xw7;cases h
open Go Go.Sx Go.RowKit Bo
open Go.Sx.VR (need branch leaf)
open Go.Sx.AV (lst ptr agg roI tup top)
structure HS where
 nr:Nat
 ra:Cg
 rb:Cg
 ru:Cg
 rv:Cg
 pl:Int
 ph:Int
 nb:Nat
 ql:Cg
 qh:Cg
 qm:Ch
 qr:Nat->Cg
 qv:Nat->Cg
 nc:Nat
 ca:Cg
 cb:Cg
 cc:Cg
 cd:Cg
 cv:Nat->Bool
 ns:Nat
 sa:Cg
 sb:Cg
 sc:Cg
 sl:Cg
 sh:Cg
 xn:Nat
 xg:Ci
 yn:Nat
 yg:Ci
section
variable (N:Nat)(s:HS)
abbrev hR:AV:= .lst 4 N λk=>[iI (s.ra k),iI (s.rb k),iI (s.ru k),iI (s.rv k)]
abbrev hY:AV:= .lst 3 N λk=>[iI (s.ql k),iI (s.qh k),.lst 2 (s.qm k) λj=>[iI (s.qr k j),iI (s.qv k j)]]
abbrev hC:AV:= .lst 5 N λk=>[iI (s.ca k),iI (s.cb k),iI (s.cc k),iI (s.cd k),.x (.bool (s.cv k))]
abbrev hT:AV:= .lst 5 N λk=>[iI (s.sa k),iI (s.sb k),iI (s.sc k),iI (s.sl k),iI (s.sh k)]
end
section
variable (s:HS)
abbrev hL:List AV:=[hR s.nr s,iI s.pl,iI s.ph,hY s.nb s,hC s.nc s,hT s.ns s]
abbrev hsR:AV:=rds s.nr s.ra s.rb s.ru s.rv
abbrev hsB:AV:=bds s.nb s.ql s.qh s.qm s.qr s.qv
abbrev hsC:AV:=crs s.nc s.ca s.cb s.cc s.cd s.cv
abbrev hsS:AV:=sls s.ns s.sa s.sb s.sc s.sl s.sh
abbrev hsL:List AV:=[hsR s,i s.pl,i s.ph,hsB s,hsC s,hsS s]
end
def tbP(k:Nat):Int:=UE [720,760,800] k
def tbQ(k:Nat):Int:=UE [985,1000,1014] k
def LJ:G4
 |[.agg [.lst 4 nr fr,.x (.int .i64 pl),.x (.int .i64 ph),.lst 3 nb fb,.lst 5 nc fc,.lst 5 ns fs]]=>some ([],.agg [i 4,i 100,i 20,i 30,.lst 4 nr fr,.lst 2 3 (λk=>[i (tbP k),i (tbQ k)]),i pl,i ph,i 1,i 3])
 |_=>none
theorem Qv9(nr nb nc ns:Nat)(fr fb fc fs:Ci)(pl ph:Int):FJ VU 37 [.agg [.lst 4 nr fr,i pl,i ph,.lst 3 nb fb,.lst 5 nc fc,.lst 5 ns fs]] (.agg [i 4,i 100,i 20,i 30,.lst 4 nr fr,.lst 2 3 (λk=>[i (tbP k),i (tbQ k)]),i pl,i ph,i 1,i 3]):=by
 refine D6 (L:=[]) Aa Ad U3 Tryz.func37 (UW Tryz.f37) G9 (t:=leaf (agg [iI 4,iI 100,iI 20,iI 30,lst 4 nr λa=>fr a,lst 2 3 (UA 2 [iI 720,iI 985,iI 760,iI 1000,iI 800,iI 1014]),iI pl,iI ph,iI 1,iI 3])) VZ ?_;simp only [VR.sat,FN,wK,UH,UK];all_goals exact V8
theorem FH:PE VU 37 LJ:=by
 refine ⟨(UM Tryz.func37),?_⟩;intro avs ns res h hn;unfold LJ at h;split at h;cases h;exact Qv9 _ _ _ _ _ _ _ _ _ _;cases h
def zP:G4
 |[.agg [.lst 4 nr fr,.x (.int .i64 pl),.x (.int .i64 ph),.lst 3 nb fb,.lst 5 nc fc,.lst 5 ns fs]]=>some ([],.agg [ofs,i 1,.lst 3 nb fb])
 |_=>none
abbrev Y2:AV:=lst 2 3 (UA 2 [iI 0,iI 0,iI (-9:Int),iI 9,iI (-9:Int),iI 9])
theorem tI(nr nb nc ns:Nat)(fr fb fc fs:Ci)(pl ph:Int):FJ VU 28 [.agg [.lst 4 nr fr,i pl,i ph,.lst 3 nb fb,.lst 5 nc fc,.lst 5 ns fs]] (.agg [ofs,i 1,.lst 3 nb fb]):=by
 refine D6 (L:=[]) Aa Ad U3 Tryz.func28 (UW Tryz.f28) G9 (t:=leaf (agg [Y2,iI 1,lst 3 nb λa=>fb a])) VZ ?_;simp only [VR.sat,FN,wK,UH,UK];all_goals exact V8
theorem RK:PE VU 28 zP:=by
 refine ⟨(UM Tryz.func28),?_⟩;intro avs ns res h hn;unfold zP at h;split at h;cases h;exact tI _ _ _ _ _ _ _ _ _ _;cases h
def NF:G4
 |[.agg [.lst 4 nr fr,.x (.int .i64 pl),.x (.int .i64 ph),.lst 3 nb fb,.lst 5 nc fc,.lst 5 ns fs]]=>some ([],.agg [i 4,i 10,.lst 5 ns fs])
 |_=>none
theorem Qw4(nr nb nc ns:Nat)(fr fb fc fs:Ci)(pl ph:Int):FJ VU 32 [.agg [.lst 4 nr fr,i pl,i ph,.lst 3 nb fb,.lst 5 nc fc,.lst 5 ns fs]] (.agg [i 4,i 10,.lst 5 ns fs]):=by
 refine D6 (L:=[]) Aa Ad U3 Tryz.func32 (UW Tryz.f32) G9 (t:=leaf (agg [iI 4,iI 10,lst 5 ns λa=>fs a])) VZ ?_;simp only [VR.sat,FN,wK,UH,UK];all_goals exact V8
theorem PD:PE VU 32 NF:=by
 refine ⟨(UM Tryz.func32),?_⟩;intro avs ns res h hn;unfold NF at h;split at h;cases h;exact Qw4 _ _ _ _ _ _ _ _ _ _;cases h
noncomputable def oW:D9:=AU Tryz.prog [] {} [] Tryz.f48 (UB Tryz.f48)
theorem MA:GH VU 48 oW:=
 RT (G:=[]) (X:=W5) (L:=[]) Aa Ad U3 (UM Tryz.func48) Tryz.func48 (UW Tryz.f48) U7
def U9(w:ByteArray)(V:Cf):Nat->ByteArray
 | 0=>w
 |k+1=>V k
def UT(q:Nat):ByteArray:=wdL.getD q ByteArray.empty
def uT(str:ByteArray)(n:Nat)(W:Cf):Prop:=str.size<100000/\Lib.countB str ⟨#[32]⟩+1=n/\(∀k,k<n->(spl str ⟨#[32]⟩).getD k ByteArray.empty=W k)/\ ∀k,(W k).size<=100000
def OA(s str sep:ByteArray):Prop:=s=str/\sep=⟨#[32]⟩
def Qn7(str:ByteArray)(n:Nat)(W:Cf):G4
 |[.x (.string s),.x (.string sep)]=>some ([OA s str sep],.lst 1 n (λk=>[.x (.string (W k))]))
 |_=>none
theorem LO{str:ByteArray}{n:Nat}{W:Cf}(h:uT str n W):VT VU 100 (Qn7 str n W):=by
 refine ⟨(UM Tryz.func100),?_⟩;intro avs ns res hh hn;unfold Qn7 at hh;split at hh;cases hh;obtain ⟨e1,e2⟩:=hn _ GN;rw [e1,e2];have h1:=Wg8 str ⟨#[32]⟩ (by have:=h.1;omega) (by decide)
 rw [h.2.1] at h1;intro e w args hro hgl FU hr;refine (h1 e w args hro hgl FU hr).mono ?_;rintro en w' ⟨v,rfl,hb,GS⟩;exact ⟨v,rfl,hb,L9 (a:= .lst 1 n _) (b:= .lst 1 n _) ⟨rfl,rfl,λk hk=>by rw [h.2.2.1 k hk]⟩ GS⟩
 cases hh
abbrev YB(s:HS):HA:=[(0,.cells 71 [.top,.top,.top,.top,.top,.top]),(1,.row 26 1 s.xn s.xg),(2,.row 9 1 s.yn s.yg)]
def PE_(s:HS):St:={σ:=mkS 48 [],m:=(YB s),nx:=904,sv:=[[.ptr 0 0,.row 1,.row 2]] }
section
variable (W:Cf)(n:Nat)
def nuB:Bool:=DH (λj=>O7 (W (1+j))) (n-1)
def Xk6(mk:Int)(fk:Nat)(s:HS):St:={σ:=mkS 48 [(0,.ptr 0 0),(4,.lst 1 n (λk=>[.x (.string (W k))])),(5,.ptr 903 0),(7,.row 902),(31,.lst 1 (n-1) (λj=>[.x (.string (W (1+j)))])),(32,i ((n-1:Nat):Int)),(33,.top)],m:=[(902,.row 3 1 (0) (λj=>[i (U5 (W (1+j)))])),(903,.cells 201 [i mk,.fn (.func fk) [] []]),(0,.cells 71 (hsL s)),(1,.row 26 1 s.xn s.xg),(2,.row 9 1 s.yn s.yg)],nx:=904,sv:=[[.ptr 0 0,.row 1,.row 2]] }
noncomputable def OK:Code:=UD (VX (UB Tryz.f73) 0)
def Wq7(mk:Int)(fk:Nat)(s:HS)(k:Nat):St:={σ:=H4 [(33,i k)] (Xk6 W n mk fk s).σ,m:=[(902,.row 3 1 (k) (λj=>[i (U5 (W (1+j)))])),(903,.cells 201 [i mk,.fn (.func fk) [] []]),(0,.cells 71 (hsL s)),(1,.row 26 1 s.xn s.xg),(2,.row 9 1 s.yn s.yg)],nx:=(Xk6 W n mk fk s).nx,sv:=[[.ptr 0 0,.row 1,.row 2]] }
def aQ(mk:Int)(fk:Nat)(s:HS):PEx->Option St:=λex=>match ex with
 | .x (.exit 0)=>some {σ:=H4 [(33,i ((n-1:Nat):Int))] (Xk6 W n mk fk s).σ,m:=[(902,.row 3 1 (n-1) (λj=>[i (U5 (W (1+j)))])),(903,.cells 201 [i mk,.fn (.func fk) [] []]),(0,.cells 71 (hsL s)),(1,.row 26 1 s.xn s.xg),(2,.row 9 1 s.yn s.yg)],nx:=(Xk6 W n mk fk s).nx,sv:=[[.ptr 0 0,.row 1,.row 2]] }
 | .pan _=>some (PE_ s)
 |_=>none
def Jy0(mk:Int)(fk:Nat)(s:HS):PT:= .branch (nuB W n) (.leaf (.x (.exit 0),(aQ W n mk fk s (.x (.exit 0))).getD (Xk6 W n mk fk s))) (.leaf (.pan (MS 159 (.int .i64 4)),PE_ s))
def u9(mk:Int)(fk:Nat)(s:HS):B1:=bC [(.slot 5,903,201,2),(.slot 7,902,3,1)] (Zn1 (Wq7 W n mk fk s (0)) (Jy0 W n mk fk s))
end
section
variable (s:HS)
abbrev XI:Prop:=(hR s.nr s)=hR s.nr s
abbrev XO:Prop:=(hC s.nc s)=hC s.nc s
abbrev XP:Prop:=(hT s.ns s)=hT s.ns s
abbrev XW:Prop:=(hY s.nb s)=hY s.nb s
abbrev JQ:Prop:=s.pl=s.pl
abbrev JR:Prop:=s.ph=s.ph
end
abbrev JX:Prop:=AV.row 1=AV.row 1
abbrev JY:Prop:=AV.row 2=AV.row 2
abbrev KK(n:Nat)(W:Cf):AV:=lst 1 (n-1) λj=>[HP (W (1+j))]
abbrev KP(s:HS):Prop:=s.xn=s.xn
abbrev KR(s:HS):Prop:=s.yn=s.yn
abbrev YK(n:Nat)(W:Cf):AV:=lst 1 n λk=>[HP (W k)]
theorem dC(W:Cf)(n:Nat)(mk:Int)(fk:Nat)(s:HS)(VW: ∀k,(W k).size<=100000)(UG:n<=100000): ∀ro cx,PB Tryz.prog ro cx (.loop OK) (u9 W n mk fk s):=by
 refine bH [(.slot 5,903,201,2),(.slot 7,902,3,1)] (PX:=[(102,RI),(103,k8)]) (L:=[]) Aa Ad (UY.cons RZ (UY.cons xF (UY.nil _))) U3 (λj cj _ sp hsp=>by simp at hsp) (V:=Nat) (Wq7 W n mk fk s) (λk=>k<=n-1/\ ∀j,j<k->O7 (W (1+j))=true) (λk=>n-1-k) (λ_=>aQ W n mk fk s) (x0:=0) ⟨Ao _,λj h=>absurd h (Aq _)⟩ ?_ ?_ ?_
 rintro k;kernel_rfl;rintro k y E h;unfold aQ at h;split at h;cases h;kernel_rfl;cases h;kernel_rfl;cases h;rintro Q hQ k hx;refine ⟨(k+1),?_⟩;(with_reducible refine DG (t:=branch (decide ((k:Int)<(↑(n-1):Int))) (need [UO k (↑(n-1):Int)] (need [ByteArray.size (W (1+k))<=100000] (branch (O7 (W (1+k))) (need [(k+1)*8<=140737488355328,RY 1 (UA 1 [iI (U5 (W (1+k)))])] (need [VQ ((k:Int)+1)] (need [QO,U4 (YK n W),ZT,WI,U4 (KK n W),U4 (↑(n-1):Int),(k:Int)+1=(↑(k+1):Int),k+1=k+1,GZ (k+1) (GL k (λj=>[iI (U5 (W (1+j)))]) (UA 1 [iI (U5 (W (1+k)))])) (λi=>[iI (U5 (W (1+i)))]),mk=mk,U4 (AV.fn (Fn.func fk) [] []),XI s,JQ s,JR s,XW s,XO s,XP s,KP s,∀(i:Nat),i<s.xn->s.xg i=s.xg i,KR s,∀(i:Nat),i<s.yn->s.yg i=s.yg i,QO,JX,JY] (leaf (PEx.x G8.normal))))) (need [KP s,∀(i:Nat),i<s.xn->s.xg i=s.xg i,KR s,∀(i:Nat),i<s.yn->s.yg i=s.yg i,QO,JX,JY] (leaf (PEx.pan (Value.iface 159 (Value.agg {toList:=[Value.int IntKind.i64 (4:Int)] })))))))) (need [QO,U4 (YK n W),ZT,WI,U4 (KK n W),U4 (↑(n-1):Int),(k:Int)=(↑(n-1):Int),k=n-1,∀(i:Nat),i<n-1->[iI (U5 (W (1+i)))]=[iI (U5 (W (1+i)))],mk=mk,U4 (AV.fn (Fn.func fk) [] []),XI s,JQ s,JR s,XW s,XO s,XP s,KP s,∀(i:Nat),i<s.xn->s.xg i=s.xg i,KR s,∀(i:Nat),i<s.yn->s.yg i=s.yg i,QO,JX,JY] (leaf (PEx.x (G8.exit 0))))) VZ ?_)
 simp only [Jy0,aQ,VR.sat,GW] at hQ;obtain ⟨A,I⟩:=hx;simp only [VR.sat,UF,UK,H6,VQ]
 have hc1: ∀x:Int,∀(j:Nat),j<1-> ∀y,y∈UA 1 [iI x] j->AV.one y=true:=λx j _ y hy=>FP hy (by simp [AV.one,Value.oneCell'])
 refine ⟨λh=>?_,λh=>?_⟩;have hk:k<n-1:=VO;refine ⟨⟨VO,VO⟩,VW _,λhb=>?_,λhb=>?_⟩;have D7: ∀j,j<k+1->O7 (W (1+j))=true:=by
  intro j hj;rcases (show j<k\/j=k by omega) with h1|rfl
  exact I j h1;exact hb
 have M3: ∀j,j<k+1->GL k (λj=>[i (U5 (W (1+j)))]) (UA 1 [iI (U5 (W (1+k)))]) j=[i (U5 (W (1+j)))]:=by
  intro j hj;show HJ (decide (j<k)) _ (UA 1 _ (j-k))=_;rw [show j-k=0 by omega]
  rcases (show j<k\/j=k by omega) with h1|rfl
  rw [decide_eq_true h1];rfl;rw [show decide (j<j)=false by simp]
  rfl
 refine ⟨⟨VO,hc1 _⟩,VO,⟨VO,M3,λ_ _=>trivial,λ_ _=>trivial⟩,⟨VO,D7⟩,VO⟩;have hno:nuB W n=false:=by
  rw [Cb];intro h2;have:=H3.1 h2 k hk;rw [hb] at this;cases this
 refine ⟨⟨λ_ _=>trivial,λ_ _=>trivial⟩,λE hE=>?_⟩;cases hE;exact hQ.2 hno
 ·have hk:k=n-1:=VO;subst hk;have Wt5:nuB W n=true:=H3.2 I
  (with_reducible repeat' first|apply Al|intro _)
  all_goals first|exact Ak|rfl|(rename_i E hE;cases hE;exact hQ.1 Wt5)|trivial
def OS(s:HS):St:={σ:=[],m:=[(0,.cells 71 (hsL s)),(1,.row 26 1 s.xn s.xg),(2,.row 9 1 s.yn s.yg)],nx:=3000,sv:=[[.ptr 0 0,.row 1,.row 2]] }
def OX(s:HS):St:={σ:=[],m:=(YB s),nx:=3000,sv:=[[.ptr 0 0,.row 1,.row 2]] }
def rsE(e:Int):Bool×Int:=(decide (e=0),e)
def fmE(W:Cf)(n many:Nat)(e:Int):Int:=if n=many+1/\nuB W n=true then e else 4
def voE(s:HS)(x:Int):Int:=if bt 0 x ((s.nc:Int)-1)=true/\s.cv x.toNat=false then 0 else 7
def voS(s:HS)(x:Int):HS:={s with cv:=λk=>if (k:Int)=x then true else s.cv k}
theorem LS{P:Program}{c:Code}{sp0:B1}(h: ∀cj,VX c 0=some cj-> ∀ro cx,PB P ro cx cj sp0): ∀j cj,VX c j=some cj-> ∀sp,[sp0][j]? =some sp-> ∀ro cx,PB P ro cx cj sp:=by
 intro j cj hj sp hsp
 match j with
 | 0=>
  simp at hsp;subst hsp;exact h cj hj
 |j+1=>simp at hsp
theorem Qa2(s sep:ByteArray)(h:1<=sep.size):Lib.countB s sep<=s.size:=Lib.countB_le sep h s.size s (Am _)
theorem BJ{str:ByteArray}{n:Nat}{W:Cf}(h:uT str n W):n<=100000:=by
 have h1:=Qa2 str ⟨#[32]⟩ (by decide)
 have h2:=h.1;have h3:=h.2.1;omega
def Qd6:D9:=Wx1 cX
theorem Ww2:GH VU 51 Qd6:=E0 mL
theorem DU(a b c d e f:AV):HH [a,b,c,d,e,f] [.top,.top,.top,.top,.top,.top]:=by
 have h: ∀a,fW a .top:=λa=>by cases a<;>trivial
 exact ⟨h a,h b,h c,h d,h e,h f,trivial⟩
theorem dA{sz n:Nat}{f:Ci}(h: ∀i,i<n-> ∀x∈f i,Idf x/\FN x x):fW (.lst sz n f) (.lst sz n f):=by
 refine ⟨rfl,rfl,λi O=>⟨?_,λx hx=>(h i O x hx).1⟩⟩;have: ∀l:List AV,(∀x∈l,FN x x)->wK l l:=by
  intro l
  induction l with
  |nil=>intro _;trivial
  |cons a l ih=>intro hh;exact ⟨hh a GN,ih λx hx=>hh x (D1 _ hx)⟩
 exact this _ λx hx=>(h i O x hx).2
theorem PN(n:Int):Idf (i n)/\FN (i n) (i n):=⟨.x _,by simp [FN,UH]⟩
theorem jC(n:Int):fW (i n) (i n):=(PN n).2
theorem BM(s:HS):fW (hsR s) (hsR s):=dA λk _ x hx=>by
 simp only [GT,DO,or_false] at hx;rcases hx with rfl|rfl|rfl|rfl<;>exact PN _
theorem PO(s:HS):fW (hsS s) (hsS s):=dA λk _ x hx=>by
 simp only [GT,DO,or_false] at hx;rcases hx with rfl|rfl|rfl|rfl|rfl<;>exact PN _
theorem BN(s:HS):fW (hsC s) (hsC s):=dA λk _ x hx=>by
 simp only [GT,DO,or_false] at hx;rcases hx with rfl|rfl|rfl|rfl|rfl<;>first|exact PN _|exact ⟨.x _,by simp [FN,UH]⟩
theorem BO(s:HS):fW (hsB s) (hsB s):=dA λk _ x hx=>by
 simp only [GT,DO,or_false] at hx;rcases hx with rfl|rfl|rfl;exact PN _;exact PN _;refine ⟨.lst _ _ _ λj _ a ha=>?_,rfl,rfl,λ_ _=>rfl⟩;simp only [GT,DO,or_false] at ha;rcases ha with rfl|rfl<;>exact .x _
section
variable {W:Cf}{n many:Nat}
theorem Wh8{e:Int}(h: ¬(n=many+1/\nuB W n=true)):(false,(4:Int))=rsE (fmE W n many e):=by
 unfold fmE;rw [if_neg h];rfl
theorem FF{e k:Int}(h1:n=many+1)(h2:nuB W n=true)(h:e=k)(hk:k≠0):(false,k)=rsE (fmE W n many e):=by
 unfold fmE rsE;rw [if_pos ⟨h1,h2⟩,h,decide_eq_false hk]
theorem gV{e:Int}(h1:n=many+1)(h2:nuB W n=true)(h:e=0):(true,(0:Int))=rsE (fmE W n many e):=by
 unfold fmE rsE;rw [if_pos ⟨h1,h2⟩,h];rfl
end
noncomputable abbrev Qo4:F4:=AT Tryz.prog [(29,RW)] {R:=[],H:=[(51,Qd6)] } [(102,RI)] [] Tryz.f147 (UB Tryz.f147)
theorem Qv0:DE VU 147 (Qo4):=
 FY (G:=[(29,RW)]) (X:={R:=[],H:=[(51,Qd6)] }) (PX:=[(102,RI)]) (L:=[]) (Ae BB Aa) (Ai Ab (Ag Ww2 Ac)) (UY.cons RZ (UY.nil _)) U3 (UM Tryz.func147) Tryz.func147 (UW Tryz.f147) (λj cj _ sp hsp=>by simp at hsp)
abbrev Q5:List AV:=[ptr 0 0,AV.row 1,AV.row 2]
abbrev Q9(s:HS):Prop:=((26:TypeId),1,s.xn,s.xg)=((26:TypeId),1,s.xn,s.xg)
abbrev QA(s:HS):Prop:=((9:TypeId),1,s.yn,s.yg)=((9:TypeId),1,s.yn,s.yg)
abbrev QT:List AV:=[top,top,top,top,top,top]
abbrev X9(s:HS):HA:=[(0,.cells 71 (hsL s)),(1,.row 26 1 s.xn s.xg),(2,.row 9 1 s.yn s.yg)]
theorem VA{p:Prop}(h:p:=by
 refine ⟨DU _ _ _ _ _ _,Wh8 λh=>?_⟩;rw [h.2] at h5;cases h5):p:=h
theorem V9{p:Prop}(h:p:=by
 refine ⟨DU _ _ _ _ _ _,Wh8 λh=>?_⟩;have:=h.1;simp at h4;omega):p:=h
theorem Xp1(V:Cf)(n:Nat)(str:ByteArray)(s:HS)(VW:uT str n (U9 (UT 6) V))(UG:s.nc<=10):x9 VU 73 [.ptr 0 0,.x (.string str)] (X9 s) 901 [[.ptr 0 0,.row 1,.row 2]] 159 (OS (voS s (U5 (V 0)))) (OX s) (rsE (fmE (U9 (UT 6) V) n 1 (voE s (U5 (V 0))))):=by
 refine LV (PX:=[(102,RI),(103,k8),(147,Qo4)]) (L:=[u9 (U9 (UT 6) V) n 1 147 s]) (Ae (LO VW) (Ae x7 Aa)) Ad (UY.cons RZ (UY.cons xF (UY.cons Qv0 (UY.nil _)))) U3 (UM Tryz.func73) Tryz.func73 (UW Tryz.f73) (LS (lpE (b:= .loop OK) VZ<|dC (U9 (UT 6) V) n 1 147 s VW.2.2.2 (BJ VW))) (N:=[(.cell 0 4,0,0,0)]) (t:=let z0:=(U5 (U9 (UT 6) V 1));let z1:=(U9 (UT 6) V (0:Int).toNat);let z2:=(need [[Q5]=[Q5],HH (hL s) QT,Q9 s,QA s] (leaf (false,(4:Int))));let z3:=(need [[Q5]=[Q5],HH (hL s) QT,Q9 s,QA s] (leaf (false,(7:Int))));let z4:=(U5 (U9 (UT 6) V (1+(0:Int).toNat)));(need [OA str str {data:=#[32] }] (need [UO 0 n] (branch (wdO z1) (need [VQ (wdM (wdK z1)+1)] (branch (!(n:Int)==wdM (wdK z1)+1) z2 (need [(0:Int)<=1/\(1:Int)<=(n:Int)/\(n:Int)<=(n:Int)] (need [QO,U4 (lst 1 n λk=>[HP (U9 (UT 6) V k)]),ZT,WI,(lst 1 (n-(1:Int).toNat) λi=>[AV.x (.string (U9 (UT 6) V ((1:Int).toNat+i)))])=lst 1 (n-1) λj=>[HP (U9 (UT 6) V (1+j))],(↑(n-(1:Int).toNat):Int)=(↑(n-1):Int),(0:Int)=((0:Nat):Int),0=0,∀(i:Nat),i<0->[]=[iI (U5 (U9 (UT 6) V (1+i)))],wdM (wdK z1)=1,U4 (AV.fn (Fn.func 147) [] []),XI s,JQ s,JR s,XW s,XO s,XP s,KP s,∀(i:Nat),i<s.xn->s.xg i=s.xg i,KR s,∀(i:Nat),i<s.yn->s.yg i=s.yg i,QO,JX,JY] (branch (nuB (U9 (UT 6) V) n) (need [UO 0 (↑(n-1):Int)] (need [(0:Int).toNat<n-1] (need [VQ ((↑s.nc:Int)-1)] (branch (bt (0:Int) z0 ((↑s.nc:Int)-1)) (need [UO 0 (↑(n-1):Int)] (need [(0:Int).toNat<n-1] (need [UO (U5 (U9 (UT 6) V 1)) s.nc] (branch (!!s.cv (Int.toNat z0)) z3 (need [s.nc<=100000,gdX 5 s.nc λk=>[i (s.ca k),i (s.cb k),i (s.cc k),i (s.cd k),bl (s.cv k)]] (need [UO 0 (↑(n-1):Int)] (need [(0:Int).toNat<n-1] (need [UO (U5 (U9 (UT 6) V 1)) s.nc] (need [Int.toNat z0<s.nc] (need [[Q5]=[Q5],HH [hR s.nr s,iI s.pl,iI s.ph,hY s.nb s,lst 5 s.nc λk=>iI (if decide (k=Int.toNat z0)=true then s.ca k else s.ca k)::iI (if decide (k=Int.toNat z0)=true then s.cb k else s.cb k)::iI (if decide (k=Int.toNat z0)=true then s.cc k else s.cc k)::iI (if decide (k=Int.toNat z0)=true then s.cd k else s.cd k)::bl (if decide (k=Int.toNat z4)=true then true else s.cv k)::Bool.rec ([]) ([]) (decide (k=Int.toNat z4)),hT s.ns s] (hL (voS s (U5 (V 0)))),((26:TypeId),1,s.xn,s.xg)=((26:TypeId),1,(voS s (U5 (V 0))).xn,(voS s (U5 (V 0))).xg),((9:TypeId),1,s.yn,s.yg)=((9:TypeId),1,(voS s (U5 (V 0))).yn,(voS s (U5 (V 0))).yg)] (leaf (true,(0:Int))))))))))))) z3)))) (need [[Q5]=[Q5],HH QT QT,Q9 s,QA s] (leaf (false,(4:Int))))))))) z2)))) VZ ?_
 have hw:wdO (U9 (UT 6) V (Int.toNat 0))=true:=VZ;have hm:wdM (wdK (U9 (UT 6) V (Int.toNat 0)))=1:=VZ;have hn1:1<=n:=by have:=VW.2.1;omega
 have hnl:=BJ VW;simp only [VR.sat,UF,UK,hm,hw,true_imp_iff];refine ⟨⟨rfl,rfl⟩,⟨VO,VO⟩,⟨by simp only [VQ];omega,λh4=>?_,λh4=>?_⟩,λh=>by cases h⟩
 exact V9
 ·have hN:n=1+1:=by
   simp at h4;omega
  refine ⟨⟨VO,VO,VO⟩,?_,λh5=>?_,λh5=>?_⟩
  rotate_left 2
  exact VA
  ·all_goals exact vM
  have hk1:n-1=1:=VO;have hx:U5 (U9 (UT 6) V 1)=U5 (V 0):=rfl;rw [hk1];simp only [hx,VQ,bt_iff,Int.toNat_zero];have hgd:gdX 5 s.nc (λk=>[i (s.ca k),i (s.cb k),i (s.cc k),i (s.cd k),bl (s.cv k)]):=λk _=>⟨rfl,λx hx=>by
   simp only [GT,DO,or_false] at hx;rcases hx with rfl|rfl|rfl|rfl|rfl<;>exact ⟨Ak,by simp [AV.one,Value.oneCell']⟩⟩
  refine ⟨VO,VO,VO,λhb=>⟨VO,VO,VO,λh6=>⟨DU _ _ _ _ _ _,FF hN h5 ?_ (by decide)⟩,λh6=>⟨⟨VO,hgd⟩,VO,VO,VO,VO,⟨⟨BM s,jC _,jC _,BO s,?_,PO s,trivial⟩,rfl,rfl⟩,gV hN h5 ?_⟩⟩,λhb=>⟨DU _ _ _ _ _ _,FF hN h5 ?_ (by decide)⟩⟩
  unfold voE;rw [if_neg (λh=>by rw [h.2] at h6;cases h6)]
  refine ⟨rfl,rfl,λk hk=>?_⟩;have e1:(voS s (U5 (V 0))).cv k=if k=(U5 (V 0)).toNat then true else s.cv k:=by
   show (if (k:Int)=U5 (V 0) then true else s.cv k)=_
   by_cases h:k=(U5 (V 0)).toNat;rw [if_pos h,if_pos VO];rw [if_neg h,if_neg VO]
  refine ⟨?_,λx hx=>?_⟩;by_cases h:k=(U5 (V 0)).toNat
  dsimp only
  rw [decide_eq_true h];refine ⟨(PN _).2,(PN _).2,(PN _).2,(PN _).2,?_,trivial⟩;rw [e1,if_pos h];exact rfl
  dsimp only
  rw [decide_eq_false h];refine ⟨(PN _).2,(PN _).2,(PN _).2,(PN _).2,?_,trivial⟩;rw [e1,if_neg h];simp [FN,UH];simp only [GT,DO,or_false] at hx;rcases hx with rfl|rfl|rfl|rfl|rfl<;>exact .x _;unfold voE;rw [if_pos ⟨(bt_iff _ _ _).2 hb,by simpa using h6⟩]
  unfold voE;rw [if_neg (λh=>by
   have:=(bt_iff _ _ _).1 h.1;rw [←bt_iff,hb] at this;cases this)]
section
variable (s:HS)
def inE:Int:=rdE 4 100 20 30 s.nr s.ra s.rb s.ru s.rv 3 tbP tbQ s.pl s.ph 1 3
def baS(x0 A:Int):HS:={s with pl:=x0,ph:=A}
def baE(x0 A:Int):Int:=if inE (baS s x0 A)=0 then 0 else 2
def btS(x0 A:Int):HS:={s with nb:=s.nb+1,ql:=HN s.nb s.ql x0,qh:=HN s.nb s.qh A,qm:=λk=>if k<s.nb then s.qm k else 0}
def btE(x0 A:Int):Int:=if bt 0 x0 A=true/\A<=1000 then (if s.nb<6 then 0 else 3) else 2
def isS(x0 A I Z:Int):HS:={s with nc:=s.nc+1,ca:=HN s.nc s.ca x0,cb:=HN s.nc s.cb A,cc:=HN s.nc s.cc I,cd:=HN s.nc s.cd Z,cv:=apB s.nc s.cv false}
def isE(x0 A I Z:Int):Int:=if asE 4 100 20 30 s.nr s.ra s.rb s.ru s.rv 3 tbP tbQ s.pl s.ph 1 3 x0 A I Z=0 then (if s.nc<10 then (if kpB 4 100 20 30 s.nr s.ra s.rb s.ru s.rv 3 tbP tbQ s.pl s.ph 1 3 x0 A I Z=true then 0 else 10) else 3) else 2
end
theorem hsI{s:HS}:UL 4 s.nr (λk=>[Bo.i (s.ra k),Bo.i (s.rb k),Bo.i (s.ru k),Bo.i (s.rv k)])/\UL 2 3 (λk=>[i (tbP k),i (tbQ k)]):=⟨Bo.isRec4 _ _ _ _ _,Pt.isRec2 _ _ _⟩
noncomputable abbrev Qo7:F4:=AT Tryz.prog [(182,F1)] {R:=[(37,LJ)],H:=[] } [(102,RI)] [] Tryz.f143 (UB Tryz.f143)
theorem Qw5:DE VU 143 (Qo7):=
 FY (G:=[(182,F1)]) (X:={R:=[(37,LJ)],H:=[] }) (PX:=[(102,RI)]) (L:=[]) (Ae wE Aa) (Ai (Af FH Ab) Ac) (UY.cons RZ (UY.nil _)) U3 (UM Tryz.func143) Tryz.func143 (UW Tryz.f143) (λj cj _ sp hsp=>by simp at hsp)
abbrev YH(s:HS)(V:Cf):List AV:=[hR s.nr s,iI (U5 (U9 (UT 2) V 1)),iI (U5 (U9 (UT 2) V 2)),hY s.nb s,hC s.nc s,hT s.ns s]
theorem Xp4(V:Cf)(n:Nat)(str:ByteArray)(s:HS)(VW:uT str n (U9 (UT 2) V)):x9 VU 73 [.ptr 0 0,.x (.string str)] (X9 s) 901 [[.ptr 0 0,.row 1,.row 2]] 159 (OS (baS s (U5 (V 0)) (U5 (V 1)))) (OX s) (rsE (fmE (U9 (UT 2) V) n 2 (baE s (U5 (V 0)) (U5 (V 1))))):=by
 refine LV (PX:=[(102,RI),(103,k8),(143,(Qo7))]) (L:=[u9 (U9 (UT 2) V) n 2 143 s]) (Ae (LO VW) (Ae x7 Aa)) Ad (UY.cons RZ (UY.cons xF (UY.cons (Qw5) (UY.nil _)))) U3 (UM Tryz.func73) Tryz.func73 (UW Tryz.f73) (LS (lpE (b:= .loop OK) VZ<|dC (U9 (UT 2) V) n 2 143 s VW.2.2.2 (BJ VW))) (N:=[]) (t:=let z0:=(baS s (U5 (V 0)) (U5 (V 1)));let z1:=(U9 (UT 2) V (0:Int).toNat);let z2:=(need [[Q5]=[Q5],HH (hL s) QT,Q9 s,QA s] (leaf (false,(4:Int))));(need [OA str str {data:=#[32] }] (need [UO 0 n] (branch (wdO z1) (need [VQ (wdM (wdK z1)+1)] (branch (!(n:Int)==wdM (wdK z1)+1) z2 (need [(0:Int)<=1/\(1:Int)<=(n:Int)/\(n:Int)<=(n:Int)] (need [QO,U4 (lst 1 n λk=>[HP (U9 (UT 2) V k)]),ZT,WI,(lst 1 (n-(1:Int).toNat) λi=>[AV.x (.string (U9 (UT 2) V ((1:Int).toNat+i)))])=lst 1 (n-1) λj=>[HP (U9 (UT 2) V (1+j))],(↑(n-(1:Int).toNat):Int)=(↑(n-1):Int),(0:Int)=((0:Nat):Int),0=0,∀(i:Nat),i<0->[]=[iI (U5 (U9 (UT 2) V (1+i)))],wdM (wdK z1)=2,U4 (AV.fn (Fn.func 143) [] []),XI s,JQ s,JR s,XW s,XO s,XP s,KP s,∀(i:Nat),i<s.xn->s.xg i=s.xg i,KR s,∀(i:Nat),i<s.yn->s.yg i=s.yg i,QO,JX,JY] (branch (nuB (U9 (UT 2) V) n) (need [UO 0 (↑(n-1):Int)] (need [(0:Int).toNat<n-1] (need [UO 1 (↑(n-1):Int)] (need [(1:Int).toNat<n-1] (need [UL 4 s.nr λk=>[Bo.i (s.ra k),Bo.i (s.rb k),Bo.i (s.ru k),Bo.i (s.rv k)],UL 2 3 λk=>[i (tbP k),i (tbQ k)]] (branch (!rdE (4:Int) (100:Int) (20:Int) (30:Int) s.nr (s.ra) (s.rb) (s.ru) (s.rv) 3 tbP tbQ (U5 (U9 (UT 2) V 1)) (U5 (U9 (UT 2) V 2)) (1:Int) (3:Int)==0) (need [[Q5]=[Q5],HH (YH s V) QT,Q9 s,QA s] (leaf (false,(2:Int)))) (need [[Q5]=[Q5],HH (YH s V) (hL z0),((26:TypeId),1,s.xn,s.xg)=((26:TypeId),1,z0.xn,z0.xg),((9:TypeId),1,s.yn,s.yg)=((9:TypeId),1,z0.yn,z0.yg)] (leaf (true,(0:Int)))))))))) (need [[Q5]=[Q5],HH QT QT,Q9 s,QA s] (leaf (false,(4:Int))))))))) z2)))) VZ ?_
 have hw:wdO (U9 (UT 2) V (Int.toNat 0))=true:=VZ;have hm:wdM (wdK (U9 (UT 2) V (Int.toNat 0)))=2:=VZ;have hn1:1<=n:=by have:=VW.2.1;omega
 have hnl:=BJ VW;simp only [VR.sat,UF,UK,hm,hw,true_imp_iff];refine ⟨⟨rfl,rfl⟩,⟨VO,VO⟩,⟨by simp only [VQ];omega,λh4=>?_,λh4=>?_⟩,λh=>by cases h⟩
 exact V9
 ·have hN:n=2+1:=by
   simp at h4;omega
  refine ⟨⟨VO,VO,VO⟩,?_,λh5=>?_,λh5=>?_⟩
  rotate_left 2
  exact VA
  ·all_goals exact vM
  have hk1:n-1=2:=VO;rw [hk1];simp only [VQ,Int.toNat_zero];refine ⟨VO,VO,VO,by decide,hsI,λh6=>⟨DU _ _ _ _ _ _,FF hN h5 ?_ (by decide)⟩,λh6=>⟨⟨⟨BM s,jC _,jC _,BO s,BN s,PO s,trivial⟩,rfl,rfl⟩,gV hN h5 ?_⟩⟩
  unfold baE;simp at h6;exact if_neg h6;unfold baE;simp at h6;exact if_pos h6
noncomputable def rS:D9:=AU Tryz.prog [] {} [] Tryz.f187 (UB Tryz.f187)
theorem mM:GH VU 187 rS:=
 RT (G:=[]) (X:=W5) (L:=[]) Aa Ad U3 (UM Tryz.func187) Tryz.func187 (UW Tryz.f187) U7
noncomputable def Ka4:D9:=Wt0 Tryz.prog (Qj8 Tryz.prog [] {R:=[],H:=[(187,rS)] } []) Tryz.f184 (UB Tryz.f184)
theorem Xr2:GH VU 184 Ka4:=by
 have hX: ∀cx,U0 VU {R:=[],H:=[(187,rS)] } cx:=(Ai Ab (Ag mM Ac));exact tF (L:=[]) (λcx=>Xb1 (G:=[]) (X:={R:=[],H:=[(187,rS)] }) Aa (hX cx) U3) (UM Tryz.func184) Tryz.func184 (UW Tryz.f184) U7
abbrev WS(n:Nat)(U:Cg)(O:Cg)(m:Ch)(r:Nat->Cg)(v:Nat->Cg)(x0:Int)(A:Int):AV:=lst 3 (0+n+1) (GL (0+n) (GL 0 (λx=>[]) λk=>[iI (U k),iI (O k),lst 2 (m k) λk_1=>[iI (r k k_1),iI (v k k_1)]]) (UA 3 [iI x0,iI A,QB]))
abbrev J4(x0:Int)(A:Int):AV:=lst 3 1 (GL 0 (λx=>[]) (UA 3 [iI x0,iI A,QB]))
section
variable (n:Nat)(U O:Cg)(m:Ch)(r v:Nat->Cg)
theorem Zv1(x0 A:Int)(VW:n<=100000):US VU 184 [.lst 3 n (λk=>[i (U k),i (O k),rdl (m k) (r k) (v k)]),.agg [i x0,i A,.x (.slice none 0 0)]] (.leaf (.lst 3 (n+1) (λk=>[i (HN n U x0 k),i (HN n O A k),rdl (if k<n then m k else 0) (r k) (v k)]))):=by
 refine aB Xr2 (t:=VR.may True (VR.may True (VR.may (n=0) (need [40<=140737488355328,RY 1 (UA 3 [iI x0,iI A,QB])] (leaf (J4 x0 A))) (need [(0+n)*40<=140737488355328,∀(i:Nat),i<n-> ∀(a:AV),a∈[iI (U i),iI (O i),rdl (m i) (r i) (v i)]->AV.one a=true] (need [(0+n+1)*40<=140737488355328,RY 1 (UA 3 [iI x0,iI A,QB])] (leaf (WS n U O m r v x0 A))))) (VR.may True (VR.may (n=0) (need [40<=140737488355328,RY 1 (UA 3 [iI x0,iI A,QB])] (leaf (J4 x0 A))) (need [(0+n)*40<=140737488355328,∀(i:Nat),i<n-> ∀(a:AV),a∈[iI (U i),iI (O i),rdl (m i) (r i) (v i)]->AV.one a=true] (need [(0+n+1)*40<=140737488355328,RY 1 (UA 3 [iI x0,iI A,QB])] (leaf (WS n U O m r v x0 A))))) (VR.may (n=0) (need [40<=140737488355328,RY 1 (UA 3 [iI x0,iI A,QB])] (leaf (J4 x0 A))) (need [(0+n)*40<=140737488355328,∀(i:Nat),i<n-> ∀(a:AV),a∈[iI (U i),iI (O i),rdl (m i) (r i) (v i)]->AV.one a=true] (need [(0+n+1)*40<=140737488355328,RY 1 (UA 3 [iI x0,iI A,QB])] (leaf (WS n U O m r v x0 A))))))) (VR.may True (VR.may True (VR.may (n=0) (need [40<=140737488355328,RY 1 (UA 3 [iI x0,iI A,QB])] (leaf (J4 x0 A))) (need [(0+n)*40<=140737488355328,∀(i:Nat),i<n-> ∀(a:AV),a∈[iI (U i),iI (O i),rdl (m i) (r i) (v i)]->AV.one a=true] (need [(0+n+1)*40<=140737488355328,RY 1 (UA 3 [iI x0,iI A,QB])] (leaf (WS n U O m r v x0 A))))) (VR.may (n=0) (need [40<=140737488355328,RY 1 (UA 3 [iI x0,iI A,QB])] (leaf (J4 x0 A))) (need [(0+n)*40<=140737488355328,∀(i:Nat),i<n-> ∀(a:AV),a∈[iI (U i),iI (O i),rdl (m i) (r i) (v i)]->AV.one a=true] (need [(0+n+1)*40<=140737488355328,RY 1 (UA 3 [iI x0,iI A,QB])] (leaf (WS n U O m r v x0 A)))))) (VR.may (n=0) (need [40<=140737488355328,RY 1 (UA 3 [iI x0,iI A,QB])] (leaf (J4 x0 A))) (need [(0+n)*40<=140737488355328,∀(i:Nat),i<n-> ∀(a:AV),a∈[iI (U i),iI (O i),rdl (m i) (r i) (v i)]->AV.one a=true] (need [(0+n+1)*40<=140737488355328,RY 1 (UA 3 [iI x0,iI A,QB])] (leaf (WS n U O m r v x0 A))))))) VZ ?_;intro Q hQ;have hA: ∀(k:Nat),k<1-> ∀(a:AV),a∈UA 3 [i x0,i A,AV.x (.slice none 0 0)] k->a.one=true:=by
  intro k hk a ha;obtain rfl:k=0:=VO;have ha:a∈[i x0,i A,AV.x (.slice none 0 0)]:=ha;simp only [GT,DO,or_false] at ha;rcases ha with rfl|rfl|rfl<;>simp [AV.one,Value.oneCell']
 have hB: ∀(k:Nat),k<n-> ∀(a:AV),a∈[i (U k),i (O k),rdl (m k) (r k) (v k)]->a.one=true:=by
  intro k hk a ha;simp only [GT,DO,or_false] at ha;rcases ha with rfl|rfl|rfl<;>simp [AV.one,Value.oneCell']
 have hI: ∀(k:Nat),∀x∈[i (HN n U x0 k),i (HN n O A k),rdl (if k<n then m k else 0) (r k) (v k)],Idf x:=by
  intro k x hx;simp only [GT,DO,or_false] at hx;rcases hx with rfl|rfl|rfl;exact .x _;exact .x _;exact VC
 have hL: ∀k,n<=k->k<n+1->wK [i x0,i A,AV.x (.slice none 0 0)] [i (HN n U x0 k),i (HN n O A k),rdl (if k<n then m k else 0) (r k) (v k)]:=by
  intro k h _;simp only [HN,if_neg (Nat.not_lt.2 h)];exact ⟨(PN _).2,(PN _).2,⟨Ak,rfl⟩,trivial⟩
 have h1:n=0-> ∃r',fW (lst 3 1 (GL 0 (λx=>[]) (UA 3 [i x0,i A,AV.x (.slice none 0 0)]))) r'/\Q r':=by
  intro h0;refine ⟨lst 3 (n+1) (λk=>[i (HN n U x0 k),i (HN n O A k),rdl (if k<n then m k else 0) (r k) (v k)]),⟨rfl,VO,λk hk=>⟨?_,hI k⟩⟩,hQ⟩
  obtain rfl:k=0:=VO;exact hL 0 VO VO
 have h2: ∃r',fW (lst 3 (0+n+1) (GL (0+n) (GL 0 (λx=>[]) λk=>[i (U k),i (O k),lst 2 (m k) λj=>[i (r k j),i (v k j)]]) (UA 3 [i x0,i A,QB]))) r'/\Q r':=by
  refine ⟨lst 3 (n+1) (λk=>[i (HN n U x0 k),i (HN n O A k),rdl (if k<n then m k else 0) (r k) (v k)]),⟨rfl,VO,λk hk=>⟨?_,hI k⟩⟩,hQ⟩
  show wK (HJ (decide (k<0+n)) (GL 0 (λx=>[]) (λk=>[i (U k),i (O k),lst 2 (m k) λj=>[i (r k j),i (v k j)]]) k) (UA 3 [i x0,i A,QB] (k-(0+n)))) _
  rw [TA,show k-(0+n)=0 by omega]
  by_cases h:k<n;rw [show decide (k<0+n)=true from decide_eq_true VO];simp only [HN,if_pos h];exact ⟨(PN _).2,(PN _).2,⟨rfl,rfl,λ_ _=>rfl⟩,trivial⟩;rw [show decide (k<0+n)=false from decide_eq_false VO];exact hL k VO VO
 simp only [VR.sat,UF,UK]
 (with_reducible repeat' first|apply Al|intro _)
 all_goals first|exact Ak|omega|exact hA _ (by assumption) _ (by assumption)|exact hB _ (by assumption) _ (by assumption)|exact h2|exact h1 (by assumption)
def Qo3:DP:=λl=>match l with
 |[.lst 3 n1 f1,.agg [.x (.int .i64 x0),.x (.int .i64 A),.x z]]=>some (.need [lst 3 n1 f1= .lst 3 n (λk=>[i (U k),i (O k),rdl (m k) (r k) (v k)]),z= .slice none 0 0,n<=100000] (.leaf (.lst 3 (n+1) (λk=>[i (HN n U x0 k),i (HN n O A k),rdl (if k<n then m k else 0) (r k) (v k)]))))
 |_=>none
theorem Xr1:Sx.Enters Tryz.prog 184/\ ∀avs t,Qo3 n U O m r v avs=some t->US VU 184 avs t:=by
 refine ⟨(UM Tryz.func184),?_⟩;intro avs t h;unfold Qo3 at h;split at h;cases h;intro Q hQ;obtain ⟨h1,h2⟩:=hQ;have e1:=h1.1;have e2:=h1.2.1;have e3:=h1.2.2;rw [e1,e2];exact Zv1 _ _ _ _ _ _ _ _ e3 Q h2;cases h
end
noncomputable abbrev Qo6(s:HS):F4:=AT Tryz.prog [(29,RW)] {R:=[],H:=[],C:=[(184,(Qo3 s.nb s.ql s.qh s.qm s.qr s.qv))] } [(102,RI)] [] Tryz.f144 (UB Tryz.f144)
theorem Qw3(s:HS):DE VU 144 (Qo6 s):=
 FY (G:=[(29,RW)]) (X:={R:=[],H:=[],C:=[(184,(Qo3 s.nb s.ql s.qh s.qm s.qr s.qv))] }) (PX:=[(102,RI)]) (L:=[]) (Ae BB Aa) (Aj Ab Ac (Ah (Xr1 s.nb s.ql s.qh s.qm s.qr s.qv) (UJ.nil _))) (UY.cons RZ (UY.nil _)) U3 (UM Tryz.func144) Tryz.func144 (UW Tryz.f144) (λj cj _ sp hsp=>by simp at hsp)
theorem Xp3(V:Cf)(n:Nat)(str:ByteArray)(s:HS)(VW:uT str n (U9 (UT 3) V))(UG:s.nb<=6):x9 VU 73 [.ptr 0 0,.x (.string str)] (X9 s) 901 [[.ptr 0 0,.row 1,.row 2]] 159 (OS (btS s (U5 (V 0)) (U5 (V 1)))) (OX s) (rsE (fmE (U9 (UT 3) V) n 2 (btE s (U5 (V 0)) (U5 (V 1))))):=by
 refine LV (PX:=[(102,RI),(103,k8),(144,(Qo6 s))]) (L:=[u9 (U9 (UT 3) V) n 2 144 s]) (Ae (LO VW) (Ae x7 Aa)) Ad (UY.cons RZ (UY.cons xF (UY.cons (Qw3 s) (UY.nil _)))) U3 (UM Tryz.func73) Tryz.func73 (UW Tryz.f73) (LS (lpE (b:= .loop OK) VZ<|dC (U9 (UT 3) V) n 2 144 s VW.2.2.2 (BJ VW))) (N:=[]) (t:=let z0:=(btS s (U5 (V 0)) (U5 (V 1)));let z1:=(U9 (UT 3) V (0:Int).toNat);let z2:=(need [[Q5]=[Q5],HH (hL s) QT,Q9 s,QA s] (leaf (false,(4:Int))));let z3:=(need [[Q5]=[Q5],HH (hL s) QT,Q9 s,QA s] (leaf (false,(2:Int))));(need [OA str str {data:=#[32] }] (need [UO 0 n] (branch (wdO z1) (need [VQ (wdM (wdK z1)+1)] (branch (!(n:Int)==wdM (wdK z1)+1) z2 (need [(0:Int)<=1/\(1:Int)<=(n:Int)/\(n:Int)<=(n:Int)] (need [QO,U4 (lst 1 n λk=>[HP (U9 (UT 3) V k)]),ZT,WI,(lst 1 (n-(1:Int).toNat) λi=>[AV.x (.string (U9 (UT 3) V ((1:Int).toNat+i)))])=lst 1 (n-1) λj=>[HP (U9 (UT 3) V (1+j))],(↑(n-(1:Int).toNat):Int)=(↑(n-1):Int),(0:Int)=((0:Nat):Int),0=0,∀(i:Nat),i<0->[]=[iI (U5 (U9 (UT 3) V (1+i)))],wdM (wdK z1)=2,U4 (AV.fn (Fn.func 144) [] []),XI s,JQ s,JR s,XW s,XO s,XP s,KP s,∀(i:Nat),i<s.xn->s.xg i=s.xg i,KR s,∀(i:Nat),i<s.yn->s.yg i=s.yg i,QO,JX,JY] (branch (nuB (U9 (UT 3) V) n) (need [UO 0 (↑(n-1):Int)] (need [(0:Int).toNat<n-1] (need [UO 1 (↑(n-1):Int)] (need [(1:Int).toNat<n-1] (branch (bt (0:Int) (U5 (U9 (UT 3) V 1)) (U5 (U9 (UT 3) V 2))) (need [UO 1 (↑(n-1):Int)] (need [(1:Int).toNat<n-1] (branch (!decide (U5 (U9 (UT 3) V 2)<=1000)) z3 (branch (!decide ((↑s.nb:Int)<6)) (need [[Q5]=[Q5],HH (hL s) QT,Q9 s,QA s] (leaf (false,(3:Int)))) (need [UO 0 (↑(n-1):Int)] (need [(0:Int).toNat<n-1] (need [UO 1 (↑(n-1):Int)] (need [(1:Int).toNat<n-1] (need [(hY s.nb s)=lst 3 s.nb λk=>[iI (s.ql k),iI (s.qh k),lst 2 (s.qm k) λk_1=>[iI (s.qr k k_1),iI (s.qv k k_1)]],J6=J6,s.nb<=100000] (need [[Q5]=[Q5],HH [hR s.nr s,iI s.pl,iI s.ph,lst 3 (s.nb+1) λk=>[iI (HN s.nb (s.ql) (U5 (U9 (UT 3) V 1)) k),iI (HN s.nb (s.qh) (U5 (U9 (UT 3) V 2)) k),lst 2 (if k<s.nb then s.qm k else 0) λk_1=>[iI (s.qr k k_1),iI (s.qv k k_1)]],hC s.nc s,hT s.ns s] (hL z0),((26:TypeId),1,s.xn,s.xg)=((26:TypeId),1,z0.xn,z0.xg),((9:TypeId),1,s.yn,s.yg)=((9:TypeId),1,z0.yn,z0.yg)] (leaf (true,(0:Int))))))))))))) z3))))) (need [[Q5]=[Q5],HH QT QT,Q9 s,QA s] (leaf (false,(4:Int))))))))) z2)))) VZ ?_
 have hw:wdO (U9 (UT 3) V (Int.toNat 0))=true:=VZ;have hm:wdM (wdK (U9 (UT 3) V (Int.toNat 0)))=2:=VZ;have hn1:1<=n:=by have:=VW.2.1;omega
 have hnl:=BJ VW;simp only [VR.sat,UF,UK,hm,hw,true_imp_iff];refine ⟨⟨rfl,rfl⟩,⟨VO,VO⟩,⟨by simp only [VQ];omega,λh4=>?_,λh4=>?_⟩,λh=>by cases h⟩
 exact V9
 ·have hN:n=2+1:=by
   simp at h4;omega
  refine ⟨⟨VO,VO,VO⟩,?_,λh5=>?_,λh5=>?_⟩
  rotate_left 2
  exact VA
  ·all_goals exact vM
  have hk1:n-1=2:=VO;have hx0:U5 (U9 (UT 3) V 1)=U5 (V 0):=rfl;have hx1:U5 (U9 (UT 3) V 2)=U5 (V 1):=rfl;rw [hk1];simp only [hx0,hx1,Int.toNat_zero];refine ⟨VO,VO,VO,by decide,λhb=>⟨VO,by decide,λh6=>⟨DU _ _ _ _ _ _,FF hN h5 ?_ (by decide)⟩,λh6=>⟨λh7=>⟨DU _ _ _ _ _ _,FF hN h5 ?_ (by decide)⟩,λh7=>⟨VO,VO,VO,by decide,VO,⟨⟨BM s,jC _,jC _,BO (btS s (U5 (V 0)) (U5 (V 1))),BN s,PO s,trivial⟩,rfl,rfl⟩,gV hN h5 ?_⟩⟩⟩,λhb=>⟨DU _ _ _ _ _ _,FF hN h5 ?_ (by decide)⟩⟩
  simp at h6;exact if_neg λh=>VO;simp at h6 h7;unfold btE;rw [if_pos ⟨hb,h6⟩,if_neg VO];simp at h6 h7;unfold btE;rw [if_pos ⟨hb,h6⟩,if_pos VO];exact if_neg λh=>by
   rw [hb] at h;cases h.1
def thS(s:HS)(x0 A I Z:Int):HS:={s with nr:=s.nr+1,ra:=HN s.nr s.ra x0,rb:=HN s.nr s.rb A,ru:=HN s.nr s.ru I,rv:=HN s.nr s.rv Z}
def thD(x0 A I Z:Int):Int:=eB 4 100 20 30 1 (λ_=>x0) (λ_=>A) (λ_=>I) (λ_=>Z)
def thE(s:HS)(x0 A I Z:Int):Int:=if (thD x0 A I Z==0||thD x0 A I Z==9)=true then (if s.nr<12 then (if inE (thS s x0 A I Z)=0 then 0 else 9) else 3) else 2
def cR(S:G4):DP:=λl=>match S l with
 |some (ns,r)=>some (.needT ns (.leaf r))
 |none=>none
theorem Qk1{P:Program}{f:FuncId}{S:G4}(h:PE P f S):Sx.Enters P f/\ ∀avs t,cR S avs=some t->US P f avs t:=by
 refine ⟨h.1,λavs t ht=>?_⟩;unfold cR at ht;split at ht;rename_i ns r hS;cases ht;intro Q hQ e w args h1 h2 h3 h4;obtain ⟨q1,q2⟩:=VR.sat_needT hQ;refine (h.2 _ _ _ hS (GI q1) e w args h1 h2 h3 h4).mono ?_;rintro en w' ⟨v,rfl,g1,g2⟩;exact ⟨v,r,rfl,q2,g1,g2⟩;cases ht
def dY:G4
 |[.agg [.x (.int .i64 c),.x (.int .i64 T),.x (.int .i64 U),.x (.int .i64 O)],.lst 4 n f]=>match f 0 with
  |[.x (.int .i64 a),.x (.int .i64 b),.x (.int .i64 u),.x (.int .i64 v)]=>some ([n=1],.tup [i (dtB c T U O 1 (λ_=>a) (λ_=>b) (λ_=>u) (λ_=>v)),i (eB c T U O 1 (λ_=>a) (λ_=>b) (λ_=>u) (λ_=>v))])
  |_=>none
 |_=>none
theorem Wa7:VT VU 180 dY:=by
 refine ⟨(UM Tryz.func180),?_⟩;intro avs ns res h hn;unfold dY at h;split at h;rename_i c T U O n f;split at h;rename_i a b u v hf;cases h;obtain rfl:n=1:=hn _ GN;exact (Xk8 c T U O 1 (λ_=>a) (λ_=>b) (λ_=>u) (λ_=>v)).same (.cons (.refl _) (.cons (.lst 4 1 f _ (λk hk=>by
  obtain rfl:k=0:=VO;exact hf)) .nil))
 cases h;cases h
theorem bnf{b:Bool}(h:(!b)=false):b=true:=by cases b<;>simp_all
theorem bnt{b:Bool}(h:(!b)=true):b=false:=by cases b<;>simp_all
section
variable {s:HS}{x0 A I Z:Int}
theorem Jj1(h:(thD x0 A I Z==0)=false)(h':(thD x0 A I Z==9)=false):thE s x0 A I Z=2:=by
 unfold thE;rw [h,h'];rfl
theorem Zb2(h:(thD x0 A I Z==0||thD x0 A I Z==9)=true)(h8:(!decide ((s.nr:Int)<12))=true):thE s x0 A I Z=3:=by
 unfold thE;simp at h8;rw [if_pos h,if_neg VO]
theorem Zb1(h:(thD x0 A I Z==0||thD x0 A I Z==9)=true)(h8:(!decide ((s.nr:Int)<12))=false)(h9:(!inE (thS s x0 A I Z)==0)=true):thE s x0 A I Z=9:=by
 unfold thE;simp at h8 h9;rw [if_pos h,if_pos VO,if_neg h9]
theorem Zb3(h:(thD x0 A I Z==0||thD x0 A I Z==9)=true)(h8:(!decide ((s.nr:Int)<12))=false)(h9:(!inE (thS s x0 A I Z)==0)=false):thE s x0 A I Z=0:=by
 unfold thE;simp at h8 h9;rw [if_pos h,if_pos VO,if_pos h9]
end
noncomputable abbrev TW(s:HS):F4:=AT Tryz.prog [(180,dY),(182,F1),(181,(Qo1 s.nr s.ra s.rb s.ru s.rv))] {R:=[(37,LJ)],H:=[],C:=[(37,(cR LJ))] } [(102,RI)] [] Tryz.f141 (UB Tryz.f141)
theorem lY(s:HS):DE VU 141 (TW s):=
 FY (G:=[(180,dY),(182,F1),(181,(Qo1 s.nr s.ra s.rb s.ru s.rv))]) (X:={R:=[(37,LJ)],H:=[],C:=[(37,(cR LJ))] }) (PX:=[(102,RI)]) (L:=[]) (Ae Wa7 (Ae wE (Ae (Xq9 s.nr s.ra s.rb s.ru s.rv) Aa))) (Aj (Af FH Ab) Ac (Ah (Qk1 FH) (UJ.nil _))) (UY.cons RZ (UY.nil _)) U3 (UM Tryz.func141) Tryz.func141 (UW Tryz.f141) (λj cj _ sp hsp=>by simp at hsp)
abbrev WB(s:HS)(V:Cf):List AV:=[lst 4 (s.nr+1) λk=>[iI (HN s.nr (s.ra) (U5 (U9 (UT 0) V 1)) k),iI (HN s.nr (s.rb) (U5 (U9 (UT 0) V 2)) k),iI (HN s.nr (s.ru) (U5 (U9 (UT 0) V 3)) k),iI (HN s.nr (s.rv) (U5 (U9 (UT 0) V 4)) k)],iI s.pl,iI s.ph,hY s.nb s,hC s.nc s,hT s.ns s]
theorem Qt6(V:Cf)(n:Nat)(str:ByteArray)(s:HS)(VW:uT str n (U9 (UT 0) V))(UG:s.nr<=12):x9 VU 73 [.ptr 0 0,.x (.string str)] (X9 s) 901 [[.ptr 0 0,.row 1,.row 2]] 159 (OS (thS s (U5 (V 0)) (U5 (V 1)) (U5 (V 2)) (U5 (V 3)))) (OX s) (rsE (fmE (U9 (UT 0) V) n 4 (thE s (U5 (V 0)) (U5 (V 1)) (U5 (V 2)) (U5 (V 3))))):=by
 refine LV (PX:=[(102,RI),(103,k8),(141,(TW s))]) (L:=[u9 (U9 (UT 0) V) n 4 141 s]) (Ae (LO VW) (Ae x7 Aa)) Ad (UY.cons RZ (UY.cons xF (UY.cons (lY s) (UY.nil _)))) U3 (UM Tryz.func73) Tryz.func73 (UW Tryz.f73) (LS (lpE (b:= .loop OK) VZ<|dC (U9 (UT 0) V) n 4 141 s VW.2.2.2 (BJ VW))) (N:=[]) (t:=let z1:=(thS s (U5 (V 0)) (U5 (V 1)) (U5 (V 2)) (U5 (V 3)));let z0:=(branch (!decide ((↑s.nr:Int)<12)) (need [[Q5]=[Q5],HH (hL s) QT,Q9 s,QA s] (leaf (false,(3:Int)))) (need [XI s,s.nr<=100000] (need [UL 4 (s.nr+1) λk=>[Bo.i (HN s.nr (s.ra) (U5 (U9 (UT 0) V 1)) k),Bo.i (HN s.nr (s.rb) (U5 (U9 (UT 0) V 2)) k),Bo.i (HN s.nr (s.ru) (U5 (U9 (UT 0) V 3)) k),Bo.i (HN s.nr (s.rv) (U5 (U9 (UT 0) V 4)) k)],UL 2 3 λk=>[i (tbP k),i (tbQ k)]] (branch (!rdE (4:Int) (100:Int) (20:Int) (30:Int) (s.nr+1) (HN s.nr (s.ra) (U5 (U9 (UT 0) V 1))) (HN s.nr (s.rb) (U5 (U9 (UT 0) V 2))) (HN s.nr (s.ru) (U5 (U9 (UT 0) V 3))) (HN s.nr (s.rv) (U5 (U9 (UT 0) V 4))) 3 tbP tbQ s.pl s.ph (1:Int) (3:Int)==0) (need [[Q5]=[Q5],HH (WB s V) QT,Q9 s,QA s] (leaf (false,(9:Int)))) (need [[Q5]=[Q5],HH (WB s V) (hL z1),((26:TypeId),1,s.xn,s.xg)=((26:TypeId),1,z1.xn,z1.xg),((9:TypeId),1,s.yn,s.yg)=((9:TypeId),1,z1.yn,z1.yg)] (leaf (true,(0:Int))))))));let z2:=(eB (4:Int) (100:Int) (20:Int) (30:Int) 1 (λx=>U5 (U9 (UT 0) V 1)) (λx=>U5 (U9 (UT 0) V 2)) (λx=>U5 (U9 (UT 0) V 3)) λx=>U5 (U9 (UT 0) V 4));let z3:=(U9 (UT 0) V (0:Int).toNat);let z4:=(need [[Q5]=[Q5],HH (hL s) QT,Q9 s,QA s] (leaf (false,(4:Int))));(need [OA str str {data:=#[32] }] (need [UO 0 n] (branch (wdO z3) (need [VQ (wdM (wdK z3)+1)] (branch (!(n:Int)==wdM (wdK z3)+1) z4 (need [(0:Int)<=1/\(1:Int)<=(n:Int)/\(n:Int)<=(n:Int)] (need [QO,U4 (lst 1 n λk=>[HP (U9 (UT 0) V k)]),ZT,WI,(lst 1 (n-(1:Int).toNat) λi=>[AV.x (.string (U9 (UT 0) V ((1:Int).toNat+i)))])=lst 1 (n-1) λj=>[HP (U9 (UT 0) V (1+j))],(↑(n-(1:Int).toNat):Int)=(↑(n-1):Int),(0:Int)=((0:Nat):Int),0=0,∀(i:Nat),i<0->[]=[iI (U5 (U9 (UT 0) V (1+i)))],wdM (wdK z3)=4,U4 (AV.fn (Fn.func 141) [] []),XI s,JQ s,JR s,XW s,XO s,XP s,KP s,∀(i:Nat),i<s.xn->s.xg i=s.xg i,KR s,∀(i:Nat),i<s.yn->s.yg i=s.yg i,QO,JX,JY] (branch (nuB (U9 (UT 0) V) n) (need [UO 0 (↑(n-1):Int)] (need [(0:Int).toNat<n-1] (need [UO 1 (↑(n-1):Int)] (need [(1:Int).toNat<n-1] (need [UO 2 (↑(n-1):Int)] (need [(2:Int).toNat<n-1] (need [UO 3 (↑(n-1):Int)] (need [(3:Int).toNat<n-1] (need [1=1] (branch (z2==0) z0 (branch (!z2==9) (need [[Q5]=[Q5],HH (hL s) QT,Q9 s,QA s] (leaf (false,(2:Int)))) z0))))))))))) (need [[Q5]=[Q5],HH QT QT,Q9 s,QA s] (leaf (false,(4:Int))))))))) z4)))) VZ ?_
 have hw:wdO (U9 (UT 0) V (Int.toNat 0))=true:=VZ;have hm:wdM (wdK (U9 (UT 0) V (Int.toNat 0)))=4:=VZ;have hn1:1<=n:=by have:=VW.2.1;omega
 have hnl:=BJ VW;simp only [VR.sat,UF,UK,hm,hw,true_imp_iff];refine ⟨⟨rfl,rfl⟩,⟨VO,VO⟩,⟨by simp only [VQ];omega,λh4=>?_,λh4=>?_⟩,λh=>by cases h⟩
 exact V9
 ·have hN:n=4+1:=by
   simp at h4;omega
  refine ⟨⟨VO,VO,VO⟩,?_,λh5=>?_,λh5=>?_⟩
  rotate_left 2
  exact VA
  ·all_goals exact vM
  have hk1:n-1=4:=VO;have hx0:U5 (U9 (UT 0) V 1)=U5 (V 0):=rfl;have hx1:U5 (U9 (UT 0) V 2)=U5 (V 1):=rfl;have hx2:U5 (U9 (UT 0) V 3)=U5 (V 2):=rfl;have hx3:U5 (U9 (UT 0) V 4)=U5 (V 3):=rfl;rw [hk1];simp only [hx0,hx1,hx2,hx3];refine ⟨VO,by decide,VO,by decide,VO,by decide,VO,by decide,λh6=>⟨λh8=>⟨DU _ _ _ _ _ _,FF hN h5 (Zb2 (Bool.or_eq_true_iff.2 (.inl h6)) h8) (by decide)⟩,λh8=>⟨VO,⟨Bo.isRec4 _ _ _ _ _,Pt.isRec2 _ _ _⟩,λh9=>⟨DU _ _ _ _ _ _,FF hN h5 (Zb1 (Bool.or_eq_true_iff.2 (.inl h6)) h8 h9) (by decide)⟩,λh9=>⟨⟨⟨BM (thS s (U5 (V 0)) (U5 (V 1)) (U5 (V 2)) (U5 (V 3))),jC _,jC _,BO s,BN s,PO s,trivial⟩,rfl,rfl⟩,gV hN h5 (Zb3 (Bool.or_eq_true_iff.2 (.inl h6)) h8 h9)⟩⟩⟩,λh6=>⟨λh7=>⟨DU _ _ _ _ _ _,FF hN h5 (Jj1 h6 (bnt h7)) (by decide)⟩,λh7=>⟨λh8=>⟨DU _ _ _ _ _ _,FF hN h5 (Zb2 (Bool.or_eq_true_iff.2 (.inr (bnf h7))) h8) (by decide)⟩,λh8=>⟨VO,⟨Bo.isRec4 _ _ _ _ _,Pt.isRec2 _ _ _⟩,λh9=>⟨DU _ _ _ _ _ _,FF hN h5 (Zb1 (Bool.or_eq_true_iff.2 (.inr (bnf h7))) h8 h9) (by decide)⟩,λh9=>⟨⟨⟨BM (thS s (U5 (V 0)) (U5 (V 1)) (U5 (V 2)) (U5 (V 3))),jC _,jC _,BO s,BN s,PO s,trivial⟩,rfl,rfl⟩,gV hN h5 (Zb3 (Bool.or_eq_true_iff.2 (.inr (bnf h7))) h8 h9)⟩⟩⟩⟩⟩
section
variable {s:HS}{x0 A I Z:Int}
theorem Jp3(h6:(!asE 4 100 20 30 s.nr s.ra s.rb s.ru s.rv 3 tbP tbQ s.pl s.ph 1 3 x0 A I Z==0)=true):isE s x0 A I Z=2:=by
 unfold isE;simp at h6;rw [if_neg h6]
theorem Jp2(h6:(!asE 4 100 20 30 s.nr s.ra s.rb s.ru s.rv 3 tbP tbQ s.pl s.ph 1 3 x0 A I Z==0)=false)(h7:(!decide ((s.nc:Int)<10))=true):isE s x0 A I Z=3:=by
 unfold isE;simp at h6 h7;rw [if_pos h6,if_neg VO]
theorem Zu3(h6:(!asE 4 100 20 30 s.nr s.ra s.rb s.ru s.rv 3 tbP tbQ s.pl s.ph 1 3 x0 A I Z==0)=false)(h7:(!decide ((s.nc:Int)<10))=false)(h8:(!kpB 4 100 20 30 s.nr s.ra s.rb s.ru s.rv 3 tbP tbQ s.pl s.ph 1 3 x0 A I Z)=true):isE s x0 A I Z=10:=by
 unfold isE;simp at h6 h7 h8;rw [if_pos h6,if_pos VO,h8,if_neg (by decide)]
theorem Jp4(h6:(!asE 4 100 20 30 s.nr s.ra s.rb s.ru s.rv 3 tbP tbQ s.pl s.ph 1 3 x0 A I Z==0)=false)(h7:(!decide ((s.nc:Int)<10))=false)(h8:(!kpB 4 100 20 30 s.nr s.ra s.rb s.ru s.rv 3 tbP tbQ s.pl s.ph 1 3 x0 A I Z)=false):isE s x0 A I Z=0:=by
 unfold isE;simp at h6 h7 h8;rw [if_pos h6,if_pos VO,h8,if_pos rfl]
end
noncomputable abbrev oG(s:HS):F4:=AT Tryz.prog [(57,cV),(189,(Qo2 s.nc s.ca s.cb s.cc s.cd s.cv))] {R:=[],H:=[],C:=[(37,(cR LJ))] } [(102,RI)] [] Tryz.f146 (UB Tryz.f146)
theorem tL(s:HS):DE VU 146 (oG s):=
 FY (G:=[(57,cV),(189,(Qo2 s.nc s.ca s.cb s.cc s.cd s.cv))]) (X:={R:=[],H:=[],C:=[(37,(cR LJ))] }) (PX:=[(102,RI)]) (L:=[]) (Ae Qp0 (Ae (Xr0 s.nc s.ca s.cb s.cc s.cd s.cv) Aa)) (Aj Ab Ac (Ah (Qk1 FH) (UJ.nil _))) (UY.cons RZ (UY.nil _)) U3 (UM Tryz.func146) Tryz.func146 (UW Tryz.f146) (λj cj _ sp hsp=>by simp at hsp)
theorem Wn5(V:Cf)(n:Nat)(str:ByteArray)(s:HS)(VW:uT str n (U9 (UT 5) V))(UG:s.nc<=10):x9 VU 73 [.ptr 0 0,.x (.string str)] (X9 s) 901 [[.ptr 0 0,.row 1,.row 2]] 159 (OS (isS s (U5 (V 0)) (U5 (V 1)) (U5 (V 2)) (U5 (V 3)))) (OX s) (rsE (fmE (U9 (UT 5) V) n 4 (isE s (U5 (V 0)) (U5 (V 1)) (U5 (V 2)) (U5 (V 3))))):=by
 refine LV (PX:=[(102,RI),(103,k8),(146,(oG s))]) (L:=[u9 (U9 (UT 5) V) n 4 146 s]) (Ae (LO VW) (Ae x7 Aa)) Ad (UY.cons RZ (UY.cons xF (UY.cons (tL s) (UY.nil _)))) U3 (UM Tryz.func73) Tryz.func73 (UW Tryz.f73) (LS (lpE (b:= .loop OK) VZ<|dC (U9 (UT 5) V) n 4 146 s VW.2.2.2 (BJ VW))) (N:=[]) (t:=let z0:=(isS s (U5 (V 0)) (U5 (V 1)) (U5 (V 2)) (U5 (V 3)));let z1:=(U9 (UT 5) V (0:Int).toNat);let z2:=(need [[Q5]=[Q5],HH (hL s) QT,Q9 s,QA s] (leaf (false,(4:Int))));let z3:=(U5 (U9 (UT 5) V 1));let z4:=(U5 (U9 (UT 5) V 2));let z5:=(U5 (U9 (UT 5) V 3));let z6:=(U5 (U9 (UT 5) V 4));(need [OA str str {data:=#[32] }] (need [UO 0 n] (branch (wdO z1) (need [VQ (wdM (wdK z1)+1)] (branch (!(n:Int)==wdM (wdK z1)+1) z2 (need [(0:Int)<=1/\(1:Int)<=(n:Int)/\(n:Int)<=(n:Int)] (need [QO,U4 (lst 1 n λk=>[HP (U9 (UT 5) V k)]),ZT,WI,(lst 1 (n-(1:Int).toNat) λi=>[AV.x (.string (U9 (UT 5) V ((1:Int).toNat+i)))])=lst 1 (n-1) λj=>[HP (U9 (UT 5) V (1+j))],(↑(n-(1:Int).toNat):Int)=(↑(n-1):Int),(0:Int)=((0:Nat):Int),0=0,∀(i:Nat),i<0->[]=[iI (U5 (U9 (UT 5) V (1+i)))],wdM (wdK z1)=4,U4 (AV.fn (Fn.func 146) [] []),XI s,JQ s,JR s,XW s,XO s,XP s,KP s,∀(i:Nat),i<s.xn->s.xg i=s.xg i,KR s,∀(i:Nat),i<s.yn->s.yg i=s.yg i,QO,JX,JY] (branch (nuB (U9 (UT 5) V) n) (need [UO 0 (↑(n-1):Int)] (need [(0:Int).toNat<n-1] (need [UO 1 (↑(n-1):Int)] (need [(1:Int).toNat<n-1] (need [UO 2 (↑(n-1):Int)] (need [(2:Int).toNat<n-1] (need [UO 3 (↑(n-1):Int)] (need [(3:Int).toNat<n-1] (need [UL 4 s.nr λk=>[Bo.i (s.ra k),Bo.i (s.rb k),Bo.i (s.ru k),Bo.i (s.rv k)],UL 2 3 λk=>[i (tbP k),i (tbQ k)]] (branch (!asE (4:Int) (100:Int) (20:Int) (30:Int) s.nr (s.ra) (s.rb) (s.ru) (s.rv) 3 tbP tbQ s.pl s.ph (1:Int) (3:Int) z3 z4 z5 z6==0) (need [[Q5]=[Q5],HH (hL s) QT,Q9 s,QA s] (leaf (false,(2:Int)))) (branch (!decide ((↑s.nc:Int)<10)) (need [[Q5]=[Q5],HH (hL s) QT,Q9 s,QA s] (leaf (false,(3:Int)))) (branch (!kpB (4:Int) (100:Int) (20:Int) (30:Int) s.nr (s.ra) (s.rb) (s.ru) (s.rv) 3 tbP tbQ s.pl s.ph (1:Int) (3:Int) z3 z4 z5 z6) (need [[Q5]=[Q5],HH (hL s) QT,Q9 s,QA s] (leaf (false,(10:Int)))) (need [XO s,s.nc<=100000] (need [[Q5]=[Q5],HH [hR s.nr s,iI s.pl,iI s.ph,hY s.nb s,lst 5 (s.nc+1) λk=>[iI (HN s.nc (s.ca) z3 k),iI (HN s.nc (s.cb) z4 k),iI (HN s.nc (s.cc) z5 k),iI (HN s.nc (s.cd) z6 k),AV.x (.bool (apB s.nc (s.cv) false k))],hT s.ns s] (hL z0),((26:TypeId),1,s.xn,s.xg)=((26:TypeId),1,z0.xn,z0.xg),((9:TypeId),1,s.yn,s.yg)=((9:TypeId),1,z0.yn,z0.yg)] (leaf (true,(0:Int))))))))))))))))) (need [[Q5]=[Q5],HH QT QT,Q9 s,QA s] (leaf (false,(4:Int))))))))) z2)))) VZ ?_
 have hw:wdO (U9 (UT 5) V (Int.toNat 0))=true:=VZ;have hm:wdM (wdK (U9 (UT 5) V (Int.toNat 0)))=4:=VZ;have hn1:1<=n:=by have:=VW.2.1;omega
 have hnl:=BJ VW;simp only [VR.sat,UF,UK,hm,hw,true_imp_iff];refine ⟨⟨rfl,rfl⟩,⟨VO,VO⟩,⟨by simp only [VQ];omega,λh4=>?_,λh4=>?_⟩,λh=>by cases h⟩
 exact V9
 ·have hN:n=4+1:=by
   simp at h4;omega
  refine ⟨⟨VO,VO,VO⟩,?_,λh5=>?_,λh5=>?_⟩
  rotate_left 2
  exact VA
  ·all_goals exact vM
  have hk1:n-1=4:=VO;have hx0:U5 (U9 (UT 5) V 1)=U5 (V 0):=rfl;have hx1:U5 (U9 (UT 5) V 2)=U5 (V 1):=rfl;have hx2:U5 (U9 (UT 5) V 3)=U5 (V 2):=rfl;have hx3:U5 (U9 (UT 5) V 4)=U5 (V 3):=rfl;rw [hk1];simp only [hx0,hx1,hx2,hx3];refine ⟨VO,by decide,VO,by decide,VO,by decide,VO,by decide,⟨Bo.isRec4 _ _ _ _ _,Pt.isRec2 _ _ _⟩,λh6=>⟨DU _ _ _ _ _ _,FF hN h5 (Jp3 h6) (by decide)⟩,λh6=>⟨λh7=>⟨DU _ _ _ _ _ _,FF hN h5 (Jp2 h6 h7) (by decide)⟩,λh7=>⟨λh8=>⟨DU _ _ _ _ _ _,FF hN h5 (Zu3 h6 h7 h8) (by decide)⟩,λh8=>⟨VO,⟨⟨BM s,jC _,jC _,BO s,BN (isS s (U5 (V 0)) (U5 (V 1)) (U5 (V 2)) (U5 (V 3))),PO s,trivial⟩,rfl,rfl⟩,gV hN h5 (Jp4 h6 h7 h8)⟩⟩⟩⟩
section
variable (s:HS)(x0 A I Z x4:Int)
def slS:HS:={s with ns:=s.ns+1,sa:=HN s.ns s.sa x0,sb:=HN s.ns s.sb A,sc:=HN s.ns s.sc I,sl:=HN s.ns s.sl Z,sh:=HN s.ns s.sh x4}
def slE:Int:=if saB x0 A I Z x4=true then (if s.ns<8 then (if orE (s.ns+1) (HN s.ns s.sa x0) (HN s.ns s.sb A) (HN s.ns s.sc I) (HN s.ns s.sl Z) (HN s.ns s.sh x4)=0 then 0 else 9) else 3) else 2
end
def vE:G4
 |[.agg [.x (.int .i64 c),.x (.int .i64 t),.lst 5 n f]]=>match f 0 with
  |[.x (.int .i64 x0),.x (.int .i64 A),.x (.int .i64 I),.x (.int .i64 Z),.x (.int .i64 x4)]=>some ([n=1,c=4,t=10],i (if saB x0 A I Z x4=true then 0 else 1))
  |_=>none
 |_=>none
def rM(n:Nat)(a b c U O:Cg):G4:=λl=>some ([sV n a b c U O,l=[.agg [i 4,i 10,sls n a b c U O]]],.tup [.top,.top,i (orE n a b c U O)])
theorem s9:VT VU 81 vE:=by
 refine ⟨(UM Tryz.func81),?_⟩;intro avs ns res h hn;unfold vE at h;split at h;rename_i c t n f;split at h;rename_i x0 A I Z x4 hf;cases h;obtain rfl:n=1:=hn _ VY;obtain rfl:c=4:=hn (c=4) VY;obtain rfl:t=10:=hn (t=10) VY;have h1:=(S4 1 (λ_=>x0) (λ_=>A) (λ_=>I) (λ_=>Z) (λ_=>x4) VO).same (.cons (PA.same (.cons (.refl _) (.cons (.refl _) (.cons (.lst 5 1 f _ (λk hk=>by
  obtain rfl:k=0:=VO;exact hf)) .nil)))) .nil)
 have e:jV 1 (λ_=>x0) (λ_=>A) (λ_=>I) (λ_=>Z) (λ_=>x4)=saB x0 A I Z x4:=by
  unfold jV;cases hb:saB x0 A I Z x4 with
  |true=>exact H3.2 λj _=>hb
  |false=>exact Bool.eq_false_iff.2 λh=>Bool.noConfusion (hb.symm.trans (H3.1 h 0 VO))
 rw [e] at h1;exact h1;cases h;cases h
theorem s8(n:Nat)(a b c U O:Cg):VT VU 191 (rM n a b c U O):=by
 refine ⟨(UM Tryz.func191),?_⟩;intro avs ns res h hn;cases h;have e:=hn _ (D1 _ GN);subst e;exact Qs4 n a b c U O (hn _ GN)
section
variable {s:HS}{x0 A I Z x4:Int}
theorem Jj9(h:saB x0 A I Z x4=false):slE s x0 A I Z x4=2:=by
 unfold slE;rw [h];rfl
theorem Jj8(h:saB x0 A I Z x4=true)(h7:(!decide ((s.ns:Int)<8))=true):slE s x0 A I Z x4=3:=by
 unfold slE;simp at h7;rw [if_pos h,if_neg VO]
theorem Jj7(h:saB x0 A I Z x4=true)(h7:(!decide ((s.ns:Int)<8))=false)(h8:(!orE (s.ns+1) (HN s.ns s.sa x0) (HN s.ns s.sb A) (HN s.ns s.sc I) (HN s.ns s.sl Z) (HN s.ns s.sh x4)==0)=true):slE s x0 A I Z x4=9:=by
 unfold slE;simp at h7 h8;rw [if_pos h,if_pos VO,if_neg h8]
theorem Jk0(h:saB x0 A I Z x4=true)(h7:(!decide ((s.ns:Int)<8))=false)(h8:(!orE (s.ns+1) (HN s.ns s.sa x0) (HN s.ns s.sb A) (HN s.ns s.sc I) (HN s.ns s.sl Z) (HN s.ns s.sh x4)==0)=false):slE s x0 A I Z x4=0:=by
 unfold slE;simp at h7 h8;rw [if_pos h,if_pos VO,if_pos h8]
theorem slV(h:saB x0 A I Z x4=true)(h7:(!decide ((s.ns:Int)<8))=false)(hs:sV s.ns s.sa s.sb s.sc s.sl s.sh):sV (s.ns+1) (HN s.ns s.sa x0) (HN s.ns s.sb A) (HN s.ns s.sc I) (HN s.ns s.sl Z) (HN s.ns s.sh x4):=by
 simp at h7;refine ⟨VO,λk hk=>?_⟩;unfold HN;by_cases hk':k<s.ns;simp only [if_pos hk'];exact hs.2 k hk';simp only [if_neg hk'];exact h
end
theorem ifB{b:Bool}(h:(!(if b=true then (0:Int) else 1)==0)=false):b=true:=by cases b<;>simp_all
theorem ifB'{b:Bool}(h:(!(if b=true then (0:Int) else 1)==0)=true):b=false:=by cases b<;>simp_all
noncomputable def NN:D9:=AU Tryz.prog [] {} [] Tryz.f32 (UB Tryz.f32)
theorem tU:GH VU 32 NN:=
 RT (G:=[]) (X:=W5) (L:=[]) Aa Ad U3 (UM Tryz.func32) Tryz.func32 (UW Tryz.f32) U7
section
variable (s:HS)(x0 A I Z x4:Int)
noncomputable abbrev Qo5:F4:=AT Tryz.prog [(81,vE),(190,(Qo0 s.ns s.sa s.sb s.sc s.sl s.sh)),(191,(rM (s.ns+1) (HN s.ns s.sa x0) (HN s.ns s.sb A) (HN s.ns s.sc I) (HN s.ns s.sl Z) (HN s.ns s.sh x4)))] {R:=[],H:=[(32,NN)] } [(102,RI)] [] Tryz.f148 (UB Tryz.f148)
theorem Qv5:DE VU 148 (Qo5 s x0 A I Z x4):=
 FY (G:=[(81,vE),(190,(Qo0 s.ns s.sa s.sb s.sc s.sl s.sh)),(191,(rM (s.ns+1) (HN s.ns s.sa x0) (HN s.ns s.sb A) (HN s.ns s.sc I) (HN s.ns s.sl Z) (HN s.ns s.sh x4)))]) (X:={R:=[],H:=[(32,NN)] }) (PX:=[(102,RI)]) (L:=[]) (Ae s9 (Ae (Xq8 s.ns s.sa s.sb s.sc s.sl s.sh) (Ae (s8 (s.ns+1) (HN s.ns s.sa x0) (HN s.ns s.sb A) (HN s.ns s.sc I) (HN s.ns s.sl Z) (HN s.ns s.sh x4)) Aa))) (Ai Ab (Ag tU Ac)) (UY.cons RZ (UY.nil _)) U3 (UM Tryz.func148) Tryz.func148 (UW Tryz.f148) (λj cj _ sp hsp=>by simp at hsp)
end
abbrev ZA(s:HS)(V:Cf):List AV:=[hR s.nr s,iI s.pl,iI s.ph,hY s.nb s,hC s.nc s,lst 5 (s.ns+1) λk=>[iI (HN s.ns (s.sa) (U5 (U9 (UT 7) V 1)) k),iI (HN s.ns (s.sb) (U5 (U9 (UT 7) V 2)) k),iI (HN s.ns (s.sc) (U5 (U9 (UT 7) V 3)) k),iI (HN s.ns (s.sl) (U5 (U9 (UT 7) V 4)) k),iI (HN s.ns (s.sh) (U5 (U9 (UT 7) V 5)) k)]]
theorem Xp2(V:Cf)(n:Nat)(str:ByteArray)(s:HS)(VW:uT str n (U9 (UT 7) V))(UG:sV s.ns s.sa s.sb s.sc s.sl s.sh):x9 VU 73 [.ptr 0 0,.x (.string str)] (X9 s) 901 [[.ptr 0 0,.row 1,.row 2]] 159 (OS (slS s (U5 (V 0)) (U5 (V 1)) (U5 (V 2)) (U5 (V 3)) (U5 (V 4)))) (OX s) (rsE (fmE (U9 (UT 7) V) n 5 (slE s (U5 (V 0)) (U5 (V 1)) (U5 (V 2)) (U5 (V 3)) (U5 (V 4))))):=by
 refine LV (PX:=[(102,RI),(103,k8),(148,(Qo5 s (U5 (V 0)) (U5 (V 1)) (U5 (V 2)) (U5 (V 3)) (U5 (V 4))))]) (L:=[u9 (U9 (UT 7) V) n 5 148 s]) (Ae (LO VW) (Ae x7 Aa)) Ad (UY.cons RZ (UY.cons xF (UY.cons (Qv5 s (U5 (V 0)) (U5 (V 1)) (U5 (V 2)) (U5 (V 3)) (U5 (V 4))) (UY.nil _)))) U3 (UM Tryz.func73) Tryz.func73 (UW Tryz.f73) (LS (lpE (b:= .loop OK) VZ<|dC (U9 (UT 7) V) n 5 148 s VW.2.2.2 (BJ VW))) (N:=[]) (t:=let z0:=(slS s (U5 (V 0)) (U5 (V 1)) (U5 (V 2)) (U5 (V 3)) (U5 (V 4)));let z1:=(U9 (UT 7) V (0:Int).toNat);let z2:=(need [[Q5]=[Q5],HH (hL s) QT,Q9 s,QA s] (leaf (false,(4:Int))));(need [OA str str {data:=#[32] }] (need [UO 0 n] (branch (wdO z1) (need [VQ (wdM (wdK z1)+1)] (branch (!(n:Int)==wdM (wdK z1)+1) z2 (need [(0:Int)<=1/\(1:Int)<=(n:Int)/\(n:Int)<=(n:Int)] (need [QO,U4 (lst 1 n λk=>[HP (U9 (UT 7) V k)]),ZT,WI,(lst 1 (n-(1:Int).toNat) λi=>[AV.x (.string (U9 (UT 7) V ((1:Int).toNat+i)))])=lst 1 (n-1) λj=>[HP (U9 (UT 7) V (1+j))],(↑(n-(1:Int).toNat):Int)=(↑(n-1):Int),(0:Int)=((0:Nat):Int),0=0,∀(i:Nat),i<0->[]=[iI (U5 (U9 (UT 7) V (1+i)))],wdM (wdK z1)=5,U4 (AV.fn (Fn.func 148) [] []),XI s,JQ s,JR s,XW s,XO s,XP s,KP s,∀(i:Nat),i<s.xn->s.xg i=s.xg i,KR s,∀(i:Nat),i<s.yn->s.yg i=s.yg i,QO,JX,JY] (branch (nuB (U9 (UT 7) V) n) (need [UO 0 (↑(n-1):Int)] (need [(0:Int).toNat<n-1] (need [UO 1 (↑(n-1):Int)] (need [(1:Int).toNat<n-1] (need [UO 2 (↑(n-1):Int)] (need [(2:Int).toNat<n-1] (need [UO 3 (↑(n-1):Int)] (need [(3:Int).toNat<n-1] (need [UO 4 (↑(n-1):Int)] (need [(4:Int).toNat<n-1] (need [1=1,QZ,WC] (branch (!(if saB (U5 (U9 (UT 7) V 1)) (U5 (U9 (UT 7) V 2)) (U5 (U9 (UT 7) V 3)) (U5 (U9 (UT 7) V 4)) (U5 (U9 (UT 7) V 5))=true then (0:Int) else (1:Int))==0) (need [[Q5]=[Q5],HH (hL s) QT,Q9 s,QA s] (leaf (false,(2:Int)))) (branch (!decide ((↑s.ns:Int)<8)) (need [[Q5]=[Q5],HH (hL s) QT,Q9 s,QA s] (leaf (false,(3:Int)))) (need [XP s,s.ns<=100000] (need [sV (s.ns+1) (HN s.ns (s.sa) (U5 (V 0))) (HN s.ns (s.sb) (U5 (V 1))) (HN s.ns (s.sc) (U5 (V 2))) (HN s.ns (s.sl) (U5 (V 3))) (HN s.ns (s.sh) (U5 (V 4))),[agg [iI 4,iI 10,lst 5 (s.ns+1) λk=>[iI (HN s.ns (s.sa) (U5 (U9 (UT 7) V 1)) k),iI (HN s.ns (s.sb) (U5 (U9 (UT 7) V 2)) k),iI (HN s.ns (s.sc) (U5 (U9 (UT 7) V 3)) k),iI (HN s.ns (s.sl) (U5 (U9 (UT 7) V 4)) k),iI (HN s.ns (s.sh) (U5 (U9 (UT 7) V 5)) k)]]]=[agg [iI 4,iI 10,lst 5 (s.ns+1) λk=>[iI (HN s.ns (s.sa) (U5 (V 0)) k),iI (HN s.ns (s.sb) (U5 (V 1)) k),iI (HN s.ns (s.sc) (U5 (V 2)) k),iI (HN s.ns (s.sl) (U5 (V 3)) k),iI (HN s.ns (s.sh) (U5 (V 4)) k)]]]] (branch (!orE (s.ns+1) (HN s.ns (s.sa) (U5 (V 0))) (HN s.ns (s.sb) (U5 (V 1))) (HN s.ns (s.sc) (U5 (V 2))) (HN s.ns (s.sl) (U5 (V 3))) (HN s.ns (s.sh) (U5 (V 4)))==0) (need [[Q5]=[Q5],HH (ZA s V) QT,Q9 s,QA s] (leaf (false,(9:Int)))) (need [[Q5]=[Q5],HH (ZA s V) (hL z0),((26:TypeId),1,s.xn,s.xg)=((26:TypeId),1,z0.xn,z0.xg),((9:TypeId),1,s.yn,s.yg)=((9:TypeId),1,z0.yn,z0.yg)] (leaf (true,(0:Int)))))))))))))))))))) (need [[Q5]=[Q5],HH QT QT,Q9 s,QA s] (leaf (false,(4:Int))))))))) z2)))) VZ ?_
 have hw:wdO (U9 (UT 7) V (Int.toNat 0))=true:=VZ;have hm:wdM (wdK (U9 (UT 7) V (Int.toNat 0)))=5:=VZ;have hn1:1<=n:=by have:=VW.2.1;omega
 have hnl:=BJ VW;simp only [VR.sat,UF,UK,hm,hw,true_imp_iff];refine ⟨⟨rfl,rfl⟩,⟨VO,VO⟩,⟨by simp only [VQ];omega,λh4=>?_,λh4=>?_⟩,λh=>by cases h⟩
 exact V9
 ·have hN:n=5+1:=by
   simp at h4;omega
  refine ⟨⟨VO,VO,VO⟩,?_,λh5=>?_,λh5=>?_⟩
  rotate_left 2
  exact VA
  ·all_goals exact vM
  have hk1:n-1=5:=VO;have hx0:U5 (U9 (UT 7) V 1)=U5 (V 0):=rfl;have hx1:U5 (U9 (UT 7) V 2)=U5 (V 1):=rfl;have hx2:U5 (U9 (UT 7) V 3)=U5 (V 2):=rfl;have hx3:U5 (U9 (UT 7) V 4)=U5 (V 3):=rfl;have hx4:U5 (U9 (UT 7) V 5)=U5 (V 4):=rfl;rw [hk1];simp only [hx0,hx1,hx2,hx3,hx4];have hns:=UG.1;refine ⟨VO,by decide,VO,by decide,VO,by decide,VO,by decide,VO,by decide,λh6=>⟨DU _ _ _ _ _ _,FF hN h5 (Jj9 (ifB' h6)) (by decide)⟩,λh6=>⟨λh7=>⟨DU _ _ _ _ _ _,FF hN h5 (Jj8 (ifB h6) h7) (by decide)⟩,λh7=>⟨VO,⟨slV (ifB h6) h7 UG,trivial⟩,λh8=>⟨DU _ _ _ _ _ _,FF hN h5 (Jj7 (ifB h6) h7 h8) (by decide)⟩,λh8=>⟨⟨⟨BM s,jC _,jC _,BO s,BN s,PO (slS s (U5 (V 0)) (U5 (V 1)) (U5 (V 2)) (U5 (V 3)) (U5 (V 4))),trivial⟩,rfl,rfl⟩,gV hN h5 (Jk0 (ifB h6) h7 h8)⟩⟩⟩⟩
theorem Wu3(r v:Int)(m:Nat)(g:Cg)(VW:1<=m):U2 VU 186 [.agg [i r,i v],.ro [.lst 1 m (λk=>[i (g k)])]] (bl (!(r==g 0))):=by
 refine H0 Tryz.func186 (t:=need [UO 0 m] (leaf (RV.x (.bool (r != g (0:Int).toNat))))) VZ ?_;simp only [VR.sat,UF,G6,UH,UK,Int.toNat_zero];refine ⟨VO,?_⟩;show (r != g 0)=_;rfl
def Qm3(m:Nat)(g:Cg):G4
 |[.agg [.x (.int .i64 r),.x (.int .i64 v)],b]=>some ([1<=m,[b]=[.ro [.lst 1 m (λk=>[i (g k)])]]],bl (!(r==g 0)))
 |_=>none
theorem Wu2(m:Nat)(g:Cg):VT VU 186 (Qm3 m g):=by
 refine ⟨(UM Tryz.func186),?_⟩;intro avs ns res h hn;unfold Qm3 at h;split at h;cases h;have e:=hn _ (D1 _ GN);injection e with e _
 subst e;exact Wu3 _ _ m g (hn _ GN);cases h
theorem Qw7(r v:Int)(m:Nat)(g:Cg)(VW:1<=m):U2 VU 220 [.agg [i r,i v],.ro [.fn (.func 186) [] [.ro [.lst 1 m (λk=>[i (g k)])]]]] (bl (r==g 0)):=by
 refine U6 (L:=[]) (Ae (Wu2 m g) Aa) U3 Tryz.func220 (UW Tryz.f220) U7 (t:=need [1<=m,U4 ([AV.ro [lst 1 m λk=>[iI (g k)]]])] (leaf (RV.x (.bool !!r==g 0)))) VZ ?_;simp only [VR.sat,UF,G6,UH,UK];refine ⟨VW,?_⟩;show (!!(r==g 0))=_;simp
def o1(m:Nat)(g:Cg):G4
 |[.agg [.x (.int .i64 r),.x (.int .i64 v)],b]=>some ([1<=m,[b]=[.ro [.fn (.func 186) [] [.ro [.lst 1 m (λk=>[i (g k)])]]]]],bl (r==g 0))
 |_=>none
theorem SW(m:Nat)(g:Cg):VT VU 220 (o1 m g):=by
 refine ⟨(UM Tryz.func220),?_⟩;intro avs ns res h hn;unfold o1 at h;split at h;cases h;have e:=hn _ (D1 _ GN);injection e with e _
 subst e;exact Qw7 _ _ m g (hn _ GN);cases h
def seJ(r:Cg)(x:Int)(j:Nat):Bool:=r j==x
def seN(n:Nat)(r:Cg)(x:Int):Bool:=DH (λj=> !(r j==x)) n
abbrev W9(m:Nat)(g:Cg):AV:=AV.fn (Fn.func 220) [] [AV.ro [AV.fn (Fn.func 186) [] [AV.ro [lst 1 m λk=>[iI (g k)]]]]]
section
variable (n:Nat)
abbrev ZM(r:Cg)(v:Cg):AV:=lst 2 n λk=>[iI (r k),iI (v k)]
def dZ(r v:Cg)(m:Nat)(g:Cg):St:={σ:=[ZM n r v,W9 m g]++HR 5 [iI (n:Int)]++HR 11 [],m:=[],nx:=4}
noncomputable def Qp6:Code:=UD (VX (UB Tryz.f239) 0)
def SI(r v:Cg)(m:Nat)(g:Cg)(k:Nat):St:=(upM [(8,i k)] (dZ n r v m g))
def qM(r v:Cg)(m:Nat)(g:Cg)(k:Nat):G8->Option St
 | .ret=>some (upM [(4,i (H2 ((seJ r (g 0))) n))] (dZ n r v m g))
 | .exit 0=>some (upM [] (dZ n r v m g))
 |_=>none
def Qk9(r v:Cg)(m:Nat)(g:Cg):CT:= .branch (decide (H2 ((seJ r (g 0))) n<n)) (.leaf (.ret,(qM n r v m g 0 .ret).getD (dZ n r v m g))) (.leaf (.exit 0,(qM n r v m g 0 (.exit 0)).getD (dZ n r v m g)))
def oI(r v:Cg)(m:Nat)(g:Cg):UN:=(HI (SI n r v m g (0)) (Qk9 n r v m g))
end
abbrev K5(m:Nat)(g:Cg):List AV:=[AV.ro [AV.fn (Fn.func 186) [] [AV.ro [lst 1 m λk=>[iI (g k)]]]]]
section
variable (n:Nat)(r v:Cg)(m:Nat)(g:Cg)
theorem Wb2(VW:n<=100000)(UG:1<=m):GD VU (.loop Qp6) (oI n r v m g):=by
 refine HO (L:=[]) (Ae (SW m g) Aa) U3 U7 (X:=Nat) (SI n r v m g) (λk=>k<=n/\ ∀j,j<k->(seJ r (g 0)) j=false) (λk=>n-k) (qM n r v m g) (x0:=0) ⟨VO,λj hj=>VO⟩ ?_ ?_ ?_;rintro k;kernel_rfl;rintro k y E h;unfold qM at h;split at h;cases h;kernel_rfl;cases h;kernel_rfl;cases h
 ·rintro Q hQ k hx;refine ⟨(k+1),?_⟩;(with_reducible refine DG (t:=branch (decide ((k:Int)<(n:Int))) (need [UO k n] (need [1<=m,U4 (K5 m g)] (branch (r k==g 0) (need [U4 (ZM n r v),U4 (W9 m g),(k:Int)=(↑(H2 (seJ r (g 0)) n):Int),U4 (n:Int)] (leaf G8.ret)) (need [VQ ((k:Int)+1)] (need [U4 (ZM n r v),U4 (W9 m g),U4 (n:Int),(k:Int)+1=(↑(k+1):Int)] (leaf G8.normal)))))) (need [U4 (ZM n r v),U4 (W9 m g),U4 (n:Int)] (leaf (G8.exit 0)))) VZ ?_);simp only [Qk9,qM,VR.sat,GW,H6] at hQ;simp only [VR.sat,UF,UK,H6,VQ,qM,DR];have Xr6:k<n->((seJ r (g 0))) k=true->H2 ((seJ r (g 0))) n=k:=λh hb=>jJ h hb hx.2;have PR: ¬k<n->H2 ((seJ r (g 0))) n=n:=λh=>qO (λj hj=>hx.2 j VO);have hgo:((seJ r (g 0))) k=false-> ∀j,j<k+1->((seJ r (g 0))) j=false:=by
   intro hb j hj;rcases (show j<k\/j=k by omega) with h1|rfl
   exact hx.2 j h1;exact hb
  refine ⟨λh=>⟨VO,UG,?_⟩,λh=>?_⟩
  rotate_left
  intro E hE;cases hE;exact hQ.2 (by rw [PR VO];omega)
  have hk:k<n:=VO;refine ⟨λhb=>?_,λhb=>?_⟩;exact VH;exact ⟨VO,VO,⟨VO,hgo hb⟩,VO⟩
theorem Xq5(VW:n<=100000)(UG:1<=m):U2 VU 239 [rdl n r v,.fn (.func 220) [] [.ro [.fn (.func 186) [] [.ro [.lst 1 m (λk=>[i (g k)])]]]]] (i (if H2 ((seJ r (g 0))) n<n then (H2 ((seJ r (g 0))) n:Int) else -1)):=by
 refine U6 (L:=[oI n r v m g]) (Ae (SW m g) Aa) U3 Tryz.func239 (UW Tryz.f239) (G0 (lpE (b:= .loop Qp6) VZ<|Wb2 n r v m g VW UG)) (t:=need [U4 (ZM n r v),U4 (W9 m g),U4 (n:Int),(0:Int)=((0:Nat):Int)] (branch (decide (H2 (seJ r (g 0)) n<n)) (leaf (RV.x (.int .i64 (↑(H2 (seJ r (g 0)) n):Int)))) (leaf (RV.x (KL))))) VZ ?_
 exact VD
def Zz7:G4:=λl=>some ([l=[rdl n r v,.fn (.func 220) [] [.ro [.fn (.func 186) [] [.ro [.lst 1 m (λk=>[i (g k)])]]]]]],i (if H2 (seJ r (g 0)) n<n then (H2 (seJ r (g 0)) n:Int) else -1))
theorem Wt6(VW:n<=100000)(UG:1<=m):VT VU 239 (Zz7 n r v m g):=by
 refine ⟨(UM Tryz.func239),?_⟩;intro avs ns res h hn;cases h;have e:=hn _ GN;subst e;exact Xq5 n r v m g VW UG
theorem Xs2(VW:n<=100000)(UG:1<=m):U2 VU 219 [rdl n r v,.fn (.func 220) [] [.ro [.fn (.func 186) [] [.ro [.lst 1 m (λk=>[i (g k)])]]]]] (bl (!seN n r (g 0))):=by
 refine U6 (L:=[]) (Ae (Wt6 n r v m g VW UG) Aa) U3 Tryz.func219 (UW Tryz.f219) U7 (t:=need [U4 ([ZM n r v,W9 m g])] (leaf (RV.x (.bool (decide ((if H2 (seJ r (g 0)) n<n then (↑(H2 (seJ r (g 0)) n):Int) else (-1:Int))>=(0:Int))))))) VZ ?_
 simp only [VR.sat,UF,G6,UH,UK];unfold seN;rw [yF];have e:(λk=> !(λj=> !(r j==g 0)) k)=seJ r (g 0):=by
  funext k;simp [seJ]
 rw [e];have:=FA (seJ r (g 0)) n;show decide ((if H2 (seJ r (g 0)) n<n then (H2 (seJ r (g 0)) n:Int) else -1)>=0)=_
 split<;>simp<;>omega
def Zz9:G4:=λl=>some ([l=[rdl n r v,.fn (.func 220) [] [.ro [.fn (.func 186) [] [.ro [.lst 1 m (λk=>[i (g k)])]]]]]],bl (!seN n r (g 0)))
theorem Ww4(VW:n<=100000)(UG:1<=m):VT VU 219 (Zz9 n r v m g):=by
 refine ⟨(UM Tryz.func219),?_⟩;intro avs ns res h hn;cases h;have e:=hn _ GN;subst e;exact Xs2 n r v m g VW UG
theorem Ww8(VW:n<=100000)(UG:1<=m):U2 VU 185 [rdl n r v,.fn (.func 186) [] [.ro [.lst 1 m (λk=>[i (g k)])]]] (bl (seN n r (g 0))):=by
 refine U6 (L:=[]) (Ae (Ww4 n r v m g VW UG) Aa) U3 Tryz.func185 (UW Tryz.f185) U7 (t:=need [U4 ([ZM n r v,W9 m g])] (leaf (RV.x (.bool !!seN n r (g 0))))) VZ ?_;simp only [VR.sat,UF,G6,UH,UK];show (!!seN n r (g 0))=_;simp
end
section
variable (s:HS)
def laB:Nat:=((s.nb:Int)-1).toNat
def seM(k:Nat):Nat:=if k=laB s then s.qm k+1 else s.qm k
def seR(x0:Int)(k j:Nat):Int:=if k=laB s then HN (s.qm k) (s.qr k) x0 j else s.qr k j
def seV(A:Int)(k j:Nat):Int:=if k=laB s then HN (s.qm k) (s.qv k) A j else s.qv k j
def seS(x0 A:Int):HS:={s with qm:=seM s,qr:=seR s x0,qv:=seV s A}
def seE(x0 A:Int):Int:=if 1<=s.nb then (if bt 0 x0 2=true then (if seN (s.qm (laB s)) (s.qr (laB s)) x0=true then (if bt (-1000) A 2000=true then (if boE s.nb s.ql s.qh (seM s) (seR s x0) (seV s A)=0 then 0 else 9) else 2) else 6) else 7) else 8
end
section
variable (N:Nat)(U O:Cg)(m:Ch)(r v:Nat->Cg)
def x8:G4
 |[.agg l']=>some ([bV N U O m r v,HH l' [ofs,i 1,bds N U O m r v]],.tup [.top,i (boE N U O m r v)])
 |_=>none
theorem Qi0:Idf (bds N U O m r v):= .lst _ _ _ λk _ x hx=>by
 simp only [GT,DO,or_false] at hx;rcases hx with rfl|rfl|rfl;exact .x _;exact .x _;exact VC
end
theorem Wn4{e:UP}{w:World}{l l':List AV}{u:Value}(h:HH l l')(r:Rep e w (.agg l) u):Rep e w (.agg l') u:=by
 cases r with
 |agg _ vs h1 h2=>exact Rep.aggL (fV h ⟨h1,h2⟩)
theorem cI(N:Nat)(U O:Cg)(m:Ch)(r v:Nat->Cg):VT VU 27 (x8 N U O m r v):=by
 refine ⟨(UM Tryz.func27),?_⟩;intro avs ns res h hn;unfold x8 at h;split at h;rename_i l';cases h;have h1:bV N U O m r v:=hn _ GN;have h2:HH l' [ofs,i 1,bds N U O m r v]:=hn _ (D1 _ GN);intro e w args q1 q2 q3 q4;have q5:U8 e w [.agg [ofs,i 1,bds N U O m r v]] args:=by
  obtain ⟨u,us,rfl,g1,g2⟩:=q4.cons_inv;exact .cons (Wn4 h2 g1) g2
 refine (yE N U O m r v h1 e w args q1 q2 (λa ha=>?_) q5).mono ?_;rcases B2.1 ha with rfl;refine .agg _ λx hx=>?_;simp only [GT,DO,or_false] at hx;rcases hx with rfl|rfl|rfl;exact VC;exact .x _;exact Qi0 _ _ _ _ _ _;rintro en w' ⟨u,rfl,g1,g2⟩;have k:FN (tup [.lst 2 (boN N U O m r v) (λk=>[i (boL N U O m r v k),i (boH N U O m r v k)]),i (boE N U O m r v)]) (.tup [.top,i (boE N U O m r v)]):=⟨trivial,(PN _).2,trivial⟩;exact ⟨u,rfl,g1,L9 k g2⟩;cases h
section
variable {s:HS}
theorem Jl3{x0 A:Int}(h:bV s.nb s.ql s.qh s.qm s.qr s.qv)(h1:1<=s.nb)(h2:bt 0 x0 2=true)(h3:seN (s.qm (laB s)) (s.qr (laB s)) x0=true)(h4:bt (-1000) A 2000=true):bV s.nb s.ql s.qh (seM s) (seR s x0) (seV s A):=by
 rw [bt_iff] at h2 h4;have h3: ∀j,j<s.qm (laB s)->s.qr (laB s) j≠x0:=λj hj=>by simpa using H3.1 h3 j hj
 have hla:laB s<s.nb:=by unfold laB;omega
 obtain ⟨⟨g0,g1⟩,g2⟩:=h;have hq:s.qm (laB s)<=3:=by
  rcases An 3 (s.qm (laB s)) with hq|hq;obtain ⟨_,_,_,_,g3⟩:=g1 _ hla;have a0:=g3 0 VO;have a1:=g3 1 VO;have a2:=g3 2 VO;have a3:=g3 3 VO;have b01:=g2 _ hla 0 1 VO VO;have b02:=g2 _ hla 0 2 VO VO;have b03:=g2 _ hla 0 3 VO VO;have b12:=g2 _ hla 1 2 VO VO;have b13:=g2 _ hla 1 3 VO VO;have b23:=g2 _ hla 2 3 VO VO;omega;exact hq
 refine ⟨⟨g0,λb hb=>?_⟩,λb hb j k hjk hk=>?_⟩;obtain ⟨k1,k2,k3,k4,k5⟩:=g1 b hb;unfold seM seR seV HN;by_cases e:b=laB s;subst e;simp only [if_true];refine ⟨VO,k2,k3,k4,λj hj=>?_⟩;by_cases e:j<s.qm (laB s);simp only [if_pos e];exact k5 j e;simp only [if_neg e];omega;simp only [if_neg e];exact ⟨k1,k2,k3,k4,k5⟩;unfold seM at hk;unfold seR HN;by_cases e:b=laB s;subst e;simp only [if_true] at hk ⊢;by_cases e:k<s.qm (laB s);simp only [if_pos e,if_pos (show j<s.qm (laB s) by omega)]
 exact g2 _ hb j k hjk e;simp only [if_neg e,if_pos (show j<s.qm (laB s) by omega)]
 exact h3 j VO;simp only [if_neg e] at hk ⊢;exact g2 _ hb j k hjk hk
theorem Jk5{k:Nat}(h:k=laB s):seM s k=s.qm (laB s)+1:=by rw [h];exact if_pos rfl
theorem Jk6{k:Nat}(h: ¬k=laB s):seM s k=s.qm k:=if_neg h
theorem Jk3{x:Int}{k j:Nat}(h:k=laB s):seR s x k j=HN (s.qm (laB s)) (s.qr (laB s)) x j:=by rw [h];exact if_pos rfl
theorem Jk4{x:Int}{k j:Nat}(h: ¬k=laB s):seR s x k j=s.qr k j:=if_neg h
theorem Jk1{x:Int}{k j:Nat}(h:k=laB s):seV s x k j=HN (s.qm (laB s)) (s.qv (laB s)) x j:=by rw [h];exact if_pos rfl
theorem Jk2{x:Int}{k j:Nat}(h: ¬k=laB s):seV s x k j=s.qv k j:=if_neg h
theorem Jk8{x0 A:Int}(h:(!decide ((s.nb:Int)-1>=0))=true):seE s x0 A=8:=by
 simp at h;exact if_neg VO
theorem Jk9{x0 A:Int}(h1:1<=s.nb)(h2:bt 0 x0 2=false):seE s x0 A=7:=by
 unfold seE;rw [if_pos h1,h2];rfl
theorem Jl0{x0 A:Int}(h1:1<=s.nb)(h2:bt 0 x0 2=true)(h3:seN (s.qm (laB s)) (s.qr (laB s)) x0=false):seE s x0 A=6:=by
 unfold seE;rw [if_pos h1,if_pos h2,h3];rfl
theorem Jl1{x0 A:Int}(h1:1<=s.nb)(h2:bt 0 x0 2=true)(h3:seN (s.qm (laB s)) (s.qr (laB s)) x0=true)(h4:bt (-1000) A 2000=false):seE s x0 A=2:=by
 unfold seE;rw [if_pos h1,if_pos h2,if_pos h3,h4];rfl
theorem Jk7{x0 A:Int}(h1:1<=s.nb)(h2:bt 0 x0 2=true)(h3:seN (s.qm (laB s)) (s.qr (laB s)) x0=true)(h4:bt (-1000) A 2000=true)(h5:(!boE s.nb s.ql s.qh (seM s) (seR s x0) (seV s A)==0)=true):seE s x0 A=9:=by
 unfold seE;simp at h5;rw [if_pos h1,if_pos h2,if_pos h3,if_pos h4,if_neg h5]
theorem Jl2{x0 A:Int}(h1:1<=s.nb)(h2:bt 0 x0 2=true)(h3:seN (s.qm (laB s)) (s.qr (laB s)) x0=true)(h4:bt (-1000) A 2000=true)(h5:(!boE s.nb s.ql s.qh (seM s) (seR s x0) (seV s A)==0)=false):seE s x0 A=0:=by
 unfold seE;simp at h5;rw [if_pos h1,if_pos h2,if_pos h3,if_pos h4,if_pos h5]
end
theorem Zu6(s:HS)(k:Nat): ∀x∈[i (s.ql k),i (s.qh k),bts (s.qm k) (s.qr k) (s.qv k)],Idf x:=λx hx=>by
 simp only [GT,DO,or_false] at hx;rcases hx with rfl|rfl|rfl;exact .x _;exact .x _;exact VC
noncomputable def rQ:D9:=AU Tryz.prog [] {} [] Tryz.f28 (UB Tryz.f28)
theorem mB:GH VU 28 rQ:=
 RT (G:=[]) (X:=W5) (L:=[]) Aa Ad U3 (UM Tryz.func28) Tryz.func28 (UW Tryz.f28) U7
section
variable (n:Nat)(r v:Cg)(m:Nat)(g:Cg)
def NG:G4:=λl=>some ([n<=100000,1<=m,l=[rdl n r v,.fn (.func 186) [] [.ro [.lst 1 m (λk=>[i (g k)])]]]],bl (seN n r (g 0)))
theorem Qw6:VT VU 185 (NG n r v m g):=by
 refine ⟨(UM Tryz.func185),?_⟩;intro avs ns res h hn;cases h;have e:=hn _ (D1 _ (D1 _ GN));subst e;exact Ww8 n r v m g (hn _ GN) (hn _ (D1 _ GN))
end
section
variable (s:HS)(x0 A:Int)(m:Nat)(g:Cg)
noncomputable abbrev Xh1:F4:=AT Tryz.prog [(29,RW),(185,(NG (s.qm (laB s)) (s.qr (laB s)) (s.qv (laB s)) m g)),(188,(Qn9 (s.qm (laB s)) (s.qr (laB s)) (s.qv (laB s)))),(27,(x8 s.nb s.ql s.qh (seM s) (seR s x0) (seV s A)))] {R:=[],H:=[(187,rS),(28,rQ)],C:=[(28,(cR zP))] } [(102,RI)] [] Tryz.f145 (UB Tryz.f145)
theorem Wu1:DE VU 145 (Xh1 s x0 A m g):=
 FY (G:=[(29,RW),(185,(NG (s.qm (laB s)) (s.qr (laB s)) (s.qv (laB s)) m g)),(188,(Qn9 (s.qm (laB s)) (s.qr (laB s)) (s.qv (laB s)))),(27,(x8 s.nb s.ql s.qh (seM s) (seR s x0) (seV s A)))]) (X:={R:=[],H:=[(187,rS),(28,rQ)],C:=[(28,(cR zP))] }) (PX:=[(102,RI)]) (L:=[]) (Ae BB (Ae (Qw6 (s.qm (laB s)) (s.qr (laB s)) (s.qv (laB s)) m g) (Ae (Xq7 (s.qm (laB s)) (s.qr (laB s)) (s.qv (laB s))) (Ae (cI s.nb s.ql s.qh (seM s) (seR s x0) (seV s A)) Aa)))) (Aj Ab (Ag mM (Ag mB Ac)) (Ah (Qk1 RK) (UJ.nil _))) (UY.cons RZ (UY.nil _)) U3 (UM Tryz.func145) Tryz.func145 (UW Tryz.f145) (λj cj _ sp hsp=>by simp at hsp)
end
theorem V5{p:Prop}(h:p:=by
 refine ⟨rfl,Ap _,λk hk=>⟨?_,Zu6 (seS s (U5 (V 0)) (U5 (V 1))) k⟩⟩
 dsimp only
 by_cases h:k=laB s;rw [show decide (k=((s.nb:Int)-1).toNat)=true from decide_eq_true h];refine ⟨(PN _).2,(PN _).2,⟨rfl,(Jk5 h).symm,λj hj=>?_⟩,trivial⟩;show _=[i (seR s (U5 (V 0)) k j),i (seV s (U5 (V 1)) k j)];rw [Jk3 h,Jk1 h];rfl;rw [show decide (k=((s.nb:Int)-1).toNat)=false from decide_eq_false h];refine ⟨(PN _).2,(PN _).2,⟨rfl,(Jk6 h).symm,λj hj=>?_⟩,trivial⟩;show _=[i (seR s (U5 (V 0)) k j),i (seV s (U5 (V 1)) k j)];rw [Jk4 h,Jk2 h];rfl):p:=h
theorem Zt7(V:Cf)(n:Nat)(str:ByteArray)(s:HS)(VW:uT str n (U9 (UT 4) V))(UG:bV s.nb s.ql s.qh s.qm s.qr s.qv):x9 VU 73 [.ptr 0 0,.x (.string str)] (X9 s) 901 [[.ptr 0 0,.row 1,.row 2]] 159 (OS (seS s (U5 (V 0)) (U5 (V 1)))) (OX s) (rsE (fmE (U9 (UT 4) V) n 2 (seE s (U5 (V 0)) (U5 (V 1))))):=by
 refine LV (PX:=[(102,RI),(103,k8),(145,(Xh1 s (U5 (V 0)) (U5 (V 1)) (n-1) (λk=>U5 (U9 (UT 4) V (k+1)))))]) (L:=[u9 (U9 (UT 4) V) n 2 145 s]) (Ae (LO VW) (Ae x7 Aa)) Ad (UY.cons RZ (UY.cons xF (UY.cons (Wu1 s (U5 (V 0)) (U5 (V 1)) (n-1) (λk=>U5 (U9 (UT 4) V (k+1)))) (UY.nil _)))) U3 (UM Tryz.func73) Tryz.func73 (UW Tryz.f73) (LS (lpE (b:= .loop OK) VZ<|dC (U9 (UT 4) V) n 2 145 s VW.2.2.2 (BJ VW))) (N:=[(.cell 0 3,0,0,0)]) (t:=let z5:=(U5 (U9 (UT 4) V (1+(0:Int).toNat)));let z6:=(U5 (U9 (UT 4) V (1+(1:Int).toNat)));let z0:=([hR s.nr s,iI s.pl,iI s.ph,lst 3 (0+s.nb) λk=>iI (if decide (k=((↑s.nb:Int)-1).toNat)=true then s.ql (k-0) else s.ql (k-0))::iI (if decide (k=((↑s.nb:Int)-1).toNat)=true then s.qh (k-0) else s.qh (k-0))::Bool.rec (bts (s.qm (k-0)) (s.qr (k-0)) (s.qv (k-0))) (lst 2 (s.qm (laB s)+1) λk=>[i (HN (s.qm (laB s)) (s.qr (laB s)) z5 k),i (HN (s.qm (laB s)) (s.qv (laB s)) z6 k)]) (decide (k=((↑s.nb:Int)-1).toNat))::Bool.rec ([]) ([]) (decide (k=((↑s.nb:Int)-1).toNat)),hC s.nc s,hT s.ns s]);let z1:=(seS s (U5 (V 0)) (U5 (V 1)));let z2:=(U9 (UT 4) V (0:Int).toNat);let z3:=((↑s.nb:Int)-1).toNat;let z4:=(need [[Q5]=[Q5],HH (hL s) QT,Q9 s,QA s] (leaf (false,(4:Int))));(need [OA str str {data:=#[32] }] (need [UO 0 n] (branch (wdO z2) (need [VQ (wdM (wdK z2)+1)] (branch (!(n:Int)==wdM (wdK z2)+1) z4 (need [(0:Int)<=1/\(1:Int)<=(n:Int)/\(n:Int)<=(n:Int)] (need [QO,U4 (lst 1 n λk=>[HP (U9 (UT 4) V k)]),ZT,WI,(lst 1 (n-(1:Int).toNat) λi=>[AV.x (.string (U9 (UT 4) V ((1:Int).toNat+i)))])=lst 1 (n-1) λj=>[HP (U9 (UT 4) V (1+j))],(↑(n-(1:Int).toNat):Int)=(↑(n-1):Int),(0:Int)=((0:Nat):Int),0=0,∀(i:Nat),i<0->[]=[iI (U5 (U9 (UT 4) V (1+i)))],wdM (wdK z2)=2,U4 (AV.fn (Fn.func 145) [] []),XI s,JQ s,JR s,XW s,XO s,XP s,KP s,∀(i:Nat),i<s.xn->s.xg i=s.xg i,KR s,∀(i:Nat),i<s.yn->s.yg i=s.yg i,QO,JX,JY] (branch (nuB (U9 (UT 4) V) n) (need [VQ ((↑s.nb:Int)-1)] (branch (!decide ((↑s.nb:Int)-1>=(0:Int))) (need [[Q5]=[Q5],HH (hL s) QT,Q9 s,QA s] (leaf (false,(8:Int)))) (need [UO 0 (↑(n-1):Int)] (need [(0:Int).toNat<n-1] (need [VQ (((3:Nat):Int)-1)] (branch (!bt (0:Int) (U5 (U9 (UT 4) V 1)) (((3:Nat):Int)-1)) (need [[Q5]=[Q5],HH (hL s) QT,Q9 s,QA s] (leaf (false,(7:Int)))) (need [UO ((↑s.nb:Int)-1) s.nb] (need [s.qm (laB s)<=100000,1<=n-1,[lst 2 (s.qm z3) λj=>[iI (s.qr z3 j),iI (s.qv z3 j)],AV.fn (Fn.func 186) [] [AV.ro [lst 1 (n-1) λj=>[iI (U5 (U9 (UT 4) V (1+j)))]]]]=[lst 2 (s.qm (laB s)) λk=>[iI (s.qr (laB s) k),iI (s.qv (laB s) k)],AV.fn (Fn.func 186) [] [AV.ro [lst 1 (n-1) λk=>[iI (U5 (U9 (UT 4) V (k+1)))]]]]] (branch (!seN (s.qm (laB s)) (s.qr (laB s)) (U5 (U9 (UT 4) V 1))) (need [[Q5]=[Q5],HH (hL s) QT,Q9 s,QA s] (leaf (false,(6:Int)))) (need [UO 1 (↑(n-1):Int)] (need [(1:Int).toNat<n-1] (branch (!bt (-1000:Int) (U5 (U9 (UT 4) V 2)) (2000:Int)) (need [[Q5]=[Q5],HH (hL s) QT,Q9 s,QA s] (leaf (false,(2:Int)))) (VR.may (s.nb=0) VR.fail (need [(0+s.nb)*40<=140737488355328,∀(i:Nat),i<s.nb-> ∀(a:AV),a∈[iI (s.ql i),iI (s.qh i),bts (s.qm i) (s.qr i) (s.qv i)]->AV.one a=true] (need [UO ((↑s.nb:Int)-1) (↑(0+s.nb):Int)] (need [((↑s.nb:Int)-1).toNat<0+s.nb] (need [UO 0 (↑(n-1):Int)] (need [(0:Int).toNat<n-1] (need [UO 1 (↑(n-1):Int)] (need [(1:Int).toNat<n-1] (need [(lst 2 (s.qm (((↑s.nb:Int)-1).toNat-0)) λj=>[iI (s.qr (((↑s.nb:Int)-1).toNat-0) j),iI (s.qv (((↑s.nb:Int)-1).toNat-0) j)])=lst 2 (s.qm (laB s)) λk=>[iI (s.qr (laB s) k),iI (s.qv (laB s) k)],s.qm (laB s)<=100000] (need [UO ((↑s.nb:Int)-1) (↑(0+s.nb):Int)] (need [((↑s.nb:Int)-1).toNat<0+s.nb] (need [bV s.nb (s.ql) (s.qh) (seM s) (seR s (U5 (V 0))) (seV s (U5 (V 1))),HH [Y2,iI 1,lst 3 (0+s.nb) λk=>iI (if decide (k=((↑s.nb:Int)-1).toNat)=true then s.ql (k-0) else s.ql (k-0))::iI (if decide (k=((↑s.nb:Int)-1).toNat)=true then s.qh (k-0) else s.qh (k-0))::Bool.rec (bts (s.qm (k-0)) (s.qr (k-0)) (s.qv (k-0))) (lst 2 (s.qm (laB s)+1) λk=>[i (HN (s.qm (laB s)) (s.qr (laB s)) z5 k),i (HN (s.qm (laB s)) (s.qv (laB s)) z6 k)]) (decide (k=((↑s.nb:Int)-1).toNat))::Bool.rec ([]) ([]) (decide (k=((↑s.nb:Int)-1).toNat))] [lst 2 3 λk=>[iI (oL k),iI (oH k)],iI 1,lst 3 s.nb λk=>[iI (s.ql k),iI (s.qh k),lst 2 (seM s k) λj=>[iI (seR s (U5 (V 0)) k j),iI (seV s (U5 (V 1)) k j)]]]] (branch (!boE s.nb (s.ql) (s.qh) (seM s) (seR s (U5 (V 0))) (seV s (U5 (V 1)))==0) (need [[Q5]=[Q5],HH z0 QT,Q9 s,QA s] (leaf (false,(9:Int)))) (need [[Q5]=[Q5],HH z0 (hL z1),((26:TypeId),1,s.xn,s.xg)=((26:TypeId),1,z1.xn,z1.xg),((9:TypeId),1,s.yn,s.yg)=((9:TypeId),1,z1.yn,z1.yg)] (leaf (true,(0:Int))))))))))))))))))))))))))))) (need [[Q5]=[Q5],HH QT QT,Q9 s,QA s] (leaf (false,(4:Int))))))))) z4)))) VZ ?_
 have hw:wdO (U9 (UT 4) V (Int.toNat 0))=true:=VZ;have hm:wdM (wdK (U9 (UT 4) V (Int.toNat 0)))=2:=VZ;have hn1:1<=n:=by have:=VW.2.1;omega
 have hnl:=BJ VW;simp only [VR.sat,UF,UK,hm,hw,true_imp_iff];refine ⟨⟨rfl,rfl⟩,⟨VO,VO⟩,⟨by simp only [VQ];omega,λh4=>?_,λh4=>?_⟩,λh=>by cases h⟩
 exact V9
 ·have hN:n=2+1:=by
   simp at h4;omega
  refine ⟨⟨VO,VO,VO⟩,?_,λh5=>?_,λh5=>?_⟩
  rotate_left 2
  exact VA
  ·all_goals exact vM
  have hk1:n-1=2:=VO;have hx0:U5 (U9 (UT 4) V 1)=U5 (V 0):=rfl;have hx1:U5 (U9 (UT 4) V 2)=U5 (V 1):=rfl;have hq:s.nb<=6:=UG.1.1;rw [hk1];refine ⟨by simp only [VQ];omega,λh6=>⟨DU _ _ _ _ _ _,FF hN h5 (Jk8 h6) (by decide)⟩,λh6=>?_⟩
  have h6:1<=s.nb:=by simp at h6;omega
  have hla:laB s<s.nb:=by unfold laB;omega
  have hm10:=(UG.1.2 _ hla).1;refine ⟨VO,by decide,by simp only [VQ];omega,λh7=>⟨DU _ _ _ _ _ _,FF hN h5 (Jk9 h6 (bnt h7)) (by decide)⟩,λh7=>?_⟩
  have h7:bt 0 (U5 (V 0)) 2=true:=bnf h7;refine ⟨VO,⟨VO,VO,by simp only [Bh 1];rfl⟩,λh8=>⟨DU _ _ _ _ _ _,FF hN h5 (Jl0 h6 h7 (bnt h8)) (by decide)⟩,λh8=>?_⟩
  have h8:seN (s.qm (laB s)) (s.qr (laB s)) (U5 (V 0))=true:=bnf h8;refine ⟨VO,by decide,λh9=>⟨DU _ _ _ _ _ _,FF hN h5 (Jl1 h6 h7 h8 (bnt h9)) (by decide)⟩,λh9=>?_⟩
  have h9:bt (-1000) (U5 (V 1)) 2000=true:=bnf h9;refine ⟨λh=>VO,⟨VO,λk hk a ha=>?_⟩,VO,VO,VO,by decide,VO,by decide,⟨rfl,VO⟩,VO,VO,⟨Jl3 UG h6 h7 h8 h9,?_⟩,λh=>⟨DU _ _ _ _ _ _,FF hN h5 (Jk7 h6 h7 h8 h9 h) (by decide)⟩,λh=>⟨⟨⟨BM s,jC _,jC _,?_,BN s,PO s,trivial⟩,rfl,rfl⟩,gV hN h5 (Jl2 h6 h7 h8 h9 h)⟩⟩
  simp only [GT,DO,or_false] at ha;rcases ha with rfl|rfl|rfl<;>simp [AV.one,Value.oneCell'];refine ⟨⟨rfl,rfl,λk hk=>⟨?_,?_⟩⟩,jC _,?_,trivial⟩;rcases (show k=0\/k=1\/k=2 by omega) with rfl|rfl|rfl<;>exact ⟨(PN _).2,(PN _).2,trivial⟩
  intro x hx;simp only [GT,DO,or_false] at hx;rcases hx with rfl|rfl<;>exact .x _;exact V5;exact V5
open Go Go.Shelf
def lN:Go.Shelf.Ren:=⟨λ| 4=>218|n=>n,λ| 22=>37| 25=>126|n=>n,λn=>n⟩
theorem Qh3:Go.Proofs.Lays8.n4 Tryz.prog lN:=by
 constructor
 case f4=>exact ⟨Tryz.f218.name,(of_decide_eq_true (by kernel_rfl)),Tryz.func218.trans (congrArg some (by kernel_rfl))⟩
 all_goals first|(intro _;kernel_rfl)|kernel_rfl
theorem Zu4: ∃i0 z,Tryz.prog.info? 126=some i0/\i0.zero=some z/\i0.size=4/\i0.bytes=32/\z.cells.size=4:=by
 have h:((Tryz.prog.info? 126).bind λi=>i.zero.map λz=>(i.size,i.bytes,z.cells.size))=some (4,32,4):=VZ;cases O:Tryz.prog.info? 126 with
 |none=>rw [O] at h;cases h
 |some i0=>
  rw [O] at h;cases hz:i0.zero with
  |none=>
   have h:(i0.zero.map λz=>(i0.size,i0.bytes,z.cells.size))=some (4,32,4):=h;rw [hz] at h;cases h
  |some z=>
   have h:(i0.zero.map λz=>(i0.size,i0.bytes,z.cells.size))=some (4,32,4):=h;rw [hz] at h;simp only [Bt,HL,FI] at h;exact ⟨i0,z,rfl,hz,h.1,h.2.1,h.2.2⟩
theorem tV(k:Nat)(hk:k<=100000)(w:World):Calls Tryz.prog 218 #[.slice none 0 0,.int .i64 k] w λen w'=> ∃v,en= .returned v/\Below w.heap.size w w'/\w'.ownsRow 0 126 4 v 0 []/\ ∀b,v.ownBlock=some b->w.heap.size<=b/\b<w'.heap.size:=by
 rcases Nat.eq_zero_or_pos k with rfl|h0;refine Calls.mono (Any8.slices_Grow_room Qh3 none 0 0 0 w VO VO VO VO) ?_;rintro en w' ⟨rfl,rfl⟩;exact ⟨_,rfl,Below.refl _ _,⟨rfl,.inl ⟨rfl,rfl⟩⟩,λb h=>by cases h⟩
 obtain ⟨i0,z,e0,e1,e2,e3,e4⟩:=Zu4;refine Calls.mono (Any8.slices_Grow_grow Qh3 i0 z e0 e1 VO none 0 0 k [] w VO VO (by rw [e3];omega) VO VY (λ_=>rfl) (λa h=>by cases h)) ?_
 rintro en w' ⟨rfl,rfl⟩;have g1:k<=grownCap w (0+k) 0 126:=by have:=grownCap_ge w (0+k) 0 126;omega
 refine ⟨_,rfl,((Below.refl _ _).drew).alloc (Am _) _,⟨rfl,.inr ⟨w.heap.size,grownCap w (0+k) 0 126,#[]++Builtin.zeroCells z.cells (0+k-0)++Builtin.zeroCells z.cells (grownCap w (0+k) 0 126-(0+k)),rfl,Ao _,?_,Ao _,grownCap_le_maxLen w (0+k) 0 126 (by unfold maxLen;omega),?_,VY⟩⟩,?_⟩
 show (w.drew.heap.push _)[w.heap.size]? =_;exact Array.getElem?_push_size ..;rw [Ap] at g1 ⊢;simp [Builtin.zeroCells,e4];omega;intro b h;cases h;exact ⟨Am _,by show w.heap.size<(w.drew.heap.push _).size;rw [Array.size_push];exact Bk _⟩
def cY:BZ:=λl=>match l with
 |[.x (.slice none 0 0),.x (.int .i64 k)]=>some ([0<=k/\k<=100000],126,4,0,λ_=>[])
 |_=>none
theorem Wx5:Sx.Enters Tryz.prog 218/\ ∀avs ns T sz n g,cY avs=some (ns,T,sz,n,g)->(∀q∈ns,q)->DV VU 218 avs T sz n g:=by
 refine ⟨(UM Tryz.func218),?_⟩;intro avs ns T sz n g h Z;unfold cY at h;split at h;rename_i k;cases h;obtain ⟨h1,h2⟩:0<=k/\k<=100000:=Z _ GN;intro e w args q1 q2 q3 q4;obtain ⟨u,us,rfl,r1,q5⟩:=q4.cons_inv;obtain ⟨u',us',rfl,r2,q6⟩:=q5.cons_inv;obtain rfl:=q6.nil_inv;cases r1;cases r2;obtain ⟨k',rfl⟩:=Int.eq_ofNat_of_zero_le h1;refine (tV k' VO w).mono ?_;rintro en w' ⟨v,rfl,g1,g2,g3⟩;exact ⟨v,[],rfl,g1,g2,g3,λi O=>VO,λi j a u O=>VO⟩;cases h
theorem Wx4:GH VU 218 (Wx1 cY):=E0 Wx5
theorem pE{S:Code->UN->Prop}{c:Code}{s0 s1:UN}(h0: ∀cj,VX c 0=some cj->S cj s0)(h1: ∀cj,VX c 1=some cj->S cj s1):
  ∀j cj,VX c j=some cj-> ∀sp,[s0,s1][j]? =some sp->S cj sp:=by
 intro j cj hj sp hsp
 match j with
 | 0=>simp at hsp;subst hsp;exact h0 cj hj
 | 1=>simp at hsp;subst hsp;exact h1 cj hj
 |j+2=>simp at hsp
def ctI(p:Nat)(a b:Cg)(k:Nat):Int:=if k<p then a k else b (k-p)
def CF:G4
 |[.lst 1 n F]=>match F 0,F 1 with
  |[.lst 4 p f],[.lst 4 q g]=>some ([n=2,UL 4 p f,UL 4 q g,p<=10000,q<=10000],.lst 4 (p+q) (λk=>[i (ctI p (col 0 f) (col 0 g) k),i (ctI p (col 1 f) (col 1 g) k),i (ctI p (col 2 f) (col 2 g) k),i (ctI p (col 3 f) (col 3 g) k)]))
  |_,_=>none
 |_=>none
theorem Wx3(p:Nat)(a b u v:Cg)(q:Nat)(a1 b1 u1 v1:Cg)(VW:p<=10000)(UG:q<=10000):U2 VU 183 [.lst 1 2 (UA 1 [rds p a b u v,rds q a1 b1 u1 v1])] (.lst 4 (p+q) (λk=>[i (ctI p a a1 k),i (ctI p b b1 k),i (ctI p u u1 k),i (ctI p v v1 k)])):=by
 refine G7 (X:={R:=[],H:=[(218,(Wx1 cY))] }) (L:=[(λs=>some (zT Tryz.prog [] [] (UD (VX (UB Tryz.f183) 0)) 3 s)),(λs=>some (zT Tryz.prog [] [] (UD (VX (UB Tryz.f183) 1)) 3 s))]) Aa (Ai Ab (Ag Wx4 Ac)) U3 Tryz.func183 (UW Tryz.f183) (pE (lpE (b:= .loop (UD (VX (UB Tryz.f183) 0))) VZ<|(LM Aa U3 U7 _).N) (lpE (b:= .loop (UD (VX (UB Tryz.f183) 1))) VZ<|(LM Aa U3 U7 _).N)) (t:=let z1:=(need [(0:Int)<=0+1+1/\(0:Int)+1+1<((2:Nat):Int)] VR.fail);let z2:=(GL 0 (λx=>[]) (rq4 a b u v));let z0:=(branch (decide ((0:Int)<((2:Nat):Int))) (need [UO 0 2] (need [(0+p)*32<=140737488355328,∀(i:Nat),i<p-> ∀(a_2:AV),a_2∈[Bo.i (a i),Bo.i (b i),Bo.i (u i),Bo.i (v i)]->AV.one a_2=true] (need [VQ ((0:Int)+1)] (branch (decide ((0:Int)+1<((2:Nat):Int))) (need [(0:Int)<=0+1/\(0:Int)+1<((2:Nat):Int)] (need [(0+p+q)*32<=140737488355328,∀(i:Nat),i<q-> ∀(a:AV),a∈[Bo.i (a1 i),Bo.i (b1 i),Bo.i (u1 i),Bo.i (v1 i)]->AV.one a=true] (need [VQ ((0:Int)+1+1)] (branch (decide ((0:Int)+1+1<((2:Nat):Int))) z1 (leaf (RV.lst 4 (0+p+q) (GL (0+p) z2 (rq4 a1 b1 u1 v1)))))))) (leaf (RV.lst 4 (0+p) z2)))))) (leaf (RV.lst 4 0 λx=>[])));(branch (decide ((0:Int)<((2:Nat):Int))) (need [UO 0 2] (need [VQ ((0:Int)+(p:Int))] (branch (decide ((0:Int)+(p:Int)<0)) VR.fail (need [VQ ((0:Int)+1)] (branch (decide ((0:Int)+1<((2:Nat):Int))) (need [(0:Int)<=0+1/\(0:Int)+1<((2:Nat):Int)] (need [VQ ((0:Int)+(p:Int)+(q:Int))] (branch (decide ((0:Int)+(p:Int)+(q:Int)<0)) VR.fail (need [VQ ((0:Int)+1+1)] (branch (decide ((0:Int)+1+1<((2:Nat):Int))) z1 (need [(0:Int)<=0+(p:Int)+(q:Int)/\(0:Int)+(p:Int)+(q:Int)<=100000] z0)))))) (need [(0:Int)<=0+(p:Int)/\(0:Int)+(p:Int)<=100000] z0)))))) (need [(0:Int)<=0/\(0:Int)<=100000] z0))) VZ ?_
 have hX: ∀(k:Nat),k<p+q->GL (0+p) (GL 0 (λ_=>[]) λk=>[i (a k),i (b k),i (u k),i (v k)]) (λk=>[i (a1 k),i (b1 k),i (u1 k),i (v1 k)]) k=[i (ctI p a a1 k),i (ctI p b b1 k),i (ctI p u u1 k),i (ctI p v v1 k)]/\ ∀x∈[i (ctI p a a1 k),i (ctI p b b1 k),i (ctI p u u1 k),i (ctI p v v1 k)],isX x:=by
  intro k hk;refine ⟨?_,λx hx=>?_⟩;show HJ (decide (k<0+p)) (GL 0 (λ_=>[]) (λk=>[i (a k),i (b k),i (u k),i (v k)]) k) [i (a1 (k-(0+p))),i (b1 (k-(0+p))),i (u1 (k-(0+p))),i (v1 (k-(0+p)))]=_
  rw [TA,Ap];unfold ctI;by_cases h:k<p;rw [decide_eq_true h];simp only [if_pos h];rfl;rw [decide_eq_false h];simp only [if_neg h];rfl;simp only [GT,DO,or_false] at hx;rcases hx with rfl|rfl|rfl|rfl<;>exact Ak
 have hA: ∀(a b u v:Cg) (n k:Nat),k<n-> ∀(x:AV),x∈[i (a k),i (b k),i (u k),i (v k)]->x.one=true:=by
  intro a b u v n k hk x hx;simp only [GT,DO,or_false] at hx;rcases hx with rfl|rfl|rfl|rfl<;>simp [AV.one,Value.oneCell']
 simp only [VR.sat,UF,G6,GQ,UH,true_and,H6,VQ]
 (repeat' first|exact hA _ _ _ _ _|exact hX|with_reducible apply Al|with_reducible intro _)
 all_goals omega
theorem Wx2:VT VU 183 CF:=by
 refine ⟨(UM Tryz.func183),?_⟩;intro avs ns res h Z;unfold CF at h;split at h;rename_i n F;split at h;rename_i p f q g h0 h1;cases h;obtain rfl:n=2:=Z _ VY;have r0:UL 4 p f:=Z (UL 4 p f) VY;have r1:UL 4 q g:=Z (UL 4 q g) VY;have hp:p<=10000:=Z (p<=10000) VY;have hq:q<=10000:=Z (q<=10000) VY;refine (Wx3 p (col 0 f) (col 1 f) (col 2 f) (col 3 f) q (col 0 g) (col 1 g) (col 2 g) (col 3 g) hp hq).same (.cons (.deep 1 2 F _ (λk hk=>?_) (λk j a b hk A hb=>?_)) .nil);rcases (show k=0\/k=1 by omega) with rfl|rfl
 rw [h0];rfl;rw [h1];rfl;rcases (show k=0\/k=1 by omega) with rfl|rfl
 rw [h0] at A;have hb:[rds p (col 0 f) (col 1 f) (col 2 f) (col 3 f)][j]? =some b:=hb;cases j with
 |zero=>
  cases A;cases hb;exact .lst 4 p f _ r0
 |succ j=>simp at A
 rw [h1] at A;have hb:[rds q (col 0 g) (col 1 g) (col 2 g) (col 3 g)][j]? =some b:=hb;cases j with
 |zero=>
  cases A;cases hb;exact .lst 4 q g _ r1
 |succ j=>simp at A
 cases h;cases h
def skF(x0:Int)(a:Cg)(k:Nat):Int:=if k<x0.toNat then a k else a (k+1)
def stS(s:HS)(x0:Int):HS:={s with nr:=s.nr-1,ra:=skF x0 s.ra,rb:=skF x0 s.rb,ru:=skF x0 s.ru,rv:=skF x0 s.rv}
def stE(s:HS)(x0:Int):Int:=if bt 0 x0 ((s.nr:Int)-1)=true then 0 else 7
theorem aE{x:Int}(h:0<=x)(a:Cg)(k:Nat):ctI (x.toNat-Int.toNat 0) (λi=>a (Int.toNat 0+i)) (λi=>a ((x+1).toNat+i)) k=skF x a k:=by
 unfold ctI skF;by_cases h':k<x.toNat;rw [if_pos (show k<x.toNat-Int.toNat 0 by simpa using h'),if_pos h']
 exact congrArg a VY;rw [if_neg (show ¬k<x.toNat-Int.toNat 0 by simpa using h'),if_neg h']
 exact congrArg a (by simp;omega)
noncomputable abbrev TX(s:HS):F4:=AT Tryz.prog [(183,CF),(29,RW)] {} [(102,RI)] [] Tryz.f142 (UB Tryz.f142)
theorem m9(s:HS):DE VU 142 (TX s):=
 FY (G:=[(183,CF),(29,RW)]) (X:=W5) (PX:=[(102,RI)]) (L:=[]) (Ae Wx2 (Ae BB Aa)) Ad (UY.cons RZ (UY.nil _)) U3 (UM Tryz.func142) Tryz.func142 (UW Tryz.f142) (λj cj _ sp hsp=>by simp at hsp)
theorem Qt7(V:Cf)(n:Nat)(str:ByteArray)(s:HS)(VW:uT str n (U9 (UT 1) V))(UG:s.nr<=12):x9 VU 73 [.ptr 0 0,.x (.string str)] (X9 s) 901 [[.ptr 0 0,.row 1,.row 2]] 159 (OS (stS s (U5 (V 0)))) (OX s) (rsE (fmE (U9 (UT 1) V) n 1 (stE s (U5 (V 0))))):=by
 refine LV (PX:=[(102,RI),(103,k8),(142,(TX s))]) (L:=[u9 (U9 (UT 1) V) n 1 142 s]) (Ae (LO VW) (Ae x7 Aa)) Ad (UY.cons RZ (UY.cons xF (UY.cons (m9 s) (UY.nil _)))) U3 (UM Tryz.func73) Tryz.func73 (UW Tryz.f73) (LS (lpE (b:= .loop OK) VZ<|dC (U9 (UT 1) V) n 1 142 s VW.2.2.2 (BJ VW))) (N:=[]) (t:=let z0:=(U5 (U9 (UT 1) V 1));let z1:=(U9 (UT 1) V (0:Int).toNat);let z2:=(need [[Q5]=[Q5],HH (hL s) QT,Q9 s,QA s] (leaf (false,(4:Int))));(need [OA str str {data:=#[32] }] (need [UO 0 n] (branch (wdO z1) (need [VQ (wdM (wdK z1)+1)] (branch (!(n:Int)==wdM (wdK z1)+1) z2 (need [(0:Int)<=1/\(1:Int)<=(n:Int)/\(n:Int)<=(n:Int)] (need [QO,U4 (lst 1 n λk=>[HP (U9 (UT 1) V k)]),ZT,WI,(lst 1 (n-(1:Int).toNat) λi=>[AV.x (.string (U9 (UT 1) V ((1:Int).toNat+i)))])=lst 1 (n-1) λj=>[HP (U9 (UT 1) V (1+j))],(↑(n-(1:Int).toNat):Int)=(↑(n-1):Int),(0:Int)=((0:Nat):Int),0=0,∀(i:Nat),i<0->[]=[iI (U5 (U9 (UT 1) V (1+i)))],wdM (wdK z1)=1,U4 (AV.fn (Fn.func 142) [] []),XI s,JQ s,JR s,XW s,XO s,XP s,KP s,∀(i:Nat),i<s.xn->s.xg i=s.xg i,KR s,∀(i:Nat),i<s.yn->s.yg i=s.yg i,QO,JX,JY] (branch (nuB (U9 (UT 1) V) n) (need [UO 0 (↑(n-1):Int)] (need [(0:Int).toNat<n-1] (need [VQ ((↑s.nr:Int)-1)] (branch (!bt (0:Int) z0 ((↑s.nr:Int)-1)) (need [[Q5]=[Q5],HH (hL s) QT,Q9 s,QA s] (leaf (false,(7:Int)))) (need [UO 0 (↑(n-1):Int)] (need [(0:Int).toNat<n-1] (need [(0:Int)<=0/\(0:Int)<=U5 (U9 (UT 1) V 1)/\U5 (U9 (UT 1) V 1)<=(↑s.nr:Int)] (need [UO 0 (↑(n-1):Int)] (need [(0:Int).toNat<n-1] (need [VQ (U5 (U9 (UT 1) V 1)+1)] (need [(0:Int)<=U5 (U9 (UT 1) V 1)+1/\U5 (U9 (UT 1) V 1)+1<=(↑s.nr:Int)/\(↑s.nr:Int)<=(↑s.nr:Int)] (need [2=2,UL 4 (Int.toNat z0-(0:Int).toNat) λi=>[Bo.i (s.ra ((0:Int).toNat+i)),Bo.i (s.rb ((0:Int).toNat+i)),Bo.i (s.ru ((0:Int).toNat+i)),Bo.i (s.rv ((0:Int).toNat+i))],UL 4 (s.nr-(U5 (U9 (UT 1) V 1)+1).toNat) λi=>[Bo.i (s.ra ((U5 (U9 (UT 1) V 1)+1).toNat+i)),Bo.i (s.rb ((U5 (U9 (UT 1) V 1)+1).toNat+i)),Bo.i (s.ru ((U5 (U9 (UT 1) V 1)+1).toNat+i)),Bo.i (s.rv ((U5 (U9 (UT 1) V 1)+1).toNat+i))],Int.toNat z0-(0:Int).toNat<=10000,s.nr-(U5 (U9 (UT 1) V 1)+1).toNat<=10000] (need [[Q5]=[Q5],HH [lst 4 (Int.toNat z0-(0:Int).toNat+(s.nr-(U5 (U9 (UT 1) V 1)+1).toNat)) λk=>[iI (ctI (Int.toNat z0-(0:Int).toNat) (λi=>s.ra ((0:Int).toNat+i)) (λi=>s.ra ((U5 (U9 (UT 1) V 1)+1).toNat+i)) k),iI (ctI (Int.toNat z0-(0:Int).toNat) (λi=>s.rb ((0:Int).toNat+i)) (λi=>s.rb ((U5 (U9 (UT 1) V 1)+1).toNat+i)) k),iI (ctI (Int.toNat z0-(0:Int).toNat) (λi=>s.ru ((0:Int).toNat+i)) (λi=>s.ru ((U5 (U9 (UT 1) V 1)+1).toNat+i)) k),iI (ctI (Int.toNat z0-(0:Int).toNat) (λi=>s.rv ((0:Int).toNat+i)) (λi=>s.rv ((U5 (U9 (UT 1) V 1)+1).toNat+i)) k)],iI s.pl,iI s.ph,hY s.nb s,hC s.nc s,hT s.ns s] (hL (stS s (U5 (V 0)))),((26:TypeId),1,s.xn,s.xg)=((26:TypeId),1,(stS s (U5 (V 0))).xn,(stS s (U5 (V 0))).xg),((9:TypeId),1,s.yn,s.yg)=((9:TypeId),1,(stS s (U5 (V 0))).yn,(stS s (U5 (V 0))).yg)] (leaf (true,(0:Int)))))))))))))))) (need [[Q5]=[Q5],HH QT QT,Q9 s,QA s] (leaf (false,(4:Int))))))))) z2)))) VZ ?_
 have hw:wdO (U9 (UT 1) V (Int.toNat 0))=true:=VZ;have hm:wdM (wdK (U9 (UT 1) V (Int.toNat 0)))=1:=VZ;have hn1:1<=n:=by have:=VW.2.1;omega
 have hnl:=BJ VW;simp only [VR.sat,UF,UK,hm,hw,true_imp_iff];refine ⟨⟨rfl,rfl⟩,⟨VO,VO⟩,⟨by simp only [VQ];omega,λh4=>?_,λh4=>?_⟩,λh=>by cases h⟩
 exact V9
 ·have hN:n=1+1:=by
   simp at h4;omega
  refine ⟨⟨VO,VO,VO⟩,?_,λh5=>?_,λh5=>?_⟩
  rotate_left 2
  exact VA
  ·all_goals exact vM
  have hk1:n-1=1:=VO;have hx0:U5 (U9 (UT 1) V 1)=U5 (V 0):=rfl;rw [hk1];simp only [hx0];refine ⟨VO,by decide,by simp only [VQ];omega,λh6=>⟨DU _ _ _ _ _ _,FF hN h5 ?_ (by decide)⟩,λh6=>?_⟩
  unfold stE;rw [bnt h6];rfl;have h7:=bnf h6;have h8:=(bt_iff _ _ _).1 h7;refine ⟨VO,by decide,VO,VO,by decide,by simp only [VQ];omega,VO,⟨Bo.isRec4 _ _ _ _ _,Bo.isRec4 _ _ _ _ _,VO,VO⟩,⟨⟨⟨rfl,?_,λk hk=>⟨?_,?_⟩⟩,jC _,jC _,BO s,BN s,PO s,trivial⟩,rfl,rfl⟩,gV hN h5 ?_⟩
  show _=s.nr-1;have e0:Int.toNat 0=0:=rfl;omega
  dsimp only
  rw [aE h8.1 s.ra k,aE h8.1 s.rb k,aE h8.1 s.ru k,aE h8.1 s.rv k];exact ⟨(PN _).2,(PN _).2,(PN _).2,(PN _).2,trivial⟩;intro x hx;simp only [GT,DO,or_false] at hx;rcases hx with rfl|rfl|rfl|rfl<;>exact .x _;unfold stE;rw [h7];rfl
def Qn4:G4
 |[]=>some ([],.mpr (λ_=>[.any1,.any1]) wdO)
 |_=>none
theorem Xe2:U2 VU 101 [] (.mpr (λ_=>[.any1,.any1]) wdO):=by
 intro e w args hro hgl FU hr;obtain rfl:=hr.nil_inv;refine (N9 w).mono ?_;rintro en w' ⟨rfl,rfl⟩;have hsz:(w.alloc (.map wdE.toArray 8)).heap.size=w.heap.size+1:=VY;refine ⟨_,rfl,(Below.refl _ _).alloc (Am _) _,?_⟩;refine .mpr _ wdO wdV w.heap.size wdE.toArray 8 (show w.heap.size<=w.heap.size/\w.heap.size<(w.alloc (.map wdE.toArray 8)).heap.size by omega) VO (λs a A=>?_) (World.alloc_heap_new w _) (λs hs=>by simpa using mW hs) (λs hs=>⟨by simpa using Qi9 hs,λa A=>?_⟩) (λs hs=>rfl) (λs k a v hs A I=>?_)
 simp only [GT,DO,or_false,or_self] at A;subst A;exact .any1;exact .inr (by simpa using A)
 match k,A,I with
 | 0,A,I=>
  simp only [wdV,List.getElem?_cons_zero,HL] at A I;subst A I;exact .any1 _ rfl
 | 1,A,I=>
  simp only [wdV,List.getElem?_cons_succ,List.getElem?_cons_zero,HL] at A I;subst A I;exact .any1 _ rfl
 |k+2,A,I=>simp at A
theorem Xe1:VT VU 101 Qn4:=by
 refine ⟨(UM Tryz.func101),?_⟩;intro avs ns res h Z;unfold Qn4 at h;split at h;cases h;exact Xe2;cases h
theorem Jo3(W:Cf)(n:Nat)(str:ByteArray)(s:HS)(VW:uT str n W)(UG:wdO (W 0)=false):x9 VU 73 [.ptr 0 0,.x (.string str)] (X9 s) 901 [[.ptr 0 0,.row 1,.row 2]] 159 (OS s) (OX s) (rsE 4):=by
 refine LV (PX:=[(102,RI),(103,k8)]) (L:=[u9 W n 0 0 s]) (Ae (LO VW) (Ae Xe1 Aa)) Ad (UY.cons RZ (UY.cons xF (UY.nil _))) U3 (UM Tryz.func73) Tryz.func73 (UW Tryz.f73) (LS (lpE (b:= .loop OK) VZ<|dC W n 0 0 s VW.2.2.2 (BJ VW))) (N:=[]) (t:=need [OA str str {data:=#[32] }] (need [UO 0 n] (branch (wdO (W (0:Int).toNat)) VR.fail (need [[Q5]=[Q5],HH (hL s) QT,Q9 s,QA s] (leaf (false,(4:Int))))))) VZ ?_
 have hn1:1<=n:=by have:=VW.2.1;omega
 have h0:wdO (W (Int.toNat 0))=false:=UG;simp only [VR.sat,UF,UK,h0];exact ⟨⟨rfl,rfl⟩,⟨VO,VO⟩,(λh=>by cases h),λ_=>⟨DU _ _ _ _ _ _,rfl⟩⟩
abbrev lns(n:Nat)(L:Cf):AV:= .lst 1 n (λk=>[.x (.string (L k))])
def lgB(L:Cf)(mx:Int)(j:Nat):Bool:= !decide (((L j).size:Int)<=mx)
section
variable (n:Nat)(L:Cf)
def shB(mx:Int):Bool:=DH (λj=>decide (((L j).size:Int)<=mx)) n
def ckE:Int:=if n<=50/\shB n L 200=true then 0 else 3
end
def nZ:G4
 |[.x (.int .i64 mx),.x (.string s)]=>some ([],bl (decide ((s.size:Int)<=mx)))
 |_=>none
theorem Qv3(s:ByteArray)(mx:Int):U2 VU 41 [i mx,.x (.string s)] (bl (decide ((s.size:Int)<=mx))):=by
 refine H0 Tryz.func41 (t:=leaf (RV.x (.bool (decide ((ByteArray.size s:Int)<=mx))))) VZ ?_;exact V2
theorem Qv2:VT VU 41 nZ:=by
 refine ⟨(UM Tryz.func41),?_⟩;intro avs ns res h Z;unfold nZ at h;split at h;cases h;exact Qv3 _ _;cases h
def o2:G4
 |[.x (.string s),.ro [.fn (.func 41) [.x (.int .i64 mx)] []]]=>some ([],bl (!decide ((s.size:Int)<=mx)))
 |_=>none
theorem Qw9(s:ByteArray)(mx:Int):U2 VU 68 [.x (.string s),.ro [.fn (.func 41) [i mx] []]] (bl (!decide ((s.size:Int)<=mx))):=by
 refine U6 (L:=[]) (Ae Qv2 Aa) U3 Tryz.func68 (UW Tryz.f68) U7 (t:=leaf (RV.x (.bool !decide ((ByteArray.size s:Int)<=mx)))) VZ ?_;exact V2
theorem SX:VT VU 68 o2:=by
 refine ⟨(UM Tryz.func68),?_⟩;intro avs ns res h Z;unfold o2 at h;split at h;cases h;exact Qw9 _ _;cases h
abbrev Q6(n:Nat)(L:Cf):AV:=lst 1 n λk=>[HP (L k)]
abbrev WO(mx:Int):AV:=AV.fn (Fn.func 68) [] [AV.ro [AV.fn (Fn.func 41) [iI mx] []]]
section
variable (n:Nat)(L:Cf)(mx:Int)
def fA:St:={σ:=[Q6 n L,WO mx]++HR 5 [iI (n:Int)]++HR 11 [],m:=[],nx:=4}
noncomputable def Qp7:Code:=UD (VX (UB Tryz.f97) 0)
def SJ(k:Nat):St:=(upM [(8,i k)] (fA n L mx))
def qN(k:Nat):G8->Option St
 | .ret=>some (upM [(4,i (H2 ((lgB L mx)) n))] (fA n L mx))
 | .exit 0=>some (upM [] (fA n L mx))
 |_=>none
def Ql0:CT:= .branch (decide (H2 ((lgB L mx)) n<n)) (.leaf (.ret,(qN n L mx 0 .ret).getD (fA n L mx))) (.leaf (.exit 0,(qN n L mx 0 (.exit 0)).getD (fA n L mx)))
def oJ:UN:=(HI (SJ n L mx (0)) (Ql0 n L mx))
theorem Wb3(VW:n<=100000):GD VU (.loop Qp7) (oJ n L mx):=by
 refine HO (L:=[]) (Ae SX Aa) U3 U7 (X:=Nat) (SJ n L mx) (λk=>k<=n/\ ∀j,j<k->(lgB L mx) j=false) (λk=>n-k) (qN n L mx) (x0:=0) ⟨VO,λj hj=>VO⟩ ?_ ?_ ?_;rintro k;kernel_rfl;rintro k y E h;unfold qN at h;split at h;cases h;kernel_rfl;cases h;kernel_rfl;cases h
 ·rintro Q hQ k hx;refine ⟨(k+1),?_⟩;(with_reducible refine DG (t:=branch (decide ((k:Int)<(n:Int))) (need [UO k n] (branch (!decide ((↑(ByteArray.size (L k)):Int)<=mx)) (need [U4 (Q6 n L),WO mx=WO mx,(k:Int)=(↑(H2 (lgB L mx) n):Int),U4 (n:Int)] (leaf G8.ret)) (need [VQ ((k:Int)+1)] (need [U4 (Q6 n L),WO mx=WO mx,U4 (n:Int),(k:Int)+1=(↑(k+1):Int)] (leaf G8.normal))))) (need [U4 (Q6 n L),WO mx=WO mx,U4 (n:Int)] (leaf (G8.exit 0)))) VZ ?_);simp only [Ql0,qN,VR.sat,GW,H6] at hQ;simp only [VR.sat,UF,UK,H6,VQ,qN,DR];have Xr6:k<n->((lgB L mx)) k=true->H2 ((lgB L mx)) n=k:=λh hb=>jJ h hb hx.2;have PR: ¬k<n->H2 ((lgB L mx)) n=n:=λh=>qO (λj hj=>hx.2 j VO);have hgo:((lgB L mx)) k=false-> ∀j,j<k+1->((lgB L mx)) j=false:=by
   intro hb j hj;rcases (show j<k\/j=k by omega) with h1|rfl
   exact hx.2 j h1;exact hb
  refine ⟨λh=>⟨VO,?_⟩,λh=>?_⟩
  rotate_left
  intro E hE;cases hE;exact hQ.2 (by rw [PR VO];omega)
  have hk:k<n:=VO;refine ⟨λhb=>?_,λhb=>?_⟩;exact VH;exact ⟨VO,VO,⟨VO,hgo hb⟩,VO⟩
theorem Xq6(VW:n<=100000):U2 VU 97 [lns n L,.fn (.func 68) [] [.ro [.fn (.func 41) [i mx] []]]] (i (if H2 ((lgB L mx)) n<n then (H2 ((lgB L mx)) n:Int) else -1)):=by
 refine U6 (L:=[oJ n L mx]) (Ae SX Aa) U3 Tryz.func97 (UW Tryz.f97) (G0 (lpE (b:= .loop Qp7) VZ<|Wb3 n L mx VW)) (t:=need [U4 (Q6 n L),WO mx=WO mx,U4 (n:Int),(0:Int)=((0:Nat):Int)] (branch (decide (H2 (lgB L mx) n<n)) (leaf (RV.x (.int .i64 (↑(H2 (lgB L mx) n):Int)))) (leaf (RV.x (KL))))) VZ ?_
 exact VD
def Zz8:G4:=λl=>some ([l=[lns n L,.fn (.func 68) [] [.ro [.fn (.func 41) [i mx] []]]]],i (if H2 (lgB L mx) n<n then (H2 (lgB L mx) n:Int) else -1))
theorem Wt7(VW:n<=100000):VT VU 97 (Zz8 n L mx):=by
 refine ⟨(UM Tryz.func97),?_⟩;intro avs ns res h Z;cases h;have e:=Z _ GN;subst e;exact Xq6 n L mx VW
theorem Xs3(VW:n<=100000):U2 VU 67 [lns n L,.fn (.func 68) [] [.ro [.fn (.func 41) [i mx] []]]] (bl (!shB n L mx)):=by
 refine U6 (L:=[]) (Ae (Wt7 n L mx VW) Aa) U3 Tryz.func67 (UW Tryz.f67) U7 (t:=need [U4 ([Q6 n L,WO mx])] (leaf (RV.x (.bool (decide ((if H2 (lgB L mx) n<n then (↑(H2 (lgB L mx) n):Int) else (-1:Int))>=(0:Int))))))) VZ ?_
 simp only [VR.sat,UF,G6,UH,UK];unfold shB;rw [yF];have:=FA (lgB L mx) n;have e:(λk=> !(λj=>decide (((L j).size:Int)<=mx)) k)=lgB L mx:=rfl;rw [e];show decide ((if H2 (lgB L mx) n<n then (H2 (lgB L mx) n:Int) else -1)>=0)=_
 split<;>simp<;>omega
def Ja0:G4:=λl=>some ([l=[lns n L,.fn (.func 68) [] [.ro [.fn (.func 41) [i mx] []]]]],bl (!shB n L mx))
theorem Ww5(VW:n<=100000):VT VU 67 (Ja0 n L mx):=by
 refine ⟨(UM Tryz.func67),?_⟩;intro avs ns res h Z;cases h;have e:=Z _ GN;subst e;exact Xs3 n L mx VW
theorem Ww9(VW:n<=100000):U2 VU 42 [lns n L,.fn (.func 41) [i mx] []] (bl (shB n L mx)):=by
 refine U6 (L:=[]) (Ae (Ww5 n L mx VW) Aa) U3 Tryz.func42 (UW Tryz.f42) U7 (t:=need [U4 ([Q6 n L,WO mx])] (leaf (RV.x (.bool !!shB n L mx)))) VZ ?_;simp only [VR.sat,UF,G6,UH,UK];show (!!shB n L mx)=_;simp
def Xx3:G4:=λl=>some ([l=[lns n L,.fn (.func 41) [i mx] []]],bl (shB n L mx))
theorem Qw8(VW:n<=100000):VT VU 42 (Xx3 n L mx):=by
 refine ⟨(UM Tryz.func42),?_⟩;intro avs ns res h Z;cases h;have e:=Z _ GN;subst e;exact Ww9 n L mx VW
end
section
variable (n:Nat)(L:Cf)
abbrev YM:List AV:=[Q6 n L,AV.fn (Fn.func 41) [iI 200] []]
theorem SU(VW:n<=100000):U2 VU 20 [lns n L] (i (ckE n L)):=by
 refine U6 (L:=[]) (Ae (Qw8 n L 200 VW) Aa) U3 Tryz.func20 (UW Tryz.f20) U7 (t:=branch (decide ((n:Int)>50)) (leaf (RV.x (KA))) (need [U4 (YM n L)] (branch (!shB n L (200:Int)) (leaf (RV.x (KA))) (leaf (RV.x (WV)))))) VZ ?_;simp only [VR.sat,UF,G6,UH,UK,H6];have hc: ∀b:Bool,shB n L 200=b->ckE n L=if n<=50/\b=true then 0 else 3:=λb h=>by unfold ckE;rw [h]
 cases hs:shB n L 200
 all_goals
  rw [hc _ hs];simp
  try omega
def Xh6:G4:=λl=>some ([l=[lns n L]],i (ckE n L))
theorem BC(VW:n<=100000):VT VU 20 (Xh6 n L):=by
 refine ⟨(UM Tryz.func20),?_⟩;intro avs ns res h Z;cases h;have e:=Z _ GN;subst e;exact SU n L VW
end
def Qc3:G4
 |[.lst 4 n f]=>some ([n<=100000,gdX 4 n f],.lst 4 n f)
 |_=>none
theorem V6{p:Prop}(h:p:=by
 simp only [VR.sat,UF,G6,true_and];refine ⟨λh=>⟨Ak,h⟩,⟨VO,λk hk x hm=>((UG k hk).2 x hm).2⟩,Ap n,?_⟩;exact λk hk=>⟨TA f k,λx hm=>((UG k hk).2 x hm).1⟩):p:=h
theorem Xs0(n:Nat)(f:Ci)(VW:n<=100000)(UG:gdX 4 n f):U2 VU 50 [.lst 4 n f] (.lst 4 n f):=by
 refine G7 (L:=[]) Aa Ad U3 Tryz.func50 (UW Tryz.f50) G9 (t:=VR.may (n=0) (leaf (RV.x (J6))) (need [(0+n)*32<=140737488355328,∀(i:Nat),i<n-> ∀(a:AV),a∈f i->AV.one a=true] (leaf (RV.lst 4 (0+n) (GL 0 (λx=>[]) λa=>f a))))) VZ ?_;exact V6
theorem Qi5:VT VU 50 Qc3:=by
 refine ⟨(UM Tryz.func50),?_⟩;intro avs ns res h Z;unfold Qc3 at h;split at h;cases h;exact Xs0 _ _ (Z _ VY) (Z _ VY);cases h
def Qc4:G4
 |[.lst 5 n f]=>some ([n<=100000,gdX 5 n f],.lst 5 n f)
 |_=>none
theorem Xs1(n:Nat)(f:Ci)(VW:n<=100000)(UG:gdX 5 n f):U2 VU 51 [.lst 5 n f] (.lst 5 n f):=by
 refine G7 (L:=[]) Aa Ad U3 Tryz.func51 (UW Tryz.f51) G9 (t:=VR.may (n=0) (leaf (RV.x (J6))) (need [(0+n)*40<=140737488355328,∀(i:Nat),i<n-> ∀(a:AV),a∈f i->AV.one a=true] (leaf (RV.lst 5 (0+n) (GL 0 (λx=>[]) λa=>f a))))) VZ ?_;exact V6
theorem Qi6:VT VU 51 Qc4:=by
 refine ⟨(UM Tryz.func51),?_⟩;intro avs ns res h Z;unfold Qc4 at h;split at h;cases h;exact Xs1 _ _ (Z _ VY) (Z _ VY);cases h
def Qc2:G4
 |[.lst 5 n f]=>some ([n<=100000,gdX 5 n f],.lst 5 n f)
 |_=>none
theorem Xr9(n:Nat)(f:Ci)(VW:n<=100000)(UG:gdX 5 n f):U2 VU 52 [.lst 5 n f] (.lst 5 n f):=by
 refine G7 (L:=[]) Aa Ad U3 Tryz.func52 (UW Tryz.f52) G9 (t:=VR.may (n=0) (leaf (RV.x (J6))) (need [(0+n)*40<=140737488355328,∀(i:Nat),i<n-> ∀(a:AV),a∈f i->AV.one a=true] (leaf (RV.lst 5 (0+n) (GL 0 (λx=>[]) λa=>f a))))) VZ ?_;exact V6
theorem Qi4:VT VU 52 Qc2:=by
 refine ⟨(UM Tryz.func52),?_⟩;intro avs ns res h Z;unfold Qc2 at h;split at h;cases h;exact Xr9 _ _ (Z _ VY) (Z _ VY);cases h
def Qc1:G4
 |[.lst 2 n f]=>some ([n<=100000,gdX 2 n f],.lst 2 n f)
 |_=>none
theorem Xr8(n:Nat)(f:Ci)(VW:n<=100000)(UG:gdX 2 n f):U2 VU 53 [.lst 2 n f] (.lst 2 n f):=by
 refine G7 (L:=[]) Aa Ad U3 Tryz.func53 (UW Tryz.f53) G9 (t:=VR.may (n=0) (leaf (RV.x (J6))) (need [(0+n)*16<=140737488355328,∀(i:Nat),i<n-> ∀(a:AV),a∈f i->AV.one a=true] (leaf (RV.lst 2 (0+n) (GL 0 (λx=>[]) λa=>f a))))) VZ ?_;exact V6
theorem Qi3:VT VU 53 Qc1:=by
 refine ⟨(UM Tryz.func53),?_⟩;intro avs ns res h Z;unfold Qc1 at h;split at h;cases h;exact Xr8 _ _ (Z _ VY) (Z _ VY);cases h
open Go Go.Sx Go.RowKit
def FD(W:Cf)(s:HS):HS:=match wdK (W 0) with
 | 0=>thS s (U5 (W 1)) (U5 (W 2)) (U5 (W 3)) (U5 (W 4))
 | 1=>stS s (U5 (W 1))
 | 2=>baS s (U5 (W 1)) (U5 (W 2))
 | 3=>btS s (U5 (W 1)) (U5 (W 2))
 | 4=>seS s (U5 (W 1)) (U5 (W 2))
 | 5=>isS s (U5 (W 1)) (U5 (W 2)) (U5 (W 3)) (U5 (W 4))
 | 6=>voS s (U5 (W 1))
 | 7=>slS s (U5 (W 1)) (U5 (W 2)) (U5 (W 3)) (U5 (W 4)) (U5 (W 5))
 |_=>s
def P4(W:Cf)(n:Nat)(s:HS):Int:=match wdK (W 0) with
 | 0=>fmE W n 4 (thE s (U5 (W 1)) (U5 (W 2)) (U5 (W 3)) (U5 (W 4)))
 | 1=>fmE W n 1 (stE s (U5 (W 1)))
 | 2=>fmE W n 2 (baE s (U5 (W 1)) (U5 (W 2)))
 | 3=>fmE W n 2 (btE s (U5 (W 1)) (U5 (W 2)))
 | 4=>fmE W n 2 (seE s (U5 (W 1)) (U5 (W 2)))
 | 5=>fmE W n 4 (isE s (U5 (W 1)) (U5 (W 2)) (U5 (W 3)) (U5 (W 4)))
 | 6=>fmE W n 1 (voE s (U5 (W 1)))
 | 7=>fmE W n 5 (slE s (U5 (W 1)) (U5 (W 2)) (U5 (W 3)) (U5 (W 4)) (U5 (W 5)))
 |_=>4
structure rT (s:HS):Prop where
 nr:s.nr<=12
 bV:bV s.nb s.ql s.qh s.qm s.qr s.qv
 nc:s.nc<=10
 sV:sV s.ns s.sa s.sb s.sc s.sl s.sh
abbrev hsM(s:HS):HA:=[(0,.cells 71 (hsL s)),(1,.row 26 1 s.xn s.xg),(2,.row 9 1 s.yn s.yg)]
theorem Qt8{str:ByteArray}{n:Nat}{W:Cf}{s:HS}(h:uT str n W)(hs:rT s):
  x9 VU 73 [.ptr 0 0,.x (.string str)] (hsM s) 901 [[.ptr 0 0,.row 1,.row 2]] 159 (OS (FD W s)) (OX s) (rsE (P4 W n s)):=by
 rcases CK (W 0) with ⟨h1,h2⟩|⟨h1,_⟩
 ·have hV: ∀q,wdL[q]? =some (W 0)->U9 (UT q) (λk=>W (k+1))=W:=by
   intro q hq;funext k;cases k with
   |zero=>
    show UT q=W 0;unfold UT;rw [List.getD_eq_getElem?_getD,hq];rfl
   |succ k=>rfl
  unfold FD P4;rcases (show wdK (W 0)=0\/wdK (W 0)=1\/wdK (W 0)=2\/wdK (W 0)=3\/wdK (W 0)=4\/wdK (W 0)=5\/wdK (W 0)=6\/wdK (W 0)=7 by omega) with h3|h3|h3|h3|h3|h3|h3|h3
  all_goals
   rw [h3] at h2 ⊢;have e:=hV _ h2;have h':=h;rw [←e] at h'
  have k:=Qt6 (λk=>W (k+1)) n str s h' hs.nr;rw [e] at k;exact k;have k:=Qt7 (λk=>W (k+1)) n str s h' hs.nr;rw [e] at k;exact k;have k:=Xp4 (λk=>W (k+1)) n str s h';rw [e] at k;exact k;have k:=Xp3 (λk=>W (k+1)) n str s h' hs.bV.1.1;rw [e] at k;exact k;have k:=Zt7 (λk=>W (k+1)) n str s h' hs.bV;rw [e] at k;exact k;have k:=Wn5 (λk=>W (k+1)) n str s h' hs.nc;rw [e] at k;exact k;have k:=Xp1 (λk=>W (k+1)) n str s h' hs.nc;rw [e] at k;exact k;have k:=Xp2 (λk=>W (k+1)) n str s h' hs.sV;rw [e] at k;exact k
 have h0:wdO (W 0)=false:=by
  unfold wdO;rw [h1];rfl
 have k:=Jo3 W n str s h h0;unfold P4;rw [h1];show x9 _ _ _ _ _ _ _ (OS (FD W s)) _ _;have e:FD W s=s:=by
  unfold FD;rw [h1];rfl
 rw [e];exact k
theorem fm0{W:Cf}{n many:Nat}{e:Int}(h:fmE W n many e=0):e=0:=by
 unfold fmE at h;split at h;exact h;exact absurd h (by decide)
theorem Xm7{W:Cf}{n:Nat}{s:HS}(hs:rT s)(h0:P4 W n s=0):rT (FD W s):=by
 unfold P4 at h0;unfold FD;split at h0;have h:=fm0 h0;unfold thE at h;split at h;split at h;exact ⟨by show s.nr+1<=12;omega,hs.bV,hs.nc,hs.sV⟩
 exact absurd h (by decide)
 exact absurd h (by decide)
 exact ⟨by show s.nr-1<=12;have:=hs.nr;omega,hs.bV,hs.nc,hs.sV⟩
 exact ⟨hs.nr,hs.bV,hs.nc,hs.sV⟩;have h:=fm0 h0;unfold btE at h;split at h;rename_i hb;split at h;rename_i h6;have hx:=(bt_iff _ _ _).1 hb.1;refine ⟨hs.nr,⟨⟨by show s.nb+1<=6;omega,λb hb'=>?_⟩,λb hb' j k hjk hk=>?_⟩,hs.nc,hs.sV⟩
 have hb':b<s.nb+1:=hb';show (if b<s.nb then s.qm b else 0)<=10/\0<=HN s.nb s.ql _ b/\HN s.nb s.ql _ b<=HN s.nb s.qh _ b/\HN s.nb s.qh _ b<=1000/\ ∀j,j<(if b<s.nb then s.qm b else 0)->0<=s.qr b j/\s.qr b j<=2/\ -1000<=s.qv b j/\s.qv b j<=2000
 unfold HN;by_cases e:b<s.nb;simp only [if_pos e];exact hs.bV.1.2 b e;simp only [if_neg e];exact ⟨VO,hx.1,hx.2,hb.2,λj hj=>VO⟩;have hk:k<(if b<s.nb then s.qm b else 0):=hk
 by_cases e:b<s.nb;rw [if_pos e] at hk;exact hs.bV.2 b e j k hjk hk;rw [if_neg e] at hk;omega;exact absurd h (by decide)
 exact absurd h (by decide)
 have h:=fm0 h0;unfold seE at h;split at h;rename_i g1;split at h;rename_i g2;split at h;rename_i g3;split at h;rename_i g4;exact ⟨hs.nr,Jl3 hs.bV g1 g2 g3 g4,hs.nc,hs.sV⟩;exact absurd h (by decide)
 exact absurd h (by decide)
 exact absurd h (by decide)
 exact absurd h (by decide)
 have h:=fm0 h0;unfold isE at h;split at h;split at h;exact ⟨hs.nr,hs.bV,by show s.nc+1<=10;omega,hs.sV⟩
 exact absurd h (by decide)
 exact absurd h (by decide)
 exact ⟨hs.nr,hs.bV,hs.nc,hs.sV⟩;have h:=fm0 h0;unfold slE at h;split at h;rename_i g1;split at h;rename_i g2;exact ⟨hs.nr,hs.bV,hs.nc,slV g1 (by simp;omega) hs.sV⟩
 exact absurd h (by decide)
 exact absurd h (by decide)
 exact absurd h0 (by decide)
def P1(e:UP)(q r t:Nat)(x:Nat):Option Nat:=if x=e.blk q then some q else if (e.val r).ownBlock=some x then some r else if (e.val t).ownBlock=some x then some t else none
theorem Qh9(s:HS): ∀a∈hsL s,Idf a:=by
 intro a A;simp only [GT,DO,or_false] at A;rcases A with rfl|rfl|rfl|rfl|rfl|rfl;exact .lst _ _ _ λk _ x hx=>by
  simp only [GT,DO,or_false] at hx;rcases hx with rfl|rfl|rfl|rfl<;>exact .x _
 exact .x _;exact .x _;exact Qi0 _ _ _ _ _ _;exact VN;exact VN
theorem Zt9{str:ByteArray}{s s':HS}{er:Int}(hE:x9 VU 73 [.ptr 0 0,.x (.string str)] (hsM s) 901 [[.ptr 0 0,.row 1,.row 2]] 159 (OS s') (OX s) (rsE er))(hx:s'.xn=s.xn/\s'.xg=s.xg/\s'.yn=s.yn/\s'.yg=s.yg)
  {e:UP}{w0 w:World}{T:Nat->Prop}{q r t:Nat}(hEv:GB e w0.heap.size w)(hB:Below w0.heap.size w0 w)(hT: ∀b,T b->b<w0.heap.size/\ ¬e.ro b)
  (hq:GM e w q (.cells 71 (hsL s)))(hr:GM e w r (.row 26 1 s.xn s.xg))(ht:GM e w t (.row 9 1 s.yn s.yg))(hqr:q≠r)(hqt:q≠t)(hrt:r≠t)(hrv: ∃a b c,e.val r= .slice a b c)(htv: ∃a b c,e.val t= .slice a b c):
  Calls Tryz.prog 73 #[.pointer (some ⟨e.blk q,0,none⟩),.string str] w λen w1=>en=Xt6 159 (rsE er)/\Below w0.heap.size w0 w1/\w.heap.size<=w1.heap.size/\
   (∀x,(e.ro x\/(w0.heap.size<=x/\x<w.heap.size/\e.own x≠some q/\e.own x≠some r/\e.own x≠some t))->w1.heap[x]? =w.heap[x]?)/\
   ∃ro1:Nat->Prop,(∀x,e.ro x->ro1 x)/\(∀x,T x-> ¬ro1 x)/\GB {e with ro:=ro1,own:=P1 e q r t} w0.heap.size w1/\
    GM {e with ro:=ro1,own:=P1 e q r t} w1 q (.cells 71 (cond (rsE er).1 (hsL s') [.top,.top,.top,.top,.top,.top]))/\
    GM {e with ro:=ro1,own:=P1 e q r t} w1 r (.row 26 1 s.xn s.xg)/\GM {e with ro:=ro1,own:=P1 e q r t} w1 t (.row 9 1 s.yn s.yg):=by
 let e0:UP:={ro:=λx=>e.ro x\/(w0.heap.size<=x/\x<w.heap.size/\e.own x≠some q/\e.own x≠some r/\e.own x≠some t),own:=λx=>if e.own x=some q then some 0 else if e.own x=some r then some 1 else if e.own x=some t then some 2 else none,live:=λk=>k<901,blk:=λ_=>e.blk q,val:=λk=>if k=1 then e.val r else e.val t}
 obtain ⟨ql,qo,vs,qh,qv⟩:=hq;obtain ⟨rl,ro,rf,rxs,rh,rv⟩:=hr;obtain ⟨tl,to,tf,txs,th,tv⟩:=ht;have oq: ∀{x},e.own x=some q->e0.own x=some 0:=λh=>if_pos h;have or_: ∀{x},e.own x=some r->e0.own x=some 1:=λh=>by simp [e0,h,hqr.symm]
 have ot: ∀{x},e.own x=some t->e0.own x=some 2:=λh=>by simp [e0,h,hqt.symm,hrt.symm]
 have hE0:GB e0 w0.heap.size w:=by
  refine ⟨λx hx=>?_,λx k hk=>?_,λg p hp=>⟨.inl (hEv.glob g p hp).1,(hEv.glob g p hp).2⟩⟩;rcases hx with hx|⟨_,h2,h3,h4,h5⟩;obtain ⟨h1,h2⟩:=hEv.apart x hx;exact ⟨by simp [e0,h1],h2⟩
  exact ⟨by simp [e0,h3,h4,h5],h2⟩
  have hk:(if e.own x=some q then some 0 else if e.own x=some r then some 1 else if e.own x=some t then some 2 else none)=some k:=hk
  split at hk;rename_i h;exact hEv.owned x _ h;split at hk;rename_i h;exact hEv.owned x _ h;split at hk;rename_i h;exact hEv.owned x _ h;cases hk
 have sub0: ∀b,e.ro b->e0.ro b:=λb h=> .inl h;have idfL:=Qh9 s;have hM:G5 e0 (hsM s) w:=by
  intro p hp;simp only [GT,DO,or_false] at hp;rcases hp with rfl|rfl|rfl;exact ⟨show 0<901 by omega,oq qo,vs,qh,⟨qv.1,λi a v A I=>Rep.idf sub0 (qv.2 i a v A I) (idfL a (F9 A))⟩⟩
  exact ⟨show 1<901 by omega,λb hb=>or_ (ro b hb),rf,rxs,rh,λi j a v O A I=>Rep.idf sub0 (rv i j a v O A I) ((rf i O).2 a (F9 A))⟩
  exact ⟨show 2<901 by omega,λb hb=>ot (to b hb),tf,txs,th,λi j a v O A I=>Rep.idf sub0 (tv i j a v O A I) ((tf i O).2 a (F9 A))⟩
 let c0:Cx:={M:=λ_=>False,Φ:=λ_ _ _=>True,K:=λx o=>e0.ro x/\w.heap[x]? =some o,saved:=[[.pointer (some ⟨e.blk q,0,none⟩),e.val r,e.val t]],sz:=w.heap.size}
 have hS:U8 e0 w [.ptr 0 0,.row 1,.row 2] [.pointer (some ⟨e.blk q,0,none⟩),e.val r,e.val t]:=by
  obtain ⟨a1,b1,d1,h1⟩:=hrv;obtain ⟨a2,b2,d2,h2⟩:=htv;refine .cons (.ptr 0 0 (show 0<901 by omega)) (.cons ?_ (.cons ?_ (.nil _ _)))
  rw [h1];exact .row 1 _ _ _ (show 1<901 by omega) h1
  rw [h2];exact .row 2 _ _ _ (show 2<901 by omega) h2
 have hX:Xt c0 e0 [[.ptr 0 0,.row 1,.row 2]] [] w:=
  ⟨⟨λd hd=>(by cases hd),By⟩,λx o hk=>⟨hk.1,(hE0.apart x hk.1).2,hk.2⟩,LK.cons hS ⟨rfl,λi a v h=>by simp at h⟩,Am _⟩
 have hT0: ∀b,T b->b<w0.heap.size/\ ¬e0.ro b:=λb hb=>⟨(hT b hb).1,λh=>by
  rcases h with h|⟨h,_⟩;exact (hT b hb).2 h;have:=(hT b hb).1;omega⟩
 have hA:U8 e0 w [.ptr 0 0,.x (.string str)] [.pointer (some ⟨e.blk q,0,none⟩),.string str]:= .cons (.ptr 0 0 (show 0<901 by omega)) (.cons (.x _) (.nil _ _))
 refine (hE c0 w0 T e0 [] _ w hE0 hB hM (λk hk=>hk) hT0 hX hA).mono ?_;rintro en w1 ⟨hen,e1,g1,g2,g3,g4,g5,g6⟩;have ST: ∀x,e0.ro x->e1.ro x/\w1.heap[x]? =w.heap[x]? :=by
  intro x hx;have hlt:=(hE0.apart x hx).2;have hk:=g6.kept x w.heap[x] ⟨hx,by simp [hlt]⟩
  exact ⟨hk.1,by rw [hk.2.2];simp [hlt]⟩
 have hsv:(cond (rsE er).1 (OS s') (OX s)).sv=[[.ptr 0 0,.row 1,.row 2]]:=by
  cases (rsE er).1<;>rfl
 have hsd:=g6.saved;rw [hsv] at hsd;have hs1:=hsd.2 0 _ _ rfl rfl;obtain ⟨v0,l0,q0,r0,hs1⟩:=hs1.cons_inv;obtain ⟨rfl,rfl⟩:=List.cons.inj q0;obtain ⟨v1,l1,q1,r1,hs1⟩:=hs1.cons_inv;obtain ⟨rfl,rfl⟩:=List.cons.inj q1;obtain ⟨v2,l2,q2,r2,_⟩:=hs1.cons_inv;obtain ⟨rfl,rfl⟩:=List.cons.inj q2;have b0:e1.blk 0=e.blk q:=by
  generalize I:Value.pointer (some ⟨e.blk q,0,none⟩)=v at r0;cases r0;injection I with I
  injection I with I
  injection I with I _
  exact I.symm
 have u1:e1.val 1=e.val r:=by
  generalize I:e.val r=v at r1;cases r1;assumption
 have u2:e1.val 2=e.val t:=by
  generalize I:e.val t=v at r2;cases r2;assumption
 have m0:GM e1 w1 0 (.cells 71 (cond (rsE er).1 (hsL s') [.top,.top,.top,.top,.top,.top])):=by
  cases hb:(rsE er).1;rw [hb] at g3;exact g3 (0,.cells 71 [.top,.top,.top,.top,.top,.top]) (by simp [OX])
  rw [hb] at g3;exact g3 (0,.cells 71 (hsL s')) (by simp [OS])
 have m1:GM e1 w1 1 (.row 26 1 s.xn s.xg):=by
  cases hb:(rsE er).1;rw [hb] at g3;exact g3 (1,.row 26 1 s.xn s.xg) (by simp [OX])
  rw [hb] at g3;have:=g3 (1,.row 26 1 s'.xn s'.xg) (by simp [OS]);rw [hx.1,hx.2.1] at this;exact this
 have m2:GM e1 w1 2 (.row 9 1 s.yn s.yg):=by
  cases hb:(rsE er).1;rw [hb] at g3;exact g3 (2,.row 9 1 s.yn s.yg) (by simp [OX])
  rw [hb] at g3;have:=g3 (2,.row 9 1 s'.yn s'.yg) (by simp [OS]);rw [hx.2.2.1,hx.2.2.2] at this;exact this
 have hsz:w.heap.size<=w1.heap.size:=g6.size;obtain ⟨_,n0,vs1,k0,k1⟩:=m0;obtain ⟨_,n1,f1,xs1,p1,p2⟩:=m1;obtain ⟨_,n2,f2,xs2,y1,y2⟩:=m2;rw [b0] at n0 k0;rw [u1] at n1 p1;rw [u2] at n2 y1;have idfC: ∀a∈(cond (rsE er).1 (hsL s') [.top,.top,.top,.top,.top,.top]),Idf a:=by
  cases (rsE er).1;intro a A;simp only [cond_false,GT,DO,or_false,or_self] at A;subst A;exact .top;exact Qh9 s'
 have oq1:P1 e q r t (e.blk q)=some q:=if_pos rfl;have or1: ∀b,(e.val r).ownBlock=some b->P1 e q r t b=some r:=by
  intro b hb;have:b≠e.blk q:=by
   rintro rfl;have:=n1 _ hb;rw [n0] at this;cases this
  unfold P1;rw [if_neg this,if_pos hb]
 have ot1: ∀b,(e.val t).ownBlock=some b->P1 e q r t b=some t:=by
  intro b hb;have h1:b≠e.blk q:=by
   rintro rfl;have:=n2 _ hb;rw [n0] at this;cases this
  have h2:(e.val r).ownBlock≠some b:=by
   intro h;have h3:=n1 _ h;rw [n2 _ hb] at h3;cases h3
  unfold P1;rw [if_neg h1,if_neg h2,if_pos hb]
 have cv: ∀{a:AV} {v:Value},Rep e1 w1 a v->Idf a->Rep {e with ro:=e1.ro,own:=P1 e q r t} w1 a v:=λh k=>Rep.idf (e:=e1) (e':={e with ro:=e1.ro,own:=P1 e q r t}) (λ_ h=>h) h k
 refine ⟨hen,g2,hsz,λx hx=>(ST x hx).2,e1.ro,λx hx=>(ST x (sub0 x hx)).1,λx hx=>(g5 x hx).2,⟨λx hx=>⟨?_,(g1.apart x hx).2⟩,λx k hk=>?_,λg p hp=>g1.glob g p hp⟩,⟨ql,oq1,vs1,k0,⟨k1.1,λi a v A I=>cv (k1.2 i a v A I) (idfC a (F9 A))⟩⟩,⟨rl,or1,f1,xs1,p1,λi j a v O A I=>cv (p2 i j a v O A I) ((f1 i O).2 a (F9 A))⟩,⟨tl,ot1,f2,xs2,y1,λi j a v O A I=>cv (y2 i j a v O A I) ((f2 i O).2 a (F9 A))⟩⟩;have h0:=(g1.apart x hx).1;have c1:x≠e.blk q:=by
  rintro rfl;rw [n0] at h0;cases h0
 have c2:(e.val r).ownBlock≠some x:=λh=>by
  rw [n1 _ h] at h0;cases h0
 have c3:(e.val t).ownBlock≠some x:=λh=>by
  rw [n2 _ h] at h0;cases h0
 show P1 e q r t x=none;unfold P1;rw [if_neg c1,if_neg c2,if_neg c3];have up: ∀{x j},e.own x=some j->w0.heap.size<=x/\x<w1.heap.size:=λh=>⟨(hEv.owned _ _ h).1,PJ (hEv.owned _ _ h).2 hsz⟩;have hk:P1 e q r t x=some k:=hk;unfold P1 at hk;split at hk;rename_i h;rw [h];exact up qo;split at hk;rename_i h;exact up (ro _ h);split at hk;rename_i h;exact up (to _ h);cases hk
open Go Go.RowKit
section
variable (w:World)
theorem N6(o:Obj)(y:Nat)(hy:y<w.heap.size):(w.alloc o).drew.heap[y]? =w.heap[y]? :=Go.RowKit.Below.heap_alloc w o y hy
theorem Qs8(o:Obj):(w.alloc o).output=w.output:=rfl
theorem Wk9:w.drew.output=w.output:=rfl
theorem Xo6(a:Addr)(v:Value):(w.setCell a v).output=w.output:=rfl
theorem Zx3:(binOp .eql 20 .nilIface .nilIface).run Tryz.prog w= .ok (.bool true) w:=run_eql_nil_nil w 20 (by kernel_rfl)
end
theorem Xt4(k:Int)(w:World):(binOp .eql 20 (.iface 159 (.agg #[.int .i64 k])) .nilIface).run Tryz.prog w= .ok (.bool false) w:=run_eql_held_nil w 20 159 _ (by kernel_rfl)
theorem Qb5(v:Value)(w:World):(Instr.typeAssert (.iface 159 v) 20 159 true).run Tryz.prog w= .ok (.tuple #[v,.bool true]) w:=by kernel_rfl
set_option maxHeartbeats 2000000 in
theorem Qt1(p5 p2 W:Addr)(w:World):
  CallsD Tryz.prog 72 #[.pointer (some p5),.pointer (some p2),.pointer (some W)] .returning w λe u' w'=>e= .returned (.tuple #[])/\u'= .returning/\w'=w:=by
 refine callsD_of_wpS Tryz.func72 rfl λc₀ cs hu=>?_;apply wpS_seq;apply wpS_region;simp [wpOpsS,go_sem,recoverD,hu,Tryz.ntmps72,Exit.thenS];rw [show (#[.pointer (some p5),.pointer (some p2),.pointer (some W)]++(Array.replicate 15 undef).setIfInBounds 3 (.nilIface):Array Value)=#[.pointer (some p5),.pointer (some p2),.pointer (some W),undef,undef,undef,.nilIface,undef,undef,undef,undef,undef,undef,undef,undef,undef,undef,undef] from rfl];refine wpS_of_wp ?_;have q1:=Zx3
 go_wp2
 all_goals (cases c₀;simp_all [bodyPostS,results,Tryz.results72])
set_option maxHeartbeats 2000000 in
theorem sO(b p2 W p5:Nat)(k x:Int)(S a3 a4 a5:Option Addr)(I A l3 Z l4 q4 l5 q5:Nat)(i1 i2:Int)(c0 c1 c2 c3 c4 c5:Value)(older:List PanicEntry)(w:World)(h2:w.heap[p2]? =some (.cells #[.pointer (some ⟨b,0,none⟩)] 66 (0,0)))(h5:w.heap[p5]? =some (.cells #[.slice S I A,.int .i64 i1,.int .i64 i2,.slice a3 l3 Z,.slice a4 l4 q4,.slice a5 l5 q5] 44 (0,0)))(h4:w.heap[W]? =some (.cells #[.int .i64 x] 26 (0,0)))(hb:w.heap[b]? =some (.cells #[c0,c1,c2,c3,c4,c5] 71 (0,0)))(h4b:W≠b):
  CallsD Tryz.prog 72 #[.pointer (some ⟨p5,0,none⟩),.pointer (some ⟨p2,0,none⟩),.pointer (some ⟨W,0,none⟩)] (.panicking ({v:= .iface 159 (.agg #[.int .i64 k]),recovered:=false}::older)) w λe u' w'=>e= .returned (.tuple #[])/\u'= .panicking ({v:= .iface 159 (.agg #[.int .i64 k]),recovered:=true}::older)/\w.heap.size<=w'.heap.size/\w'.heap[b]? =some (.cells #[.slice S I A,.int .i64 i1,.int .i64 i2,.slice a3 l3 Z,.slice a4 l4 q4,.slice a5 l5 q5] 71 (0,0))/\w'.heap[W]? =some (.cells #[.int .i64 k] 26 (0,0))/\(w'.os=w.os/\w'.tape=w.tape/\w'.output=w.output)/\ ∀y,y<w.heap.size->y≠b->y≠W->w'.heap[y]? =w.heap[y]? :=by
 refine callsD_of_wpS Tryz.func72 rfl λc₀ cs hu=>?_;apply wpS_seq;apply wpS_region;simp [wpOpsS,go_sem,recoverD,hu,Tryz.ntmps72,Exit.thenS];rw [show (#[.pointer (some ⟨p5,0,none⟩),.pointer (some ⟨p2,0,none⟩),.pointer (some ⟨W,0,none⟩)]++(Array.replicate 15 undef).setIfInBounds 3 (.iface 159 (.agg #[.int .i64 k])):Array Value)=#[.pointer (some ⟨p5,0,none⟩),.pointer (some ⟨p2,0,none⟩),.pointer (some ⟨W,0,none⟩),undef,undef,undef,.iface 159 (.agg #[.int .i64 k]),undef,undef,undef,undef,undef,undef,undef,undef,undef,undef,undef] from rfl];refine wpS_of_wp ?_;have q1:=Xt4 k;have q2:=Qb5;have lt: ∀{y o},w.heap[y]? =some o->y<w.heap.size:=λh=>(Array.getElem?_eq_some_iff.1 h).1;have hW: ∀y,y<w.heap.size->(w.alloc (Obj.cells #[Value.int IntKind.i64 k] 159)).drew.heap[y]? =w.heap[y]? :=λy hy=>N6 w _ y hy;have hN:(w.alloc (Obj.cells #[Value.int IntKind.i64 k] 159)).drew.heap[w.heap.size]? =some (.cells #[.int .i64 k] 159 (0,0)):=World.alloc_heap_new w _;have k2:=(hW _ (lt h2)).trans h2;have k4:=(hW _ (lt h4)).trans h4;have k5:=(hW _ (lt h5)).trans h5;have kb:=(hW _ (lt hb)).trans hb;have nb: ¬w.heap.size=b:=λh=>by have:=lt hb;omega
 have nb': ¬b=w.heap.size:=λh=>by have:=lt hb;omega
 have n4: ¬w.heap.size=W:=λh=>by have:=lt h4;omega
 have nbp: ¬b=W:=λh=>h4b h.symm;have cN:(w.alloc (Obj.cells #[Value.int IntKind.i64 k] 159)).drew.cell? ⟨w.heap.size,0,none⟩=some (.int .i64 k):=by simp only [World.cell?,hN];rfl
 have c_p2_0:w.cell? ⟨p2,0,none⟩=some (.pointer (some ⟨b,0,none⟩)):=by simp only [World.cell?,h2];rfl
 have c_p4_0:w.cell? ⟨W,0,none⟩=some (.int .i64 x):=by simp only [World.cell?,h4];rfl
 have f_p4_0:w.frozen? ⟨W,0,none⟩=false:=by simp only [World.frozen?,h4];rfl
 have c_p5_0:w.cell? ⟨p5,0,none⟩=some (.slice S I A):=by simp only [World.cell?,h5];rfl
 have c_p5_1:w.cell? ⟨p5,1,none⟩=some (.int .i64 i1):=by simp only [World.cell?,h5];rfl
 have c_p5_2:w.cell? ⟨p5,2,none⟩=some (.int .i64 i2):=by simp only [World.cell?,h5];rfl
 have c_p5_3:w.cell? ⟨p5,3,none⟩=some (.slice a3 l3 Z):=by simp only [World.cell?,h5];rfl
 have c_p5_4:w.cell? ⟨p5,4,none⟩=some (.slice a4 l4 q4):=by simp only [World.cell?,h5];rfl
 have c_p5_5:w.cell? ⟨p5,5,none⟩=some (.slice a5 l5 q5):=by simp only [World.cell?,h5];rfl
 have c_b_0:w.cell? ⟨b,0,none⟩=some (c0):=by simp only [World.cell?,hb];rfl
 have f_b_0:w.frozen? ⟨b,0,none⟩=false:=by simp only [World.frozen?,hb];rfl
 have c_b_1:w.cell? ⟨b,1,none⟩=some (c1):=by simp only [World.cell?,hb];rfl
 have f_b_1:w.frozen? ⟨b,1,none⟩=false:=by simp only [World.frozen?,hb];rfl
 have c_b_2:w.cell? ⟨b,2,none⟩=some (c2):=by simp only [World.cell?,hb];rfl
 have f_b_2:w.frozen? ⟨b,2,none⟩=false:=by simp only [World.frozen?,hb];rfl
 have c_b_3:w.cell? ⟨b,3,none⟩=some (c3):=by simp only [World.cell?,hb];rfl
 have f_b_3:w.frozen? ⟨b,3,none⟩=false:=by simp only [World.frozen?,hb];rfl
 have c_b_4:w.cell? ⟨b,4,none⟩=some (c4):=by simp only [World.cell?,hb];rfl
 have f_b_4:w.frozen? ⟨b,4,none⟩=false:=by simp only [World.frozen?,hb];rfl
 have c_b_5:w.cell? ⟨b,5,none⟩=some (c5):=by simp only [World.cell?,hb];rfl
 have f_b_5:w.frozen? ⟨b,5,none⟩=false:=by simp only [World.frozen?,hb];rfl
 clear hW hN k2 k4 k5 kb cN
 go_wp2
 go_region
 all_goals go_wp2;have e0:(w.setCell ⟨b,0,none⟩ (.slice S I A)).heap[b]? =some (.cells #[.slice S I A,c1,c2,c3,c4,c5] 71 (0,0)):=(heap_setCell_same w b 0 _ _ (.slice S I A) hb).trans rfl;have e1:((w.setCell ⟨b,0,none⟩ (.slice S I A)).setCell ⟨b,1,none⟩ (.int .i64 i1)).heap[b]? =some (.cells #[.slice S I A,.int .i64 i1,c2,c3,c4,c5] 71 (0,0)):=(heap_setCell_same (w.setCell ⟨b,0,none⟩ (.slice S I A)) b 1 _ _ (.int .i64 i1) e0).trans rfl;have e2:(((w.setCell ⟨b,0,none⟩ (.slice S I A)).setCell ⟨b,1,none⟩ (.int .i64 i1)).setCell ⟨b,2,none⟩ (.int .i64 i2)).heap[b]? =some (.cells #[.slice S I A,.int .i64 i1,.int .i64 i2,c3,c4,c5] 71 (0,0)):=(heap_setCell_same ((w.setCell ⟨b,0,none⟩ (.slice S I A)).setCell ⟨b,1,none⟩ (.int .i64 i1)) b 2 _ _ (.int .i64 i2) e1).trans rfl;have e3:((((w.setCell ⟨b,0,none⟩ (.slice S I A)).setCell ⟨b,1,none⟩ (.int .i64 i1)).setCell ⟨b,2,none⟩ (.int .i64 i2)).setCell ⟨b,3,none⟩ (.slice a3 l3 Z)).heap[b]? =some (.cells #[.slice S I A,.int .i64 i1,.int .i64 i2,.slice a3 l3 Z,c4,c5] 71 (0,0)):=(heap_setCell_same (((w.setCell ⟨b,0,none⟩ (.slice S I A)).setCell ⟨b,1,none⟩ (.int .i64 i1)).setCell ⟨b,2,none⟩ (.int .i64 i2)) b 3 _ _ (.slice a3 l3 Z) e2).trans rfl;have e4:(((((w.setCell ⟨b,0,none⟩ (.slice S I A)).setCell ⟨b,1,none⟩ (.int .i64 i1)).setCell ⟨b,2,none⟩ (.int .i64 i2)).setCell ⟨b,3,none⟩ (.slice a3 l3 Z)).setCell ⟨b,4,none⟩ (.slice a4 l4 q4)).heap[b]? =some (.cells #[.slice S I A,.int .i64 i1,.int .i64 i2,.slice a3 l3 Z,.slice a4 l4 q4,c5] 71 (0,0)):=(heap_setCell_same ((((w.setCell ⟨b,0,none⟩ (.slice S I A)).setCell ⟨b,1,none⟩ (.int .i64 i1)).setCell ⟨b,2,none⟩ (.int .i64 i2)).setCell ⟨b,3,none⟩ (.slice a3 l3 Z)) b 4 _ _ (.slice a4 l4 q4) e3).trans rfl;have e5:((((((w.setCell ⟨b,0,none⟩ (.slice S I A)).setCell ⟨b,1,none⟩ (.int .i64 i1)).setCell ⟨b,2,none⟩ (.int .i64 i2)).setCell ⟨b,3,none⟩ (.slice a3 l3 Z)).setCell ⟨b,4,none⟩ (.slice a4 l4 q4)).setCell ⟨b,5,none⟩ (.slice a5 l5 q5)).heap[b]? =some (.cells #[.slice S I A,.int .i64 i1,.int .i64 i2,.slice a3 l3 Z,.slice a4 l4 q4,.slice a5 l5 q5] 71 (0,0)):=(heap_setCell_same (((((w.setCell ⟨b,0,none⟩ (.slice S I A)).setCell ⟨b,1,none⟩ (.int .i64 i1)).setCell ⟨b,2,none⟩ (.int .i64 i2)).setCell ⟨b,3,none⟩ (.slice a3 l3 Z)).setCell ⟨b,4,none⟩ (.slice a4 l4 q4)) b 5 _ _ (.slice a5 l5 q5) e4).trans rfl;have oth: ∀y,y≠b->((((((w.setCell ⟨b,0,none⟩ (.slice S I A)).setCell ⟨b,1,none⟩ (.int .i64 i1)).setCell ⟨b,2,none⟩ (.int .i64 i2)).setCell ⟨b,3,none⟩ (.slice a3 l3 Z)).setCell ⟨b,4,none⟩ (.slice a4 l4 q4)).setCell ⟨b,5,none⟩ (.slice a5 l5 q5)).heap[y]? =w.heap[y]? :=λy hy=>by simp only [heap_setCell_other _ _ _ _ (show y≠(⟨b,_,none⟩:Addr).block from hy)]
 have e6:(((((((w.setCell ⟨b,0,none⟩ (.slice S I A)).setCell ⟨b,1,none⟩ (.int .i64 i1)).setCell ⟨b,2,none⟩ (.int .i64 i2)).setCell ⟨b,3,none⟩ (.slice a3 l3 Z)).setCell ⟨b,4,none⟩ (.slice a4 l4 q4)).setCell ⟨b,5,none⟩ (.slice a5 l5 q5)).setCell ⟨W,0,none⟩ (.int .i64 k)).heap[W]? =some (.cells #[.int .i64 k] 26 (0,0)):=(heap_setCell_same ((((((w.setCell ⟨b,0,none⟩ (.slice S I A)).setCell ⟨b,1,none⟩ (.int .i64 i1)).setCell ⟨b,2,none⟩ (.int .i64 i2)).setCell ⟨b,3,none⟩ (.slice a3 l3 Z)).setCell ⟨b,4,none⟩ (.slice a4 l4 q4)).setCell ⟨b,5,none⟩ (.slice a5 l5 q5)) W 0 _ _ (.int .i64 k) ((oth W h4b).trans h4)).trans rfl;have sz:(((((((w.setCell ⟨b,0,none⟩ (.slice S I A)).setCell ⟨b,1,none⟩ (.int .i64 i1)).setCell ⟨b,2,none⟩ (.int .i64 i2)).setCell ⟨b,3,none⟩ (.slice a3 l3 Z)).setCell ⟨b,4,none⟩ (.slice a4 l4 q4)).setCell ⟨b,5,none⟩ (.slice a5 l5 q5)).setCell ⟨W,0,none⟩ (.int .i64 k)).heap.size=w.heap.size:=by simp
 have al: ∀y,y<w.heap.size->((((((((w.setCell ⟨b,0,none⟩ (.slice S I A)).setCell ⟨b,1,none⟩ (.int .i64 i1)).setCell ⟨b,2,none⟩ (.int .i64 i2)).setCell ⟨b,3,none⟩ (.slice a3 l3 Z)).setCell ⟨b,4,none⟩ (.slice a4 l4 q4)).setCell ⟨b,5,none⟩ (.slice a5 l5 q5)).setCell ⟨W,0,none⟩ (.int .i64 k)).alloc (.cells #[.int .i64 k] 159)).drew.heap[y]? =(((((((w.setCell ⟨b,0,none⟩ (.slice S I A)).setCell ⟨b,1,none⟩ (.int .i64 i1)).setCell ⟨b,2,none⟩ (.int .i64 i2)).setCell ⟨b,3,none⟩ (.slice a3 l3 Z)).setCell ⟨b,4,none⟩ (.slice a4 l4 q4)).setCell ⟨b,5,none⟩ (.slice a5 l5 q5)).setCell ⟨W,0,none⟩ (.int .i64 k)).heap[y]? :=λy hy=>N6 _ _ y (by rw [sz];exact hy)
 all_goals
  cases c₀;simp [bodyPostS,results,Tryz.results72];refine ⟨?_,?_,?_,λy hy h1 h2=>?_⟩;rw [al b (lt hb),heap_setCell_other _ _ _ _ (show b≠W from Ne.symm h4b)];exact e5;rw [al W (lt h4)];exact e6;simp only [Wk9,Qs8,Xo6];rw [al y hy,heap_setCell_other _ _ _ _ (show y≠W from h2)];exact oth y h1
structure cW (w w':World):Prop where
 size:w.heap.size<=w'.heap.size
 os:w'.os=w.os
 tape:w'.tape=w.tape
 output:w'.output=w.output
theorem Zn5{w:World}{p:Nat}{v:Value}{T:TypeId}(h:w.heap[p]? =some (.cells #[v] T (0,0)))(y:Nat):(w.setCell ⟨p,0,none⟩ v).heap[y]? =w.heap[y]? :=by
 by_cases hy:y=p;subst hy;rw [heap_setCell_same w y 0 _ _ v h,h];rfl;exact heap_setCell_other _ _ _ _ hy
abbrev XX(b:Nat):Value:=Value.pointer (some ⟨b,0,none⟩)
abbrev KB:Value:=Value.int IntKind.i64 0
set_option maxHeartbeats 2000000 in
theorem Zt0(b:Nat)(str:ByteArray)(a0 a3 a4 a5:Option Addr)(l0 q0 l3 q3 l4 q4 l5 q5:Nat)(i1 i2:Int)(w:World)(hb:w.heap[b]? =some (.cells #[.slice a0 l0 q0,.int .i64 i1,.int .i64 i2,.slice a3 l3 q3,.slice a4 l4 q4,.slice a5 l5 q5] 71 (0,0)))
  (e:Int)(touched:Nat->Prop)(ht: ∀y,touched y->y<w.heap.size)(P:World->World->Prop)
  (hl: ∀w2,cW w w2->(∀y,y<w.heap.size->w2.heap[y]? =w.heap[y]?)->Calls Tryz.prog 73 #[.pointer (some ⟨b,0,none⟩),.string str] w2 λen w3=>en=(if e=0 then .returned (.tuple #[]) else .panicked [{v:= .iface 159 (.agg #[.int .i64 e]),recovered:=false}])/\cW w2 w3/\(∀y,y<w2.heap.size-> ¬touched y->w3.heap[y]? =w2.heap[y]?)/\(∃c0 c1 c2 c3 c4 c5,w3.heap[b]? =some (.cells #[c0,c1,c2,c3,c4,c5] 71 (0,0)))/\P w2 w3):
  Calls Tryz.prog 49 #[.pointer (some ⟨b,0,none⟩),.string str] w λen w'=>en= .returned (.int .i64 e)/\ ∃w2 w3,cW w w2/\(∀y,y<w.heap.size->w2.heap[y]? =w.heap[y]?)/\P w2 w3/\cW w2 w3/\cW w3 w'/\(∀y,y<w3.heap.size->y≠b->y≠w.heap.size+1->w'.heap[y]? =w3.heap[y]?)/\w'.heap[b]? =(if e=0 then w3.heap[b]? else w.heap[b]?)/\(e=0-> ∀y:Nat,w'.heap[y]? =w3.heap[y]?):=by
 have hmf: ∀(fn:Fn) (first cap:Array Value) (w:World),(Instr.makeFunc fn first cap).run Tryz.prog w= .ok (.func fn first cap) w:=λ_ _ _ _=>rfl
 have lt: ∀{y o},w.heap[y]? =some o->y<w.heap.size:=λh=>(Array.getElem?_eq_some_iff.1 h).1;have cb0:w.cell? ⟨b,0,none⟩=some (.slice a0 l0 q0):=by simp only [World.cell?,hb];rfl
 have cb1:w.cell? ⟨b,1,none⟩=some (.int .i64 i1):=by simp only [World.cell?,hb];rfl
 have cb2:w.cell? ⟨b,2,none⟩=some (.int .i64 i2):=by simp only [World.cell?,hb];rfl
 have cb3:w.cell? ⟨b,3,none⟩=some (.slice a3 l3 q3):=by simp only [World.cell?,hb];rfl
 have cb4:w.cell? ⟨b,4,none⟩=some (.slice a4 l4 q4):=by simp only [World.cell?,hb];rfl
 have cb5:w.cell? ⟨b,5,none⟩=some (.slice a5 l5 q5):=by simp only [World.cell?,hb];rfl
 have nb: ¬w.heap.size=b:=λh=>by have:=lt hb;omega
 have nb': ¬b=w.heap.size:=λh=>by have:=lt hb;omega
 have nb1: ¬b=w.heap.size+1:=λh=>by have:=lt hb;omega
 have nb2: ¬b=w.heap.size+1+1:=λh=>by have:=lt hb;omega
 have nb1': ¬w.heap.size+1=b:=λh=>by have:=lt hb;omega
 have nb2': ¬w.heap.size+1+1=b:=λh=>by have:=lt hb;omega
 have hA: ∀y,y<w.heap.size->((w.alloc (Obj.cells #[XX b] 66)).alloc (Obj.cells #[KB] 26)).heap[y]? =w.heap[y]? :=λy hy=>(Go.RowKit.Below.heap_alloc _ _ y (Nat.lt_succ_of_lt hy |> λh=>by simpa using h)).trans (Go.RowKit.Below.heap_alloc w _ y hy)
 have hAb:=(hA b (lt hb)).trans hb;have d0:((w.alloc (Obj.cells #[XX b] 66)).alloc (Obj.cells #[Value.int IntKind.i64 0] 26)).cell? ⟨b,0,none⟩=some (.slice a0 l0 q0):=by simp only [World.cell?,hAb];rfl
 have d1:((w.alloc (Obj.cells #[XX b] 66)).alloc (Obj.cells #[Value.int IntKind.i64 0] 26)).cell? ⟨b,1,none⟩=some (.int .i64 i1):=by simp only [World.cell?,hAb];rfl
 have d2:((w.alloc (Obj.cells #[XX b] 66)).alloc (Obj.cells #[Value.int IntKind.i64 0] 26)).cell? ⟨b,2,none⟩=some (.int .i64 i2):=by simp only [World.cell?,hAb];rfl
 have d3:((w.alloc (Obj.cells #[XX b] 66)).alloc (Obj.cells #[Value.int IntKind.i64 0] 26)).cell? ⟨b,3,none⟩=some (.slice a3 l3 q3):=by simp only [World.cell?,hAb];rfl
 have d4:((w.alloc (Obj.cells #[XX b] 66)).alloc (Obj.cells #[Value.int IntKind.i64 0] 26)).cell? ⟨b,4,none⟩=some (.slice a4 l4 q4):=by simp only [World.cell?,hAb];rfl
 have d5:((w.alloc (Obj.cells #[XX b] 66)).alloc (Obj.cells #[Value.int IntKind.i64 0] 26)).cell? ⟨b,5,none⟩=some (.slice a5 l5 q5):=by simp only [World.cell?,hAb];rfl
 have s1:(w.alloc (Obj.cells #[Value.pointer (some ⟨b,0,none⟩)] 66)).heap.size=w.heap.size+1:=by simp
 have s2:((w.alloc (Obj.cells #[Value.pointer (some ⟨b,0,none⟩)] 66)).alloc (Obj.cells #[Value.int IntKind.i64 0] 26)).heap.size=w.heap.size+2:=by simp
 have s3:(((w.alloc (Obj.cells #[XX b] 66)).alloc (Obj.cells #[KB] 26)).alloc (Obj.cells #[.slice a0 l0 q0,.int .i64 i1,.int .i64 i2,.slice a3 l3 q3,.slice a4 l4 q4,.slice a5 l5 q5] 44)).heap.size=w.heap.size+3:=by simp
 have hB: ∀y,y<w.heap.size->(((w.alloc (Obj.cells #[XX b] 66)).alloc (Obj.cells #[KB] 26)).alloc (Obj.cells #[.slice a0 l0 q0,.int .i64 i1,.int .i64 i2,.slice a3 l3 q3,.slice a4 l4 q4,.slice a5 l5 q5] 44)).heap[y]? =w.heap[y]? :=λy hy=>(Go.RowKit.Below.heap_alloc _ _ y (by rw [s2];omega)).trans (hA y hy)
 have b5:(((w.alloc (Obj.cells #[XX b] 66)).alloc (Obj.cells #[KB] 26)).alloc (Obj.cells #[.slice a0 l0 q0,.int .i64 i1,.int .i64 i2,.slice a3 l3 q3,.slice a4 l4 q4,.slice a5 l5 q5] 44)).heap[w.heap.size+2]? =some (.cells #[.slice a0 l0 q0,.int .i64 i1,.int .i64 i2,.slice a3 l3 q3,.slice a4 l4 q4,.slice a5 l5 q5] 44 (0,0)):=by
  have:=World.alloc_heap_new ((w.alloc (Obj.cells #[XX b] 66)).alloc (Obj.cells #[KB] 26)) (Obj.cells #[.slice a0 l0 q0,.int .i64 i1,.int .i64 i2,.slice a3 l3 q3,.slice a4 l4 q4,.slice a5 l5 q5] 44);rw [s2] at this;exact this
 have b4:(((w.alloc (Obj.cells #[XX b] 66)).alloc (Obj.cells #[KB] 26)).alloc (Obj.cells #[.slice a0 l0 q0,.int .i64 i1,.int .i64 i2,.slice a3 l3 q3,.slice a4 l4 q4,.slice a5 l5 q5] 44)).heap[w.heap.size+1]? =some (.cells #[.int .i64 0] 26 (0,0)):=by
  have:=World.alloc_heap_new (w.alloc (Obj.cells #[Value.pointer (some ⟨b,0,none⟩)] 66)) (Obj.cells #[Value.int IntKind.i64 0] 26);rw [s1] at this;exact (Go.RowKit.Below.heap_alloc _ _ _ (by rw [s2];omega)).trans this
 have b2:(((w.alloc (Obj.cells #[XX b] 66)).alloc (Obj.cells #[KB] 26)).alloc (Obj.cells #[.slice a0 l0 q0,.int .i64 i1,.int .i64 i2,.slice a3 l3 q3,.slice a4 l4 q4,.slice a5 l5 q5] 44)).heap[w.heap.size]? =some (.cells #[.pointer (some ⟨b,0,none⟩)] 66 (0,0)):=by
  have:=World.alloc_heap_new w (Obj.cells #[Value.pointer (some ⟨b,0,none⟩)] 66);exact (Go.RowKit.Below.heap_alloc _ _ _ (by rw [s2];omega)).trans ((Go.RowKit.Below.heap_alloc _ _ _ (by rw [s1];omega)).trans this)
 have hG:cW w (((w.alloc (Obj.cells #[XX b] 66)).alloc (Obj.cells #[KB] 26)).alloc (Obj.cells #[.slice a0 l0 q0,.int .i64 i1,.int .i64 i2,.slice a3 l3 q3,.slice a4 l4 q4,.slice a5 l5 q5] 44)):=⟨by rw [s3];omega,rfl,rfl,rfl⟩
 have FO:=hl _ hG hB;by_cases he:e=0
 ·subst he;simp only [if_pos rfl] at FO ⊢
  go_enter_defers Tryz.func49,Tryz.ntmps49
  go_wp2_with (go_at_call 73;refine FO.mono ?_;rintro en w3 ⟨rfl,g1,g2,g3,g4⟩;have h4:=(g2 (w.heap.size+1) (by rw [s3];omega) (λh=>by have:=ht _ h;omega)).trans b4;have k4:w3.cell? ⟨w.heap.size+1,0,none⟩=some (.int .i64 0):=(by simp only [World.cell?,h4];rfl);have f4:w3.frozen? ⟨w.heap.size+1,0,none⟩=false:=(by simp only [World.frozen?,h4];rfl))
  refine leaves_cons (f:=72) (args:=#[.pointer (some ⟨w.heap.size+2,0,none⟩),.pointer (some ⟨w.heap.size,0,none⟩),.pointer (some ⟨w.heap.size+1,0,none⟩)]) (by simp) (by simp [go_sem]) ?_
  refine (Qt1 _ _ _ _).mono ?_;rintro e' u' w'' ⟨rfl,rfl,rfl⟩;have kc:(w3.setCell ⟨w.heap.size+1,0,none⟩ (.int .i64 0)).cell? ⟨w.heap.size+1,0,none⟩=some (.int .i64 0):=by simp only [World.cell?,heap_setCell_same w3 _ 0 _ _ (.int .i64 0) h4];rfl
  simp [Leaves,settle,results,Tryz.results49,go_sem,kc];exact ⟨_,hG,hB,w3,g4,g1,⟨by simp,rfl,rfl,rfl⟩,λy _ _ h2=>heap_setCell_other _ _ _ _ h2,heap_setCell_other _ _ _ _ nb1,λy=>Zn5 h4 y⟩
 ·simp only [if_neg he] at FO ⊢
  go_enter_defers Tryz.func49,Tryz.ntmps49
  go_wp2_with (go_at_call 73;refine FO.mono ?_;rintro en w3 ⟨rfl,g1,g2,g3,g4⟩;have h4:=(g2 (w.heap.size+1) (by rw [s3];omega) (λh=>by have:=ht _ h;omega)).trans b4;have k4:w3.cell? ⟨w.heap.size+1,0,none⟩=some (.int .i64 0):=(by simp only [World.cell?,h4];rfl);have f4:w3.frozen? ⟨w.heap.size+1,0,none⟩=false:=(by simp only [World.frozen?,h4];rfl))
  refine leaves_cons (f:=72) (args:=#[.pointer (some ⟨w.heap.size+2,0,none⟩),.pointer (some ⟨w.heap.size,0,none⟩),.pointer (some ⟨w.heap.size+1,0,none⟩)]) (by simp) (by simp [go_sem]) ?_
  obtain ⟨c0,c1,c2,c3,c4,c5,g3⟩:=g3;have h2:=(g2 w.heap.size (by rw [s3];omega) (λh=>by have:=ht _ h;omega)).trans b2
  have h5:=(g2 (w.heap.size+2) (by rw [s3];omega) (λh=>by have:=ht _ h;omega)).trans b5
  refine (sO b w.heap.size (w.heap.size+1) (w.heap.size+2) e 0 a0 a3 a4 a5 l0 q0 l3 q3 l4 q4 l5 q5 i1 i2 c0 c1 c2 c3 c4 c5 [] w3 h2 h5 h4 g3 (λh=>nb1 h.symm)).mono ?_;rintro e' u' w'' ⟨rfl,rfl,m1,m2,m3,m4,m5⟩;have kc:w''.cell? ⟨w.heap.size+1,0,none⟩=some (.int .i64 e):=by simp only [World.cell?,m3];rfl
  simp [Leaves,settle,results,Tryz.results49,go_sem,kc];exact ⟨_,hG,hB,w3,g4,g1,⟨m1,m4.1,m4.2.1,m4.2.2⟩,m5,m2.trans hb.symm,λh=>absurd h he⟩
theorem yX{e:UP}{w:World}{sz n:Nat}{f:Ci}{v:Value}(h:Rep e w (.lst sz n f) v): ∃a l c,v= .slice a l c:=by
 cases h with
 |lstNil=>exact ⟨_,_,_,rfl⟩
 |lst=>exact ⟨_,_,_,rfl⟩
theorem Zn2(W:Cf)(s:HS):(FD W s).xn=s.xn/\(FD W s).xg=s.xg/\(FD W s).yn=s.yn/\(FD W s).yg=s.yg:=by
 unfold FD;split<;>exact ⟨rfl,rfl,rfl,rfl⟩
theorem Xt5(e:Int):Xt6 159 (rsE e)=(if e=0 then .returned (.tuple #[]) else .panicked [{v:= .iface 159 (.agg #[.int .i64 e]),recovered:=false}]):=by
 unfold rsE Xt6;by_cases h:e=0;simp [h];simp [h]
def Zc7(e:UP)(w0:World)(T:Nat->Prop)(q r t:Nat)(s s':HS)(er:Int)(w2 w3:World):Prop:=
 Below w0.heap.size w0 w3/\(∀x,(e.ro x\/(w0.heap.size<=x/\x<w2.heap.size/\e.own x≠some q/\e.own x≠some r/\e.own x≠some t))->w3.heap[x]? =w2.heap[x]?)/\
 ∃ro1:Nat->Prop,(∀x,e.ro x->ro1 x)/\(∀x,T x-> ¬ro1 x)/\GB {e with ro:=ro1,own:=P1 e q r t} w0.heap.size w3/\
  GM {e with ro:=ro1,own:=P1 e q r t} w3 q (.cells 71 (cond (rsE er).1 (hsL s') [.top,.top,.top,.top,.top,.top]))/\
  GM {e with ro:=ro1,own:=P1 e q r t} w3 r (.row 26 1 s.xn s.xg)/\GM {e with ro:=ro1,own:=P1 e q r t} w3 t (.row 9 1 s.yn s.yg)
theorem Zt2{str:ByteArray}{n:Nat}{W:Cf}{s:HS}(h:uT str n W)(hs:rT s)
  {e:UP}{w0 w:World}{T:Nat->Prop}{q r t:Nat}(hEv:GB e w0.heap.size w)(hB:Below w0.heap.size w0 w)(hT: ∀b,T b->b<w0.heap.size/\ ¬e.ro b)
  (hq:GM e w q (.cells 71 (hsL s)))(hr:GM e w r (.row 26 1 s.xn s.xg))(ht:GM e w t (.row 9 1 s.yn s.yg))(hqr:q≠r)(hqt:q≠t)(hrt:r≠t)(hrv: ∃a b c,e.val r= .slice a b c)(htv: ∃a b c,e.val t= .slice a b c):
  Calls Tryz.prog 49 #[.pointer (some ⟨e.blk q,0,none⟩),.string str] w λen w'=>en= .returned (.int .i64 (P4 W n s))/\ ∃w2 w3,cW w w2/\(∀y,y<w.heap.size->w2.heap[y]? =w.heap[y]?)/\Zc7 e w0 T q r t s (FD W s) (P4 W n s) w2 w3/\cW w2 w3/\cW w3 w'/\(∀y,y<w3.heap.size->y≠e.blk q->y≠w.heap.size+1->w'.heap[y]? =w3.heap[y]?)/\w'.heap[e.blk q]? =(if P4 W n s=0 then w3.heap[e.blk q]? else w.heap[e.blk q]?)/\(P4 W n s=0-> ∀y:Nat,w'.heap[y]? =w3.heap[y]?):=by
 have hq0:=hq;obtain ⟨ql,qo,vs,qh,qv⟩:=hq;obtain ⟨u0,us,rfl,r0,qv⟩:=qv.cons_inv;obtain ⟨u1,us,rfl,r1,qv⟩:=qv.cons_inv;obtain ⟨u2,us,rfl,r2,qv⟩:=qv.cons_inv;obtain ⟨u3,us,rfl,r3,qv⟩:=qv.cons_inv;obtain ⟨u4,us,rfl,r4,qv⟩:=qv.cons_inv;obtain ⟨u5,us,rfl,r5,qv⟩:=qv.cons_inv;obtain rfl:=qv.nil_inv;obtain ⟨a0,l0,q0,rfl⟩:=yX r0;obtain rfl:=r1.x_inv;obtain rfl:=r2.x_inv;obtain ⟨a3,l3,q3,rfl⟩:=yX r3;obtain ⟨a4,l4,q4,rfl⟩:=yX r4;obtain ⟨a5,l5,q5,rfl⟩:=yX r5;refine Zt0 (e.blk q) str a0 a3 a4 a5 l0 q0 l3 q3 l4 q4 l5 q5 s.pl s.ph w qh (P4 W n s) (λy=>e.own y=some q\/e.own y=some r\/e.own y=some t) (λy hy=>by rcases hy with hy|hy|hy<;>exact (hEv.owned _ _ hy).2) (Zc7 e w0 T q r t s (FD W s) (P4 W n s)) ?_
 intro w2 hG jY;have st:Step e e w w2:=⟨λb hb hro=>⟨hro,jY b hb⟩,λk hk=>⟨hk,rfl,rfl⟩,hG.size⟩;have hE2:GB e w0.heap.size w2:=⟨λx hx=>⟨(hEv.apart x hx).1,PJ (hEv.apart x hx).2 hG.size⟩,λx k hk=>⟨(hEv.owned x k hk).1,PJ (hEv.owned x k hk).2 hG.size⟩,hEv.glob.step st⟩;have hB2:Below w0.heap.size w0 w2:=⟨hG.os.trans hB.os,hG.tape.trans hB.tape,hG.output.trans hB.output,Ar hB.size hG.size,λx hx=>(jY x (PJ hx hB.size)).trans (hB.block x hx)⟩;have same: ∀{k:Nat} {R:GU},Xq2 R=false->GM e w k R->GM e w2 k R:=λha hh=>LW st (λx hx=>⟨hx,jY x (hEv.owned _ _ hx).2⟩) ha hh;have hx:=Zn2 W s;refine (Zt9 (Qt8 h hs) hx hE2 hB2 hT (same rfl hq0) (same rfl hr) (same rfl ht) hqr hqt hrt hrv htv).mono ?_;rintro en w3 ⟨rfl,g2,g3,g4,g5⟩;refine ⟨Xt5 _,⟨g3,g2.os.trans hB2.os.symm,g2.tape.trans hB2.tape.symm,g2.output.trans hB2.output.symm⟩,λy hy hn=>?_,?_,g2,g4,g5⟩;rcases An y w0.heap.size with h1|h1;exact (g2.block y h1).trans (hB2.block y h1).symm;exact g4 y (.inr ⟨h1,hy,λh=>hn (.inl h),λh=>hn (.inr (.inl h)),λh=>hn (.inr (.inr h))⟩);obtain ⟨ro1,_,_,_,⟨_,_,vs1,k0,k1⟩,_⟩:=g5;have hl:vs1.length=6:=by
  rw [←k1.1];cases (rsE (P4 W n s)).1<;>rfl
 match vs1,hl,k0 with
 |[c0,c1,c2,c3,c4,c5],_,k0=>exact ⟨c0,c1,c2,c3,c4,c5,k0⟩
theorem Qg1{w w':World}{T sz n:Nat}{v:Value}{xs:List Value}(h:w.ownsRow 0 T sz v n xs)(k: ∀b,v.ownBlock=some b->w'.heap[b]? =w.heap[b]?):w'.ownsRow 0 T sz v n xs:=by
 refine ⟨h.1,?_⟩;rcases h.2 with h2|⟨g,cap,cur,rfl,h3,h4,h5⟩;exact .inl h2;exact .inr ⟨g,cap,cur,rfl,h3,(k g rfl).trans h4,h5⟩
theorem Zt1{str:ByteArray}{n:Nat}{W:Cf}{s:HS}(h:uT str n W)(hs:rT s)
  {e:UP}{w0 w:World}{T:Nat->Prop}{q r t:Nat}(hEv:GB e w0.heap.size w)(hB:Below w0.heap.size w0 w)(hT: ∀b,T b->b<w0.heap.size/\ ¬e.ro b)
  (hq:GM e w q (.cells 71 (hsL s)))(hr:GM e w r (.row 26 1 s.xn s.xg))(ht:GM e w t (.row 9 1 s.yn s.yg))(hqr:q≠r)(hqt:q≠t)(hrt:r≠t)(hrv: ∃a b c,e.val r= .slice a b c)(htv: ∃a b c,e.val t= .slice a b c)
  (hxx: ∀i,i<s.xn-> ∀a∈s.xg i,∃u,a= .x u)(hyy: ∀i,i<s.yn-> ∀a∈s.yg i,∃u,a= .x u):
  Calls Tryz.prog 49 #[.pointer (some ⟨e.blk q,0,none⟩),.string str] w λen w'=>en= .returned (.int .i64 (P4 W n s))/\Below w0.heap.size w0 w'/\w.heap.size<=w'.heap.size/\(∀x,e.ro x->w'.heap[x]? =w.heap[x]?)/\
   ∃ro1:Nat->Prop,(∀x,e.ro x->ro1 x)/\(∀x,T x-> ¬ro1 x)/\GB {e with ro:=ro1,own:=P1 e q r t} w0.heap.size w'/\
    GM {e with ro:=ro1,own:=P1 e q r t} w' q (.cells 71 (hsL (if P4 W n s=0 then FD W s else s)))/\GM {e with ro:=ro1,own:=P1 e q r t} w' r (.row 26 1 s.xn s.xg)/\GM {e with ro:=ro1,own:=P1 e q r t} w' t (.row 9 1 s.yn s.yg):=by
 refine (Zt2 h hs hEv hB hT hq hr ht hqr hqt hrt hrv htv).mono ?_;rintro en w' ⟨rfl,w2,w3,G1,e1,⟨B3,K3,ro1,R1,R2,R3,R4,R5,R6⟩,G2,G3,O1,O2,O3⟩;have hro: ∀x,e.ro x->x<w.heap.size/\x≠e.blk q:=λx hx=>⟨(hEv.apart x hx).2,λh=>by
  have h1:=(hEv.apart x hx).1;rw [h,hq.2.1] at h1;cases h1⟩
 have hqlt:e.blk q<w.heap.size:=(hEv.owned _ _ hq.2.1).2;have lt3: ∀{x},x<w.heap.size->x<w3.heap.size:=λh=>PJ h (Ar G1.size G2.size);have hsz:w.heap.size<=w'.heap.size:=Ar (Ar G1.size G2.size) G3.size;have keep: ∀x,e.ro x->w'.heap[x]? =w.heap[x]? :=λx hx=>by
  rw [O1 x (lt3 (hro x hx).1) (hro x hx).2 (by have:=(hro x hx).1;omega),K3 x (.inl hx)]
  exact e1 x (hro x hx).1
 have b0:w0.heap.size<=e.blk q:=(hEv.owned _ _ hq.2.1).1;have hBel:Below w0.heap.size w0 w':=⟨G3.os.trans B3.os,G3.tape.trans B3.tape,G3.output.trans B3.output,Ar B3.size G3.size,λx hx=>by
  rw [O1 x (lt3 (PJ hx hB.size)) VO (by have:=hB.size;omega)]
  exact B3.block x hx⟩
 refine ⟨rfl,hBel,hsz,keep,?_⟩;by_cases he:P4 W n s=0;have D7:=O3 he;have hb:(rsE (P4 W n s)).1=true:=by rw [he];rfl
 rw [hb] at R4;rw [if_pos he];have st:Step {e with ro:=ro1,own:=P1 e q r t} {e with ro:=ro1,own:=P1 e q r t} w3 w':=⟨λb _ hr=>⟨hr,D7 b⟩,λk hk=>⟨hk,rfl,rfl⟩,G3.size⟩
 exact ⟨ro1,R1,R2,⟨λx hx=>⟨(R3.apart x hx).1,PJ (R3.apart x hx).2 G3.size⟩,λx k hk=>⟨(R3.owned x k hk).1,PJ (R3.owned x k hk).2 G3.size⟩,R3.glob.step st⟩,LW st (λx hx=>⟨hx,D7 x⟩) rfl R4,LW st (λx hx=>⟨hx,D7 x⟩) rfl R5,LW st (λx hx=>⟨hx,D7 x⟩) rfl R6⟩;rw [if_neg he] at O2;rw [if_neg he];have st:Step e {e with own:=P1 e q r t} w w':=⟨λb _ hr=>⟨hr,keep b hr⟩,λk hk=>⟨hk,rfl,rfl⟩,hsz⟩
 obtain ⟨ql,qo,vs,qh,qv⟩:=hq;have HD: ∀{x j},P1 e q r t x=some j->w0.heap.size<=x/\x<w.heap.size:=by
  intro x j hj;unfold P1 at hj;split at hj;rename_i h;rw [h];exact hEv.owned _ _ qo;split at hj;rename_i h;exact hEv.owned _ _ (hr.2.1 x h);split at hj;rename_i h;exact hEv.owned _ _ (ht.2.1 x h);cases hj
 have M3: ∀{k:Nat},k≠q->(∀b,(e.val k).ownBlock=some b->e.own b=some k)-> ∀b,(e.val k).ownBlock=some b->w'.heap[b]? =w3.heap[b]? :=by
  intro k hk ho b hb;have h1:=hEv.owned _ _ (ho b hb);refine O1 b (lt3 h1.2) (λh=>?_) (by have:=h1.2;omega)
  have h2:=ho b hb;rw [h,qo] at h2;exact hk (Bb h2).symm
 refine ⟨e.ro,λ_ h=>h,λx hx=>(hT x hx).2,⟨λx hx=>⟨?_,PJ (hEv.apart x hx).2 hsz⟩,λx k hk=>⟨(HD hk).1,PJ (HD hk).2 hsz⟩,hEv.glob.step st⟩,⟨ql,if_pos rfl,vs,O2.trans qh,qv.step st⟩,?_,?_⟩;have h0:=(hEv.apart x hx).1;show P1 e q r t x=none;unfold P1;rw [if_neg (hro x hx).2,if_neg (λh=>by rw [hr.2.1 x h] at h0;cases h0),if_neg (λh=>by rw [ht.2.1 x h] at h0;cases h0)]
 obtain ⟨l5,o5,f5,xs5,p5,r5⟩:=R5;refine ⟨l5,o5,f5,xs5,Qg1 p5 (M3 hqr.symm hr.2.1),λi j a v O ha hv=>?_⟩;obtain ⟨u,rfl⟩:=hxx i O a (F9 ha);rw [(r5 i j _ v O ha hv).x_inv];exact .x _;obtain ⟨l6,o6,f6,xs6,p6,r6⟩:=R6;refine ⟨l6,o6,f6,xs6,Qg1 p6 (M3 hqt.symm ht.2.1),λi j a v O ha hv=>?_⟩;obtain ⟨u,rfl⟩:=hyy i O a (F9 ha);rw [(r6 i j _ v O ha hv).x_inv];exact .x _
def UP.nilAt(e:UP)(nx:Nat):UP:={ro:=e.ro,own:=e.own,live:=λk=>k=nx\/e.live k,blk:=e.blk,val:=λk=>if k=nx then .slice none 0 0 else e.val k}
theorem IN{e:UP}{nx:Nat}{w:World}(h: ¬e.live nx):Step e (UP.nilAt e nx) w w:=⟨λ_ _ h=>⟨h,rfl⟩,λk hk=>⟨.inr hk,rfl,by
 have:k≠nx:=λh'=>h (h'▸hk);simp [UP.nilAt,this]⟩,Am _⟩
theorem Wm8{e:UP}{nx B:Nat}{w:World}(h: ¬e.live nx)(hE:GB e B w):GB (UP.nilAt e nx) B w:=⟨hE.apart,hE.owned,hE.glob.step (IN h)⟩
theorem Qt0(e:UP)(nx:Nat)(w:World)(T n:Nat)(f:Ci)(h:n=0):GM (UP.nilAt e nx) w nx (.row T 1 n f):=by
 subst h;refine ⟨.inl rfl,λb hb=>?_,λi O=>absurd O (Aq i),[],?_,λi j a v O=>absurd O (Aq i)⟩;simp [UP.nilAt,Value.ownBlock] at hb;have:(UP.nilAt e nx).val nx= .slice none 0 0:=by simp [UP.nilAt]
 rw [this];exact World.ownsRow_nil w 0 T 1
theorem S1{e:UP}{w:World}{k T sz n:Nat}{f:Ci}(h:GM e w k (.row T sz n f)): ∃a b c,e.val k= .slice a b c:=by
 obtain ⟨_,_,_,xs,h4,_⟩:=h;rcases h4.2 with ⟨h5,_⟩|⟨g,cap,cur,h5,_⟩;exact ⟨_,_,_,h5⟩;exact ⟨_,_,_,h5⟩
def lnW(s:ByteArray)(k:Nat):ByteArray:=(spl s ⟨#[32]⟩).getD k ByteArray.empty
def lnN(s:ByteArray):Nat:=Lib.countB s ⟨#[32]⟩+1
theorem rY(sep:ByteArray): ∀(k:Nat) (s:ByteArray),∀x∈Lib.splitB sep 0 k s,x.size<=s.size
 | 0,s,x,hx=>by
  simp only [Lib.splitB,GT,DO,or_false] at hx;rw [hx];exact Am _
 |k+1,s,x,hx=>by
  unfold Lib.splitB at hx;split at hx;simp only [GT,DO,or_false] at hx;rw [hx];exact Am _;rcases GT.1 hx with rfl|hx;rw [ByteArray.size_extract];omega;have:=rY sep k _ x hx;rw [ByteArray.size_extract] at this;omega
section
variable (s:ByteArray)
theorem Qu5(h:s.size<100000):uT s (lnN s) (lnW s):=by
 refine ⟨h,rfl,λk _=>rfl,λk=>?_⟩;unfold lnW;rw [List.getD_eq_getElem?_getD];cases he:(spl s ⟨#[32]⟩)[k]? with
 |none=>exact Ao _
 |some x=>
  have:=rY _ _ _ x (F9 he);show x.size<=100000;omega
def lnE(x:HS):Int:=P4 (lnW s) (lnN s) x
def lnS(x:HS):HS:=if lnE s x=0 then FD (lnW s) x else x
end
def hsX(s:HS)(n:Nat)(g:Ci)(n':Nat)(g':Ci):HS:={s with xn:=n,xg:=g,yn:=n',yg:=g'}
theorem Qe9(W:Cf)(n:Nat)(s:HS)(k k':Nat)(g g':Ci):P4 W n (hsX s k g k' g')=P4 W n s:=by
 unfold P4;split<;>rfl
theorem Xm8(W:Cf)(s:HS)(k k':Nat)(g g':Ci):FD W (hsX s k g k' g')=hsX (FD W s) k g k' g':=by
 unfold FD;split<;>rfl
theorem Zv4{s:HS}(h:rT s)(k k':Nat)(g g':Ci):rT (hsX s k g k' g'):=⟨h.nr,h.bV,h.nc,h.sV⟩
theorem Zt8{s:HS}(h:rT s)(str:ByteArray):rT (lnS str s):=by
 unfold lnS;split;rename_i h0;exact Xm7 h h0;exact h
def hs0:HS:={nr:=0,ra:=λ_=>0,rb:=λ_=>0,ru:=λ_=>0,rv:=λ_=>0,pl:=760,ph:=760,nb:=0,ql:=λ_=>0,qh:=λ_=>0,qm:=λ_=>0,qr:=λ_ _=>0,qv:=λ_ _=>0,nc:=0,ca:=λ_=>0,cb:=λ_=>0,cc:=λ_=>0,cd:=λ_=>0,cv:=λ_=>false,ns:=0,sa:=λ_=>0,sb:=λ_=>0,sc:=λ_=>0,sl:=λ_=>0,sh:=λ_=>0,xn:=0,xg:=λ_=>[],yn:=0,yg:=λ_=>[] }
def sK(L:Cf):Nat->HS
 | 0=>hs0
 |k+1=>lnS (L k) (sK L k)
def eK(L:Cf)(k:Nat):Int:=lnE (L k) (sK L k)
def exG(L:Cf)(j:Nat):List AV:=[.x (.int .i64 (eK L j))]
theorem Zv6:rT hs0:=⟨Ao _,⟨⟨Ao _,λb hb=>absurd hb (Aq b)⟩,λb hb=>absurd hb (Aq b)⟩,Ao _,⟨Ao _,λk hk=>absurd hk (Aq k)⟩⟩
theorem A2(L:Cf): ∀k,rT (sK L k)
 | 0=>Zv6
 |k+1=>Zt8 (A2 L k) (L k)
def CG(L:Cf)(N r:Nat):D9:=λavs m nx sv=>match avs with
 |[.ptr q 0,.x (.string str')]=>match DN m q with
  |some (.cells T l)=>match DN m r with
   |some (.row T1 sz1 n1 f1)=>match Nat.beq T 71&&Nat.beq T1 26&& !Nat.beq q r with
    |true=>some (.needT [n1<N,l=hsL (sK L n1),HP str'= .x (.string (L n1)),sz1=1,f1=exG L] (.leaf (.x (.int .i64 (eK L n1)),[(q,.cells 71 (hsL (sK L (n1+1)))),(r,.row 26 1 n1 (exG L))],nx+1,sv)))
    |false=>none
   |_=>none
  |_=>none
 |_=>none
theorem Wm9{L:Cf}{N r:Nat}(hL: ∀k,k<N->(L k).size<100000):
  GH VU 49 (CG L N r):=by
 refine ⟨(UM Tryz.func49),?_⟩;intro avs m nx sv tr ht Q hQ cx w0 T e ds args w hE hB hm hlv P2 hxt hr;unfold CG at ht;split at ht;rename_i q str';split at ht;rename_i T l h1;split at ht;rename_i T1 sz1 n1 f1 h2;split at ht;rename_i hb;rw [HF,HF] at hb;obtain ⟨⟨hb1,hb2⟩,hb3⟩:=hb;obtain rfl:=H5 hb1;obtain rfl:=H5 hb2;have hqr:q≠r:=by
  rintro rfl;simp at hb3
 cases ht;obtain ⟨hn,hq⟩:=VR.sat_needT hQ;have hn:=GI hn;have e0:n1<N:=hn _ VY;have e1:l=hsL (sK L n1):=hn _ VY;have e2:HP str'= .x (.string (L n1)):=hn _ VY;have e3:sz1=1:=hn _ VY;have e5:f1=exG L:=hn _ VY;have e2:str'=L n1:=by
  injection e2 with e2
  injection e2
 subst e1 e2 e3 e5;obtain ⟨v0,l1,rfl,r1,hr⟩:=hr.cons_inv;obtain ⟨v1,l2,rfl,r2,hr⟩:=hr.cons_inv;obtain rfl:=hr.nil_inv;obtain rfl:=r2.x_inv;have hv0:v0= .pointer (some ⟨e.blk q,0,none⟩):=by cases r1;rfl
 subst hv0;have hid: ¬e.live nx:=λh=>Bf _ (hlv _ h);have hQ0:=hm _ (GA h1);have hR0:=hm _ (GA h2);have hqn:q≠nx:=λh=>hid (h▸hQ0.1);have hrn:r≠nx:=λh=>hid (h▸hR0.1);have st0:=IN (w:=w) hid;have hQ1:GM (UP.nilAt e nx) w q (.cells 71 (hsL (sK L n1))):=LW st0 (λx hx=>⟨hx,rfl⟩) rfl hQ0;have hR1:GM (UP.nilAt e nx) w r (.row 26 1 n1 (exG L)):=LW st0 (λx hx=>⟨hx,rfl⟩) rfl hR0;have hT1:=Qt0 e nx w 9 0 (λ_=>[]) rfl;have h:=Qu5 _ (hL n1 e0);have hs:=Zv4 (A2 L n1) n1 0 (exG L) (λ_=>[]);have hxx: ∀i,i<n1-> ∀a∈exG L i,∃u,a= .x u:=λi _ a ha=>⟨_,B2.1 ha⟩;refine (Zt1 h hs (Wm8 hid hE) hB P2 hQ1 hR1 hT1 hqr hqn hrn (S1 hR1) (S1 hT1) hxx (λi O=>absurd O (Aq i))).mono ?_;rintro en w' ⟨rfl,g1,g2,g3,ro1,g4,g5,g6,g7,g8,g9⟩;have st:Step e {UP.nilAt e nx with ro:=ro1,own:=P1 (UP.nilAt e nx) q r nx} w w':=⟨λb _ hb=>⟨g4 b hb,g3 b hb⟩,λk hk=>⟨.inr hk,rfl,(st0.live k hk).2.2⟩,g2⟩
 rw [Qe9,Xm8] at g7;have g7:GM {UP.nilAt e nx with ro:=ro1,own:=P1 (UP.nilAt e nx) q r nx} w' q (.cells 71 (hsL (sK L (n1+1)))):=by
  show GM _ w' q (.cells 71 (hsL (lnS (L n1) (sK L n1))));unfold lnS lnE;by_cases h0:P4 (lnW (L n1)) (lnN (L n1)) (sK L n1)=0;rw [if_pos h0] at g7 ⊢;exact g7;rw [if_neg h0] at g7 ⊢;exact g7
 rw [Qe9];refine ⟨_,_,_,_,_,{UP.nilAt e nx with ro:=ro1,own:=P1 (UP.nilAt e nx) q r nx},rfl,hq,g6,g1,?_,?_,λb hb=>⟨(P2 b hb).1,g5 b hb⟩,hxt.step st,.x _⟩
 intro p hp;simp only [GT,DO,or_false] at hp;rcases hp with rfl|rfl;exact g7;exact g8;rintro k (rfl|hk);exact Bk _;exact Nat.lt_succ_of_lt (hlv k hk);cases ht;cases ht;cases ht;cases ht
def cvB:GU->GU
 | .cells T [.x (.slice none 0 0),.x (.int .i64 a),.x (.int .i64 b),.x (.slice none 0 0),.x (.slice none 0 0),.x (.slice none 0 0)]=> .cells T [hsR hs0,i a,i b,hsB hs0,hsC hs0,hsS hs0]
 |r=>r
def cvM:HA->HA
 |[]=>[]
 |(k,r)::t=>(k,cvB r)::cvM t
noncomputable def Qd7:D9:=λavs m nx sv=>match oW avs m nx sv with
 |some t=>some (t.bind λp=> .leaf (p.1,cvM p.2.1,p.2.2.1,p.2.2.2))
 |none=>none
theorem Zx8{e:UP}{w:World}{k:Nat}{r:GU}(h:GM e w k r):GM e w k (cvB r):=by
 unfold cvB;split;rename_i T a b;obtain ⟨h1,h2,vs,h3,h4⟩:=h;refine ⟨h1,h2,vs,h3,?_⟩;obtain ⟨u0,us,rfl,r0,h4⟩:=h4.cons_inv;obtain ⟨u1,us,rfl,r1,h4⟩:=h4.cons_inv;obtain ⟨u2,us,rfl,r2,h4⟩:=h4.cons_inv;obtain ⟨u3,us,rfl,r3,h4⟩:=h4.cons_inv;obtain ⟨u4,us,rfl,r4,h4⟩:=h4.cons_inv;obtain ⟨u5,us,rfl,r5,h4⟩:=h4.cons_inv;obtain rfl:=h4.nil_inv;obtain rfl:=r0.x_inv;obtain rfl:=r3.x_inv;obtain rfl:=r4.x_inv;obtain rfl:=r5.x_inv;exact .cons (.lstNil _ _) (.cons r1 (.cons r2 (.cons (.lstNil _ _) (.cons (.lstNil _ _) (.cons (.lstNil _ _) (.nil _ _))))));exact h
theorem Xb0{e:UP}{w:World}: ∀{m:HA},G5 e m w->G5 e (cvM m) w
 |[],_,p,hp=>by cases hp
 |(k,r)::t,h,p,hp=>by
  rcases GT.1 hp with rfl|hp;exact Zx8 (h (k,r) GN);exact Xb0 (m:=t) (λq hq=>h q (D1 _ hq)) p hp
theorem Qk4:GH VU 48 Qd7:=by
 refine ⟨MA.1,?_⟩;intro avs m nx sv t ht Q hQ c w0 T e ds args w hE hB hm hl P2 hxt hr;unfold Qd7 at ht;split at ht;rename_i t0 h0;cases ht;refine (MA.2 _ _ _ _ _ h0 _ (VR.sat_bind hQ) c w0 T e ds args w hE hB hm hl P2 hxt hr).mono ?_;rintro en w' ⟨v,r,m',nx',sv',e',q1,q2,q3,q4,q5,q6,q7,q8,q9⟩;exact ⟨v,r,cvM m',nx',sv',e',q1,q2,q3,q4,Xb0 q5,q6,q7,q8,q9⟩;cases ht
theorem lF{L:Cf}{n:Nat}(h: ∀k,k<n->(L k).size<100000):GH VU 49 (CG L n 902):=Wm9 h
abbrev KS:AV:=lst 3 0 λk=>[iI (hs0.ql k),iI (hs0.qh k),lst 2 0 λj=>[iI (hs0.qr k j),iI (hs0.qv k j)]]
section
variable (n:Nat)(L:Cf)
def Jb8:St:={σ:=[Q6 n L,top,QD,QB,ptr 900 0,top,top,top,top,Q6 n L,iI (n:Int)]++HR 13 [],m:=[(902,GU.row 26 1 0 λx=>[]),(900,GU.cells 71 [hR 0 hs0,iI 760,iI 760,KS,hC 0 hs0,hT 0 hs0])],nx:=903}
noncomputable def Kc4:Code:=UD (VX (UB Tryz.f25) 0)
def Wq4(k:Nat):St:={σ:=H4 [(4,.ptr 900 0),(5,.row 902),(7,.top),(11,i k)] (Jb8 n L).σ,m:=[(902,.row 26 1 k (exG L)),(900,.cells 71 (hsL (sK L k)))],nx:=903}
def ES(k:Nat):G8->Option St
 | .exit 0=>some {σ:=H4 [(4,.ptr 900 0),(5,.row 902),(7,.top),(11,i n)] (Jb8 n L).σ,m:=[(902,.row 26 1 n (exG L)),(900,.cells 71 (hsL (sK L n)))],nx:=903}
 |_=>none
def Jx7:CT:= .leaf (.exit 0,(ES n L 0 (.exit 0)).getD (Jb8 n L))
def Zg5:UN:=GO [(.slot 4,900,0,2),(.slot 5,902,26,1)] (HI (Wq4 n L (0)) (Jx7 n L))
end
abbrev Y7:Prop:=ptr 900 0=ptr 900 0
noncomputable abbrev YZ(L:Cf)(n:Nat):Ext:={R:=[],H:=[(48,Qd7),(49,(CG L n 902))] }
section
variable (n:Nat)(L:Cf)
theorem Jn4(VW:n<=50)(UG: ∀k,k<n->(L k).size<100000):GD VU (.loop Kc4) (Zg5 n L):=by
 refine UV [(.slot 4,900,0,2),(.slot 5,902,26,1)] (L:=[]) Aa (Ai Ab (Ag Qk4 (Ag (lF UG) Ac))) U3 U7 (X:=Nat) (Wq4 n L) (λk=>k<=n) (λk=>n-k) (ES n L) (x0:=0) VY ?_ ?_ ?_;rintro k;kernel_rfl;rintro k y E h;unfold ES at h;split at h;cases h;kernel_rfl;cases h;rintro Q hQ k hx;refine ⟨(k+1),?_⟩;(with_reducible refine DG (t:=branch (decide ((k:Int)<(n:Int))) (need [UO k n] (need [k<n,U4 (hL (sK L k)),U4 (HP (L k)),1=1,exG L=exG L] (need [(k+1)*8<=140737488355328,RY 1 (UA 1 [iI (eK L k)])] (need [VQ ((k:Int)+1)] (need [U4 (Q6 n L),QD=QD,QB=QB,Y7,WI,U4 (Q6 n L),U4 (n:Int),(k:Int)+1=(↑(k+1):Int),k+1=k+1,GZ (k+1) (GL k (exG L) (UA 1 [iI (eK L k)])) (exG L),U4 (hR ((sK L (k+1)).nr) (sK L (k+1))),U4 ((sK L (k+1)).pl),U4 ((sK L (k+1)).ph),U4 (hY ((sK L (k+1)).nb) (sK L (k+1))),U4 (hC ((sK L (k+1)).nc) (sK L (k+1))),U4 (hT ((sK L (k+1)).ns) (sK L (k+1)))] (leaf G8.normal)))))) (need [U4 (Q6 n L),QD=QD,QB=QB,Y7,WI,U4 (Q6 n L),U4 (n:Int),(k:Int)=(n:Int),k=n,GV n (exG L),(hR ((sK L k).nr) (sK L k))=hR ((sK L n).nr) (sK L n),(sK L k).pl=(sK L n).pl,(sK L k).ph=(sK L n).ph,(hY ((sK L k).nb) (sK L k))=hY ((sK L n).nb) (sK L n),(hC ((sK L k).nc) (sK L k))=hC ((sK L n).nc) (sK L n),(hT ((sK L k).ns) (sK L k))=hT ((sK L n).ns) (sK L n)] (leaf (G8.exit 0)))) VZ ?_);simp only [Jx7,ES,VR.sat,GW] at hQ;simp only [VR.sat,UF,G6,GQ,UH,VQ,UK,H6,FW,FZ,RP,GR,ES]
 refine ⟨λh=>?_,λh=>?_⟩
 ·have hk:k<n:=VO;have hq: ∀j,j<k+1->GL k (exG L) (UA 1 [i (eK L k)]) j=exG L j:=λj hj=>Pt.catF1 (a:=eK L) hj rfl
  (with_reducible repeat' first|apply Al|intro _)
  all_goals first|exact LN|(first|exact hq _ (by assumption)|exact FP (by assumption) (by simp [AV.one,Value.oneCell']))
 ·obtain rfl:k=n:=VO
  (with_reducible repeat' first|apply Al|intro _)
  all_goals first|exact LN|(assumption)
theorem mC(VW:n<=50)(UG: ∀k,k<n->(L k).size<100000):US VU 25 [lns n L] (.leaf (.tup [.ro (hsL (sK L n)),.lst 1 n (exG L)])):=by
 refine GY (L:=[Zg5 n L]) Aa (Ai Ab (Ag Qk4 (Ag (lF UG) Ac))) U3 Tryz.func25 (UW Tryz.f25) (G0 (lpE (b:= .loop Kc4) VZ<|(Jn4 n L VW UG).N)) (t:=need [U4 (Q6 n L),QD=QD,QB=QB,Y7,WI,U4 (Q6 n L),U4 (n:Int),(0:Int)=((0:Nat):Int),0=0,GZ 0 (λi=>[]) (exG L),(hR 0 hs0)=hR 0 (sK L 0),(760:Int)=(sK L 0).pl,(760:Int)=(sK L 0).ph,(KS)=lst 3 0 λk=>[iI ((sK L 0).ql k),iI ((sK L 0).qh k),lst 2 0 λj=>[iI ((sK L 0).qr k j),iI ((sK L 0).qv k j)]],(hC 0 hs0)=hC 0 (sK L 0),(hT 0 hs0)=hT 0 (sK L 0)] (leaf (tup [AV.ro (hL (sK L n)),lst 1 n λj=>[iI (eK L j)]]))) VZ ?_
 intro Q hQ;simp only [VR.sat,UF,UK,VQ,DR] at hQ ⊢
 (with_reducible repeat' first|apply Al|intro _)
 all_goals first|exact Ak|omega|rfl|assumption|exact ⟨.tup [.ro (hsL (sK L n)),.lst 1 n (exG L)],⟨rfl,⟨rfl,rfl,λ_ _=>rfl⟩,Ak⟩,hQ⟩
end
def baG(s:HS)(k:Nat):List AV:=[i (s.ql k),i (s.qh k),.lst 2 (s.qm k) (λj=>[i (s.qr k j),i (s.qv k j)])]
def hsN(s:HS):Prop:=s.nr<=1000/\s.nb<=1000/\s.nc<=1000/\s.ns<=1000/\ ∀b,b<s.nb->s.qm b<=1000
theorem Js1(n:Nat)(a b u v:Cg):gdX 4 n (λk=>[i (a k),i (b k),i (u k),i (v k)]):=λk _=>⟨rfl,λx hx=>by
 simp only [GT,DO,or_false] at hx;rcases hx with rfl|rfl|rfl|rfl<;>exact ⟨Ak,by simp [AV.one,Value.oneCell']⟩⟩
theorem Js2(n:Nat)(a b c d:Cg)(v:Nat->Bool):gdX 5 n (λk=>[i (a k),i (b k),i (c k),i (d k),bl (v k)]):=λk _=>⟨rfl,λx hx=>by
 simp only [GT,DO,or_false] at hx;rcases hx with rfl|rfl|rfl|rfl|rfl<;>exact ⟨Ak,by simp [AV.one,Value.oneCell']⟩⟩
theorem Js0(n:Nat)(a b c d v:Cg):gdX 5 n (λk=>[i (a k),i (b k),i (c k),i (d k),i (v k)]):=λk _=>⟨rfl,λx hx=>by
 simp only [GT,DO,or_false] at hx;rcases hx with rfl|rfl|rfl|rfl|rfl<;>exact ⟨Ak,by simp [AV.one,Value.oneCell']⟩⟩
theorem Jr9(n:Nat)(a b:Cg):gdX 2 n (λk=>[i (a k),i (b k)]):=λk _=>⟨rfl,λx hx=>by
 simp only [GT,DO,or_false] at hx;rcases hx with rfl|rfl<;>exact ⟨Ak,by simp [AV.one,Value.oneCell']⟩⟩
theorem Zy4{s:HS}{k j:Nat}(hj:j<k+1):GL k (baG s) (UA 3 [i (s.ql k),i (s.qh k),.lst 2 (s.qm k) (λj=>[i (s.qr k j),i (s.qv k j)])]) j=baG s j:=by
 rcases (show j<k\/j=k by omega) with h|rfl
 show HJ (decide (j<k)) _ _=_;rw [decide_eq_true h,show j-k=0 by omega]
 rfl;show HJ (decide (j<j)) _ _=_;rw [show decide (j<j)=false by simp,Bs]
 rfl
section
variable (s:HS)
def Jd6:St:={σ:=[agg (hL s),ptr 0 0,ptr 1 0,ptr 900 0]++HR 15 [hY s.nb s,iI (↑s.nb:Int)]++HR 17 [],m:=[(901,GU.row 133 3 0 λx=>[]),(900,GU.cells 44 [hR s.nr s,iI s.pl,iI s.ph,AV.row 901,hC s.nc s,hT s.ns s]),(1,GU.cells 44 [QB,iI 0,iI 0,QB,QB,QB]),(0,GU.cells 44 (hL s))],nx:=902}
noncomputable def Ke3:Code:=UD (VX (UB Tryz.f26) 0)
def Ws6(k:Nat):St:={σ:=H4 [(3,.ptr 900 0),(5,.top),(21,i k)] (Jd6 s).σ,m:=[(901,.row 133 3 k (baG s)),(900,.cells 44 [hsR s,i s.pl,i s.ph,.row 901,hsC s,hsS s]),(1,(.cells 44 [.x (.slice none 0 0),i 0,i 0,.x (.slice none 0 0),.x (.slice none 0 0),.x (.slice none 0 0)])),(0,.cells 44 (hsL s))],nx:=902}
def IB(k:Nat):G8->Option St
 | .exit 0=>some {σ:=H4 [(3,.ptr 900 0),(5,.top),(21,i s.nb)] (Jd6 s).σ,m:=[(901,.row 133 3 s.nb (baG s)),(900,.cells 44 [hsR s,i s.pl,i s.ph,.row 901,hsC s,hsS s]),(1,(.cells 44 [.x (.slice none 0 0),i 0,i 0,.x (.slice none 0 0),.x (.slice none 0 0),.x (.slice none 0 0)])),(0,.cells 44 (hsL s))],nx:=902}
 |_=>none
def Jz9:CT:= .leaf (.exit 0,(IB s 0 (.exit 0)).getD (Jd6 s))
def Zj0:UN:=GO [(.slot 3,900,0,2),(.cell 900 3,901,133,3)] (HI (Ws6 s (0)) (Jz9 s))
abbrev Y8:List (Nat×G4):=[(50,Qc3),(51,Qc4),(52,Qc2),(53,Qc1)]
theorem Ju2(VW:hsN s):GD VU (.loop Ke3) (Zj0 s):=by
 refine UV [(.slot 3,900,0,2),(.cell 900 3,901,133,3)] (L:=[]) (Ae Qi5 (Ae Qi6 (Ae Qi4 (Ae Qi3 Aa)))) Ad U3 U7 (X:=Nat) (Ws6 s) (λk=>k<=s.nb) (λk=>s.nb-k) (IB s) (x0:=0) VY ?_ ?_ ?_;rintro k;kernel_rfl;rintro k y E h;unfold IB at h;split at h;cases h;kernel_rfl;cases h;rintro Q hQ k hx;refine ⟨(k+1),?_⟩;(with_reducible refine DG (t:=let z0:=(lst 2 (s.qm k) λj=>[iI (s.qr k j),iI (s.qv k j)]);(branch (decide ((k:Int)<(↑s.nb:Int))) (need [UO k s.nb] (need [s.qm k<=100000,gdX 2 (s.qm k) λj=>[iI (s.qr k j),iI (s.qv k j)]] (need [(k+1)*40<=140737488355328,RY 1 (UA 3 [iI (s.ql k),iI (s.qh k),z0])] (need [VQ ((k:Int)+1)] (need [U4 (agg (hL s)),QO,XY,Y7,XW s,U4 (↑s.nb:Int),(k:Int)+1=(↑(k+1):Int),k+1=k+1,GZ (k+1) (GL k (baG s) (UA 3 [iI (s.ql k),iI (s.qh k),z0])) (baG s),XI s,JQ s,JR s,W8,XO s,XP s,QB=QB,QU,QU,QB=QB,QB=QB,QB=QB,XI s,JQ s,JR s,XW s,XO s,XP s] (leaf G8.normal)))))) (need [U4 (agg (hL s)),QO,XY,Y7,XW s,U4 (↑s.nb:Int),(k:Int)=(↑s.nb:Int),k=s.nb,∀(i:Nat),i<s.nb->baG s i=baG s i,XI s,JQ s,JR s,W8,XO s,XP s,QB=QB,QU,QU,QB=QB,QB=QB,QB=QB,XI s,JQ s,JR s,XW s,XO s,XP s] (leaf (G8.exit 0))))) VZ ?_)
 simp only [Jz9,IB,VR.sat,GW] at hQ;simp only [VR.sat,UF,G6,GQ,UH,VQ,UK,H6,FW,FZ,RP,GR,IB]
 obtain ⟨h1,h2,h3,h4,h5⟩:=VW;refine ⟨λh=>?_,λh=>?_⟩
 ·have hk:k<s.nb:=VO;have h6:=h5 k hk
  (with_reducible repeat' first|apply Al|intro _)
  all_goals first|exact LN|(first|exact Jr9 _ _ _|exact FP (by assumption) (by simp [AV.one,Value.oneCell'])|exact Zy4 (by assumption))
 obtain rfl:k=s.nb:=VO;exact V1
theorem tQ(VW:hsN s):US VU 26 [.agg (hsL s)] (.leaf (.agg (hsL s))):=by
 refine GY (L:=[Zj0 s]) (Ae Qi5 (Ae Qi6 (Ae Qi4 (Ae Qi3 Aa)))) Ad U3 Tryz.func26 (UW Tryz.f26) (G0 (lpE (b:= .loop Ke3) VZ<|(Ju2 s VW).N)) (t:=need [s.nr<=100000,gdX 4 s.nr λk=>[Bo.i (s.ra k),Bo.i (s.rb k),Bo.i (s.ru k),Bo.i (s.rv k)]] (need [s.nc<=100000,gdX 5 s.nc λk=>[i (s.ca k),i (s.cb k),i (s.cc k),i (s.cd k),bl (s.cv k)]] (need [s.ns<=100000,gdX 5 s.ns λk=>[i (s.sa k),i (s.sb k),i (s.sc k),i (s.sl k),i (s.sh k)]] (need [U4 (agg (hL s)),QO,XY,Y7,XW s,U4 (↑s.nb:Int),(0:Int)=((0:Nat):Int),0=0,GZ 0 (λi=>[]) (baG s),XI s,JQ s,JR s,W8,XO s,XP s,QB=QB,QU,QU,QB=QB,QB=QB,QB=QB,XI s,JQ s,JR s,XW s,XO s,XP s] (leaf (agg (hL s))))))) VZ ?_
 intro Q hQ;simp only [VR.sat,UF,UK,VQ,DR] at hQ ⊢;obtain ⟨h1,h2,h3,h4,h5⟩:=VW
 (with_reducible repeat' first|apply Al|intro _)
 all_goals first|exact Ak|omega|exact Js1 _ _ _ _ _|exact Js2 _ _ _ _ _ _|exact Js0 _ _ _ _ _ _|rfl|assumption|(rename_i h;exact absurd h (Aq _))|exact ⟨.agg (hsL s),⟨⟨rfl,rfl,λ_ _=>rfl⟩,⟨rfl,rfl⟩,⟨rfl,rfl⟩,⟨rfl,rfl,λ_ _=>rfl⟩,⟨rfl,rfl,λ_ _=>rfl⟩,⟨rfl,rfl,λ_ _=>rfl⟩,Ak⟩,hQ⟩
end
section
variable (n:Nat)(a b c U O:Cg)
def hoS(ow Z:Int):Int×Int:=hoF n a b c (eD n a b c U O (2^n)) (lS n a b c U O (2^n-1)) ow Z (2^n)
theorem Qs5(ow Z:Int)(VW:sV n a b c U O):US VU 39 [.agg [i 4,i 10,sls n a b c U O],i ow,i Z] (.branch (bt 0 ow 3&&bt 0 Z 100) (.branch (!jL n a b c U O) (.leaf (.tup [.agg [i 0,i 0],i 9])) (.leaf (.tup [.agg [i (hoS n a b c U O ow Z).1,i (hoS n a b c U O ow Z).2],i 0]))) (.leaf (.tup [.agg [i 0,i 0],i 2]))):=by
 refine GY (L:=[]) (Ae j5 (Ae C0 (Ae (uI n a b c U O (eD n a b c U O (2^n)) (lS n a b c U O (2^n-1)) VW) Aa))) (Aj Ab Ac (Ah (uG n a b c U O VW) (UJ.nil _))) U3 Tryz.func39 (UW Tryz.f39) G9 (t:=let z6:=(lst 1 (2^n) λz=>[iI (eD n a b c U O (2^n) z)]);let z5:=(lst 1 (2^n) λz=>[iI (lS n a b c U O (2^n-1) z)]);let S:=(hoF n a b c (eD n a b c U O (2^n)) (lS n a b c U O (2^n-1)) ow Z (2^n));let z4:=(leaf (tup [agg [iI (Prod.fst S),iI (Prod.snd S)],iI 0]));let z0:=(need [AV.x (Y9)=AV.ro [iI 4,iI 10,Q0 n a b c U O,z6,z5],(0:Int)<=ow/\ow<4] z4);let I:=(branch (!jL n a b c U O) (branch ((9:Int) != 0) (leaf (tup [agg JP,iI 9])) z0) (branch ((0:Int) != 0) (leaf (tup [agg JP,iI 0])) (need [U4 (AV.ro [iI 4,iI 10,Q0 n a b c U O,z6,z5]),(0:Int)<=ow/\ow<4] z4)));let z3:=(branch ((2:Int) != 0) (leaf (tup [agg JP,iI 2])) z0);(need [VQ ((4:Int)-1)] (branch (bt (0:Int) ow ((4:Int)-1)) (need [QP n a b c U O] (branch (!bt (0:Int) Z (100:Int)) z3 I)) (need [QP n a b c U O] (branch (!false) z3 I))))) VZ ?_;intro Q hQ;simp only [VR.sat,UF,UK] at hQ ⊢;have rp: ∀x y z:Int,FN (.tup [.agg [i x,i y],i z]) (.tup [.agg [i x,i y],i z]):=λx y z=>⟨⟨⟨rfl,rfl⟩,⟨rfl,rfl⟩,Ak⟩,⟨rfl,rfl⟩,Ak⟩;rw [show (4:Int)-1=3 from rfl];cases h1:bt 0 ow 3<;>cases h2:bt 0 Z 100<;>cases h3:jL n a b c U O<;>rw [h1,h2] at hQ<;>rw [h3] at hQ;all_goals (with_reducible repeat' first|apply Al|intro _)
 all_goals first
  |(simp only [VQ];omega)
  |(exfalso;rename_i h;revert h;decide)
  |(exfalso;rename_i h _;revert h;decide)
  |(exfalso;rename_i h _ _;revert h;decide)
  |(exfalso;rename_i h _ _ _;revert h;decide)
  |(have:=(Bo.bt_iff _ _ _).1 h1;omega)
  |exact ⟨_,rp _ _ _,hQ.2 rfl⟩
  |exact ⟨_,rp _ _ _,(hQ.1 rfl).1 rfl⟩
  |exact ⟨_,rp _ _ _,(hQ.1 rfl).2 rfl⟩
def caB(Z:Int)(ow:Nat):Bool:=decide ((hoS n a b c U O ow Z).2>0)
def suB(Z:Int)(ow:Nat):Bool:=decide ((hoS n a b c U O ow Z).1>0)
def Qe2(Z:Int):St:={σ:=[agg (ZV n a b c U O),iI Z,ptr 0 0,top,top,top,iI 0,AV.ro [iI 4,iI 10,Q0 n a b c U O,lst 1 (2^n) λz=>[iI (eD n a b c U O (2^n) z)],lst 1 (2^n) λz=>[iI (lS n a b c U O (2^n-1) z)]]]++HR 13 [iI 4]++HR 24 [],m:=[(902,YA),(901,YA),(0,GU.cells 84 (ZV n a b c U O))],nx:=903}
noncomputable def Wa8:Code:=UD (VX (UB Tryz.f31) 0)
def IW(Z:Int)(k:Nat):St:={σ:=H4 [(4,.row 901),(5,.row 902),(8,.top),(9,.top),(22,i k)] (Qe2 n a b c U O Z).σ,m:=[(902,.row 3 1 (GG (suB n a b c U O Z) (k)) (λz=>[i (UZ (suB n a b c U O Z) 4 z)])),(901,.row 3 1 (GG (caB n a b c U O Z) (k)) (λz=>[i (UZ (caB n a b c U O Z) 4 z)])),(0,.cells 84 [i 4,i 10,sls n a b c U O])],nx:=903}
def qW(Z:Int)(k:Nat):G8->Option St
 | .exit 0=>some {σ:=H4 [(4,.row 901),(5,.row 902),(8,.top),(9,.top),(22,i 4)] (Qe2 n a b c U O Z).σ,m:=[(902,.row 3 1 (GG (suB n a b c U O Z) (4)) (λz=>[i (UZ (suB n a b c U O Z) 4 z)])),(901,.row 3 1 (GG (caB n a b c U O Z) (4)) (λz=>[i (UZ (caB n a b c U O Z) 4 z)])),(0,.cells 84 [i 4,i 10,sls n a b c U O])],nx:=903}
 |_=>none
def Xe7(Z:Int):CT:= .leaf (.exit 0,(qW n a b c U O Z 0 (.exit 0)).getD (Qe2 n a b c U O Z))
def oO(Z:Int):UN:=GO [(.slot 4,901,3,1),(.slot 5,902,3,1)] (HI (IW n a b c U O Z (0)) (Xe7 n a b c U O Z))
theorem Wj2(Z:Int)(VW:sV n a b c U O):GD VU (.loop Wa8) (oO n a b c U O Z):=by
 refine jD [(.slot 4,901,3,1),(.slot 5,902,3,1)] (L:=[]) (Ae C0 (Ae (uI n a b c U O (eD n a b c U O (2^n)) (lS n a b c U O (2^n-1)) VW) Aa)) U3 U7 (X:=Nat) (IW n a b c U O Z) (λk=>k<=4) (λk=>4-k) (qW n a b c U O Z) (x0:=0) VY ?_ ?_ ?_;rintro k;kernel_rfl;rintro k y E h;unfold qW at h;split at h;cases h;kernel_rfl;cases h;rintro Q hQ k hx;refine ⟨(k+1),?_⟩;(with_reducible refine DG (t:=let z0:=(U4 (AV.ro [iI 4,iI 10,Q0 n a b c U O,lst 1 (2^n) λz=>[iI (eD n a b c U O (2^n) z)],lst 1 (2^n) λz=>[iI (lS n a b c U O (2^n-1) z)]]));let I:=suB n a b c U O Z;let S:=caB n a b c U O Z;let z3:=(hoF n a b c (eD n a b c U O (2^n)) (lS n a b c U O (2^n-1)) (k:Int) Z (2^n));let z4:=(UA 1 [iI (k:Int)]);let z5:=QP n a b c U O;let z6:=W2 n a b c U O;(branch (decide ((k:Int)<4)) (need [z0,(0:Int)<=(k:Int)/\(k:Int)<4] (branch (decide (Prod.snd z3>0)) (need [(GG (S) k+1)*8<=140737488355328,RY 1 (UA 1 [iI (k:Int)])] (branch (decide (Prod.fst z3>0)) (need [(GG (I) k+1)*8<=140737488355328,RY 1 (UA 1 [iI (k:Int)])] (need [VQ ((k:Int)+1)] (need [z5,Z=Z,QO,W8,WI,QU,z0,QZ,(k:Int)+1=(↑(k+1):Int),GG (I) k+1=GG (I) (k+1),∀(i:Nat),i<GG (I) (k+1)->GL (GG (I) k) (λz=>[iI (↑(UZ (I) 4 z):Int)]) z4 i=[iI (↑(UZ (I) 4 i):Int)],GG (S) k+1=GG (S) (k+1),∀(i:Nat),i<GG (S) (k+1)->GL (GG (S) k) (λz=>[iI (↑(UZ (S) 4 z):Int)]) z4 i=[iI (↑(UZ (S) 4 i):Int)],QZ,WC,z6] (leaf G8.normal)))) (need [VQ ((k:Int)+1)] (need [z5,Z=Z,QO,W8,WI,QU,z0,QZ,(k:Int)+1=(↑(k+1):Int),GG (I) k=GG (I) (k+1),∀(i:Nat),i<GG (I) (k+1)->[iI (↑(UZ (I) 4 i):Int)]=[iI (↑(UZ (I) 4 i):Int)],GG (S) k+1=GG (S) (k+1),∀(i:Nat),i<GG (S) (k+1)->GL (GG (S) k) (λz=>[iI (↑(UZ (S) 4 z):Int)]) z4 i=[iI (↑(UZ (S) 4 i):Int)],QZ,WC,z6] (leaf G8.normal))))) (branch (decide (Prod.fst z3>0)) (need [(GG (I) k+1)*8<=140737488355328,RY 1 (UA 1 [iI (k:Int)])] (need [VQ ((k:Int)+1)] (need [z5,Z=Z,QO,W8,WI,QU,z0,QZ,(k:Int)+1=(↑(k+1):Int),GG (I) k+1=GG (I) (k+1),∀(i:Nat),i<GG (I) (k+1)->GL (GG (I) k) (λz=>[iI (↑(UZ (I) 4 z):Int)]) z4 i=[iI (↑(UZ (I) 4 i):Int)],GG (S) k=GG (S) (k+1),∀(i:Nat),i<GG (S) (k+1)->[iI (↑(UZ (S) 4 i):Int)]=[iI (↑(UZ (S) 4 i):Int)],QZ,WC,z6] (leaf G8.normal)))) (need [VQ ((k:Int)+1)] (need [z5,Z=Z,QO,W8,WI,QU,z0,QZ,(k:Int)+1=(↑(k+1):Int),GG (I) k=GG (I) (k+1),∀(i:Nat),i<GG (I) (k+1)->[iI (↑(UZ (I) 4 i):Int)]=[iI (↑(UZ (I) 4 i):Int)],GG (S) k=GG (S) (k+1),∀(i:Nat),i<GG (S) (k+1)->[iI (↑(UZ (S) 4 i):Int)]=[iI (↑(UZ (S) 4 i):Int)],QZ,WC,z6] (leaf G8.normal)))))) (need [z5,Z=Z,QO,W8,WI,QU,z0,QZ,(k:Int)=4,GG (I) k=GG (I) 4,∀(i:Nat),i<GG (I) 4->[iI (↑(UZ (I) 4 i):Int)]=[iI (↑(UZ (I) 4 i):Int)],GG (S) k=GG (S) 4,∀(i:Nat),i<GG (S) 4->[iI (↑(UZ (S) 4 i):Int)]=[iI (↑(UZ (S) 4 i):Int)],QZ,WC,z6] (leaf (G8.exit 0))))) VZ ?_)
 simp only [Xe7,qW,VR.sat,GW] at hQ;simp only [VR.sat,UF,G6,GQ,UH,VQ,UK,H6,FW,FZ,RP,GR,qW]
 have hB: ∀(p:Nat->Bool) (k:Nat),GG p k<=k:=cE;have b1:=hB (caB n a b c U O Z) k;have b2:=hB (suB n a b c U O Z) k;refine ⟨λh=>?_,λh=>?_⟩;have hk:k<4:=VO;have hq: ∀(p:Nat->Bool),p k=true-> ∀j,j<GG p (k+1)->GL (GG p k) (λz=>[i (UZ p 4 z)]) (UA 1 [i k]) j=[i (UZ p 4 j)]:=by
  intro p hp j hj;rw [FV hp] at hj;exact Pt.catF1 (a:=λz=>((UZ p 4 z:Nat):Int)) hj (by show (k:Int)=((UZ p 4 (GG p k):Nat):Int);rw [wJ hk hp])
 cases hc:caB n a b c U O Z k<;>cases hs:suB n a b c U O Z k
 ·have e1:=L3 hc;have e2:=L3 hs;have hc':=of_decide_eq_false hc;have hs':=of_decide_eq_false hs
  (with_reducible repeat' first|apply Al|intro _)
  all_goals first|exact LN|(first|exact absurd (by assumption) hc'|exact absurd (by assumption) hs'|exact FP (by assumption) (by simp [AV.one,Value.oneCell']))
 ·have e1:=L3 hc;have e2:=FV hs;have hc':=of_decide_eq_false hc;have hs':=wC hs
  (with_reducible repeat' first|apply Al|intro _)
  all_goals first|exact LN|(first|exact absurd (by assumption) hc'|contradiction|exact FP (by assumption) (by simp [AV.one,Value.oneCell'])|exact hq _ hs _ (by assumption))
 ·have e1:=FV hc;have e2:=L3 hs;have hc':=wC hc;have hs':=of_decide_eq_false hs
  (with_reducible repeat' first|apply Al|intro _)
  all_goals first|exact LN|(first|exact absurd (by assumption) hs'|contradiction|exact FP (by assumption) (by simp [AV.one,Value.oneCell'])|exact hq _ hc _ (by assumption))
 ·have e1:=FV hc;have e2:=FV hs;have hc':=wC hc;have hs':=wC hs
  (with_reducible repeat' first|apply Al|intro _)
  all_goals first|exact LN|(first|contradiction|exact FP (by assumption) (by simp [AV.one,Value.oneCell'])|exact hq _ hc _ (by assumption)|exact hq _ hs _ (by assumption))
 obtain rfl:k=4:=VO;exact V1
theorem Qs3(Z:Int)(VW:sV n a b c U O):US VU 31 [.agg [i 4,i 10,sls n a b c U O],i Z] (.branch (!bt 0 Z 100) (.leaf (.tup [.x (.slice none 0 0),.x (.slice none 0 0),i 2])) (.branch (!jL n a b c U O) (.leaf (.tup [.x (.slice none 0 0),.x (.slice none 0 0),i 9])) (.leaf (.tup [.lst 1 (GG (caB n a b c U O Z) 4) (λz=>[i (UZ (caB n a b c U O Z) 4 z)]),.lst 1 (GG (suB n a b c U O Z) 4) (λz=>[i (UZ (suB n a b c U O Z) 4 z)]),i 0])))):=by
 refine GY (L:=[oO n a b c U O Z]) (Ae C0 (Ae (uI n a b c U O (eD n a b c U O (2^n)) (lS n a b c U O (2^n-1)) VW) Aa)) (Aj Ab Ac (Ah (uG n a b c U O VW) (UJ.nil _))) U3 Tryz.func31 (UW Tryz.f31) (G0 (lpE (b:= .loop Wa8) VZ<|(Wj2 n a b c U O Z VW).N)) (t:=let S:=caB n a b c U O Z;let I:=suB n a b c U O Z;let z0:=(leaf (tup [lst 1 (GG (S) 4) λz=>[iI (↑(UZ (S) 4 z):Int)],lst 1 (GG (I) 4) λz=>[iI (↑(UZ (I) 4 z):Int)],iI 0]));let z3:=(lst 1 (2^n) λz=>[iI (lS n a b c U O (2^n-1) z)]);let z4:=(lst 1 (2^n) λz=>[iI (eD n a b c U O (2^n) z)]);(need [QP n a b c U O] (branch (!bt (0:Int) Z (100:Int)) (branch ((2:Int) != 0) (leaf (tup [QB,QB,iI 2])) (need [QP n a b c U O,Z=Z,QO,W8,WI,(2:Int)=0,AV.x (Y9)=AV.ro [iI 4,iI 10,Q0 n a b c U O,z4,z3],QZ,(0:Int)=((0:Nat):Int),0=GG (I) 0,∀(i:Nat),i<GG (I) 0->[]=[iI (↑(UZ (I) 4 i):Int)],0=GG (S) 0,∀(i:Nat),i<GG (S) 0->[]=[iI (↑(UZ (S) 4 i):Int)],QZ,WC,W2 n a b c U O] z0)) (branch (!jL n a b c U O) (branch ((9:Int) != 0) (leaf (tup [QB,QB,iI 9])) (need [QP n a b c U O,Z=Z,QO,W8,WI,(9:Int)=0,AV.x (Y9)=AV.ro [iI 4,iI 10,Q0 n a b c U O,z4,z3],QZ,(0:Int)=((0:Nat):Int),0=GG (I) 0,∀(i:Nat),i<GG (I) 0->[]=[iI (↑(UZ (I) 4 i):Int)],0=GG (S) 0,∀(i:Nat),i<GG (S) 0->[]=[iI (↑(UZ (S) 4 i):Int)],QZ,WC,W2 n a b c U O] z0)) (branch ((0:Int) != 0) (leaf (tup [QB,QB,iI 0])) (need [QP n a b c U O,Z=Z,QO,W8,WI,QU,U4 (AV.ro [iI 4,iI 10,Q0 n a b c U O,z4,z3]),QZ,(0:Int)=((0:Nat):Int),0=GG (I) 0,∀(i:Nat),i<GG (I) 0->[]=[iI (↑(UZ (I) 4 i):Int)],0=GG (S) 0,∀(i:Nat),i<GG (S) 0->[]=[iI (↑(UZ (S) 4 i):Int)],QZ,WC,W2 n a b c U O] z0)))))) VZ ?_
 intro Q hQ;simp only [VR.sat,UF,UK] at hQ ⊢;have rn: ∀z:Int,FN (.tup [.x (.slice none 0 0),.x (.slice none 0 0),i z]) (.tup [.x (.slice none 0 0),.x (.slice none 0 0),i z]):=λz=>⟨rfl,rfl,⟨rfl,rfl⟩,Ak⟩;have rl:FN (.tup [.lst 1 (GG (caB n a b c U O Z) 4) (λz=>[i (UZ (caB n a b c U O Z) 4 z)]),.lst 1 (GG (suB n a b c U O Z) 4) (λz=>[i (UZ (suB n a b c U O Z) 4 z)]),i 0]) (.tup [.lst 1 (GG (caB n a b c U O Z) 4) (λz=>[i (UZ (caB n a b c U O Z) 4 z)]),.lst 1 (GG (suB n a b c U O Z) 4) (λz=>[i (UZ (suB n a b c U O Z) 4 z)]),i 0]):=⟨⟨rfl,rfl,λ_ _=>rfl⟩,⟨rfl,rfl,λ_ _=>rfl⟩,⟨rfl,rfl⟩,Ak⟩;cases h2:bt 0 Z 100<;>cases h3:jL n a b c U O<;>rw [h2] at hQ<;>rw [h3] at hQ;all_goals (with_reducible repeat' first|apply Al|intro _)
 all_goals first
  |(exfalso;rename_i h;revert h;decide)
  |(exfalso;rename_i h _;revert h;decide)
  |(exfalso;rename_i h _ _;revert h;decide)
  |(exfalso;rename_i h _ _ _;revert h;decide)
  |rfl
  |(rename_i h;exact absurd h (Aq _))
  |exact ⟨_,rn _,hQ.1 rfl⟩
  |exact ⟨_,rn _,(hQ.2 rfl).1 rfl⟩
  |exact ⟨_,rl,(hQ.2 rfl).2 rfl⟩
def Xg8(Z:Int):DP:=λl=>some (.need [l=[.agg [i 4,i 10,sls n a b c U O],i Z]] (.branch (!bt 0 Z 100) (.leaf (.tup [.x (.slice none 0 0),.x (.slice none 0 0),i 2])) (.branch (!jL n a b c U O) (.leaf (.tup [.x (.slice none 0 0),.x (.slice none 0 0),i 9])) (.leaf (.tup [.lst 1 (GG (caB n a b c U O Z) 4) (λz=>[i (UZ (caB n a b c U O Z) 4 z)]),.lst 1 (GG (suB n a b c U O Z) 4) (λz=>[i (UZ (suB n a b c U O Z) 4 z)]),i 0])))))
theorem s7(Z:Int)(VW:sV n a b c U O):Sx.Enters Tryz.prog 31/\ ∀avs t,Xg8 n a b c U O Z avs=some t->US VU 31 avs t:=by
 refine ⟨(UM Tryz.func31),?_⟩;intro avs t h;cases h;intro Q hQ;have e:=hQ.1
 dsimp only [UF] at e
 subst e;exact Qs3 n a b c U O Z VW Q hQ.2
end
section
variable (n:Nat)(L:Cf)
def Xh2:DP:=λl=>some (.need [l=[lns n L],ckE n L=0] (.leaf (.tup [.ro (hsL (sK L n)),.lst 1 n (exG L)])))
def Qc9:DP:=λl=>some (.need [l=[.agg (hsL (sK L n))]] (.leaf (.agg (hsL (sK L n)))))
end
theorem nF{n:Nat}{L:Cf}(h:ckE n L=0):n<=50/\ ∀k,k<n->(L k).size<=200:=by
 unfold ckE at h;split at h;rename_i h1;refine ⟨h1.1,λk hk=>?_⟩;have h2:=wC (H3.1 h1.2 k hk);omega;exact absurd h (by decide)
theorem Zv5{s:HS}(h:rT s):hsN s:=⟨by have:=h.nr;omega,by have:=h.bV.1.1;omega,by have:=h.nc;omega,by have:=h.sV.1;omega,λb hb=>by have:=(h.bV.1.2 b hb).1;omega⟩
section
variable (n:Nat)(L:Cf)
theorem zC:Sx.Enters Tryz.prog 25/\ ∀avs t,Xh2 n L avs=some t->US VU 25 avs t:=by
 refine ⟨(UM Tryz.func25),?_⟩;intro avs t h;cases h;intro Q hQ;have e:avs=[lns n L]:=hQ.1.1;have h0:ckE n L=0:=hQ.1.2;subst e;have hk:=nF h0;exact mC n L hk.1 (λk h=>by have:=hk.2 k h;omega) Q hQ.2
theorem mK:Sx.Enters Tryz.prog 26/\ ∀avs t,Qc9 n L avs=some t->US VU 26 avs t:=by
 refine ⟨(UM Tryz.func26),?_⟩;intro avs t h;cases h;intro Q hQ;have e:avs=[.agg (hsL (sK L n))]:=hQ.1;subst e;exact tQ (sK L n) (Zv5 (A2 L n)) Q hQ.2
end
theorem Qi2(s:HS):FN (.agg (hsL s)) (.agg (hsL s)):=⟨⟨rfl,rfl,λ_ _=>rfl⟩,⟨rfl,rfl⟩,⟨rfl,rfl⟩,⟨rfl,rfl,λ_ _=>rfl⟩,⟨rfl,rfl,λ_ _=>rfl⟩,⟨rfl,rfl,λ_ _=>rfl⟩,Ak⟩
section
variable (n:Nat)(L:Cf)
abbrev KD:Prop:=[Q6 n L]=[Q6 n L]
theorem Wx0(VW:n<=100):US VU 13 [lns n L] (.branch (ckE n L != 0) (.leaf (.tup [.agg [.x (.slice none 0 0),i 0,i 0,.x (.slice none 0 0),.x (.slice none 0 0),.x (.slice none 0 0)],.x (.slice none 0 0),i (ckE n L)])) (.leaf (.tup [.agg (hsL (sK L n)),.lst 1 n (exG L),i 0]))):=by
 refine GY (L:=[]) (Ae (BC n L VO) Aa) (Aj Ab Ac (Ah (zC n L) (Ah (mK n L) (UJ.nil _)))) U3 Tryz.func13 (UW Tryz.f13) G9 (t:=need [(KD n L)] (branch (ckE n L != 0) (leaf (tup [agg [QB,iI 0,iI 0,QB,QB,QB],QB,iI (ckE n L)])) (need [(KD n L),ckE n L=0] (need [U4 ([agg (hL (sK L n))])] (leaf (tup [agg (hL (sK L n)),lst 1 n λj=>[iI (eK L j)],iI 0])))))) VZ ?_;intro Q hQ;simp only [VR.sat,UF,UK,VQ,DR] at hQ ⊢;refine ⟨λh=>⟨.tup [.agg [.x (.slice none 0 0),i 0,i 0,.x (.slice none 0 0),.x (.slice none 0 0),.x (.slice none 0 0)],.x (.slice none 0 0),i (ckE n L)],⟨⟨rfl,⟨rfl,rfl⟩,⟨rfl,rfl⟩,rfl,rfl,rfl,Ak⟩,rfl,⟨rfl,rfl⟩,Ak⟩,hQ.1 h⟩,λh=>?_⟩;have h0:ckE n L=0:=by simpa using h
 (with_reducible repeat' first|apply Al|intro _)
 all_goals first|exact Ak|exact h0|rfl|(exact ⟨.tup [.agg (hsL (sK L n)),.lst 1 n (exG L),i 0],⟨Qi2 _,⟨rfl,rfl,λ_ _=>rfl⟩,⟨rfl,rfl⟩,Ak⟩,hQ.2 h⟩)
theorem mO(VW:n<=100):US VU 15 [lns n L] (.branch (ckE n L != 0) (.leaf (.tup [.x (.slice none 0 0),i (ckE n L)])) (.leaf (.tup [.lst 2 (boN (sK L n).nb (sK L n).ql (sK L n).qh (sK L n).qm (sK L n).qr (sK L n).qv) (λk=>[i (boL (sK L n).nb (sK L n).ql (sK L n).qh (sK L n).qm (sK L n).qr (sK L n).qv k),i (boH (sK L n).nb (sK L n).ql (sK L n).qh (sK L n).qm (sK L n).qr (sK L n).qv k)]),i (boE (sK L n).nb (sK L n).ql (sK L n).qh (sK L n).qm (sK L n).qr (sK L n).qv)]))):=by
 refine GY (L:=[]) (Ae (BC n L VO) (Ae (cH (sK L n).nb (sK L n).ql (sK L n).qh (sK L n).qm (sK L n).qr (sK L n).qv (A2 L n).bV) Aa)) (Aj (Af RK Ab) Ac (Ah (zC n L) (UJ.nil _))) U3 Tryz.func15 (UW Tryz.f15) G9 (t:=need [(KD n L)] (branch (ckE n L != 0) (leaf (tup [QB,iI (ckE n L)])) (need [(KD n L),ckE n L=0] (need [U4 ([agg [lst 2 3 λk=>[iI (oL k),iI (oH k)],iI 1,hY ((sK L n).nb) (sK L n)]])] (leaf (tup [lst 2 (boN ((sK L n).nb) ((sK L n).ql) ((sK L n).qh) ((sK L n).qm) ((sK L n).qr) ((sK L n).qv)) λk=>[iI (boL ((sK L n).nb) ((sK L n).ql) ((sK L n).qh) ((sK L n).qm) ((sK L n).qr) ((sK L n).qv) k),iI (boH ((sK L n).nb) ((sK L n).ql) ((sK L n).qh) ((sK L n).qm) ((sK L n).qr) ((sK L n).qv) k)],iI (boE ((sK L n).nb) ((sK L n).ql) ((sK L n).qh) ((sK L n).qm) ((sK L n).qr) ((sK L n).qv))])))))) VZ ?_;intro Q hQ;simp only [VR.sat,UF,UK,VQ,DR] at hQ ⊢;refine ⟨λh=>⟨.tup [.x (.slice none 0 0),i (ckE n L)],⟨rfl,⟨rfl,rfl⟩,Ak⟩,hQ.1 h⟩,λh=>?_⟩;have h0:ckE n L=0:=by simpa using h
 (with_reducible repeat' first|apply Al|intro _)
 all_goals first|exact Ak|exact h0|rfl|(exact ⟨.tup [.lst 2 (boN (sK L n).nb (sK L n).ql (sK L n).qh (sK L n).qm (sK L n).qr (sK L n).qv) (λk=>[i (boL (sK L n).nb (sK L n).ql (sK L n).qh (sK L n).qm (sK L n).qr (sK L n).qv k),i (boH (sK L n).nb (sK L n).ql (sK L n).qh (sK L n).qm (sK L n).qr (sK L n).qv k)]),i (boE (sK L n).nb (sK L n).ql (sK L n).qh (sK L n).qm (sK L n).qr (sK L n).qv)],⟨⟨rfl,rfl,λ_ _=>rfl⟩,⟨rfl,rfl⟩,Ak⟩,hQ.2 h⟩)
theorem Qx0(Z:Int)(VW:n<=100):US VU 17 [lns n L,i Z] (.branch (ckE n L != 0) (.leaf (.tup [.x (.slice none 0 0),.x (.slice none 0 0),i (ckE n L)])) (.branch (!bt 0 Z 100) (.leaf (.tup [.x (.slice none 0 0),.x (.slice none 0 0),i 2])) (.branch (!jL (sK L n).ns (sK L n).sa (sK L n).sb (sK L n).sc (sK L n).sl (sK L n).sh) (.leaf (.tup [.x (.slice none 0 0),.x (.slice none 0 0),i 9])) (.leaf (.tup [.lst 1 (GG (caB (sK L n).ns (sK L n).sa (sK L n).sb (sK L n).sc (sK L n).sl (sK L n).sh Z) 4) (λz=>[i (UZ (caB (sK L n).ns (sK L n).sa (sK L n).sb (sK L n).sc (sK L n).sl (sK L n).sh Z) 4 z)]),.lst 1 (GG (suB (sK L n).ns (sK L n).sa (sK L n).sb (sK L n).sc (sK L n).sl (sK L n).sh Z) 4) (λz=>[i (UZ (suB (sK L n).ns (sK L n).sa (sK L n).sb (sK L n).sc (sK L n).sl (sK L n).sh Z) 4 z)]),i 0]))))):=by
 refine GY (L:=[]) (Ae (BC n L VO) Aa) (Aj (Af PD Ab) Ac (Ah (zC n L) (Ah (s7 (sK L n).ns (sK L n).sa (sK L n).sb (sK L n).sc (sK L n).sl (sK L n).sh Z (A2 L n).sV) (UJ.nil _)))) U3 Tryz.func17 (UW Tryz.f17) G9 (t:=let z0:=(caB ((sK L n).ns) ((sK L n).sa) ((sK L n).sb) ((sK L n).sc) ((sK L n).sl) ((sK L n).sh) Z);let I:=(suB ((sK L n).ns) ((sK L n).sa) ((sK L n).sb) ((sK L n).sc) ((sK L n).sl) ((sK L n).sh) Z);(need [(KD n L)] (branch (ckE n L != 0) (leaf (tup [QB,QB,iI (ckE n L)])) (need [(KD n L),ckE n L=0] (need [U4 ([agg [iI 4,iI 10,hT ((sK L n).ns) (sK L n)],iI Z])] (branch (!bt (0:Int) Z (100:Int)) (leaf (tup [QB,QB,iI 2])) (branch (!jL ((sK L n).ns) ((sK L n).sa) ((sK L n).sb) ((sK L n).sc) ((sK L n).sl) ((sK L n).sh)) (leaf (tup [QB,QB,iI 9])) (leaf (tup [lst 1 (GG z0 4) λz=>[iI (UZ z0 4 z:Int)],lst 1 (GG I 4) λz=>[iI (UZ I 4 z:Int)],iI 0]))))))))) VZ ?_;intro Q hQ;simp only [VR.sat,UF,UK,VQ,DR] at hQ ⊢;have rn: ∀z:Int,FN (.tup [.x (.slice none 0 0),.x (.slice none 0 0),i z]) (.tup [.x (.slice none 0 0),.x (.slice none 0 0),i z]):=λz=>⟨rfl,rfl,⟨rfl,rfl⟩,Ak⟩;have rl:FN (.tup [.lst 1 (GG (caB (sK L n).ns (sK L n).sa (sK L n).sb (sK L n).sc (sK L n).sl (sK L n).sh Z) 4) (λz=>[i (UZ (caB (sK L n).ns (sK L n).sa (sK L n).sb (sK L n).sc (sK L n).sl (sK L n).sh Z) 4 z)]),.lst 1 (GG (suB (sK L n).ns (sK L n).sa (sK L n).sb (sK L n).sc (sK L n).sl (sK L n).sh Z) 4) (λz=>[i (UZ (suB (sK L n).ns (sK L n).sa (sK L n).sb (sK L n).sc (sK L n).sl (sK L n).sh Z) 4 z)]),i 0]) (.tup [.lst 1 (GG (caB (sK L n).ns (sK L n).sa (sK L n).sb (sK L n).sc (sK L n).sl (sK L n).sh Z) 4) (λz=>[i (UZ (caB (sK L n).ns (sK L n).sa (sK L n).sb (sK L n).sc (sK L n).sl (sK L n).sh Z) 4 z)]),.lst 1 (GG (suB (sK L n).ns (sK L n).sa (sK L n).sb (sK L n).sc (sK L n).sl (sK L n).sh Z) 4) (λz=>[i (UZ (suB (sK L n).ns (sK L n).sa (sK L n).sb (sK L n).sc (sK L n).sl (sK L n).sh Z) 4 z)]),i 0]):=⟨⟨rfl,rfl,λ_ _=>rfl⟩,⟨rfl,rfl,λ_ _=>rfl⟩,⟨rfl,rfl⟩,Ak⟩;refine ⟨λh=>⟨_,rn _,hQ.1 h⟩,λh=>?_⟩;have h0:ckE n L=0:=by simpa using h
 have hQ2:=hQ.2 h
 (with_reducible repeat' first|apply Al|intro _)
 all_goals first|exact Ak|exact h0|rfl|(rename_i h1;exact ⟨_,rn _,hQ2.1 h1⟩)|(rename_i h1 h2;exact ⟨_,rn _,(hQ2.2 h1).1 h2⟩)|(rename_i h1 h2;exact ⟨_,rl,(hQ2.2 h1).2 h2⟩)
end
section
variable (s:HS)
def stB(a b w d:Int)(v:Bool)(Z:Int):Bool:= !v&&(decide (Z>=d)&&((asE 4 100 20 30 s.nr s.ra s.rb s.ru s.rv 3 tbP tbQ s.pl s.ph 1 3 a b w Z==0)&&kpB 4 100 20 30 s.nr s.ra s.rb s.ru s.rv 3 tbP tbQ s.pl s.ph 1 3 a b w Z))
def stP(Z:Int)(k:Nat):Bool:=stB s (s.ca k) (s.cb k) (s.cc k) (s.cd k) (s.cv k) Z
theorem M1(a b w d:Int)(v:Bool)(Z:Int):U2 VU 30 [.agg (hsL s),.agg [i a,i b,i w,i d,bl v],i Z] (bl (stB s a b w d v Z)):=by
 refine G7 (L:=[]) (Ae Qp0 Aa) (Aj Ab Ac (Ah (Qk1 FH) (UJ.nil _))) U3 Tryz.func30 (UW Tryz.f30) G9 (t:=need [UL 4 s.nr λk=>[Bo.i (s.ra k),Bo.i (s.rb k),Bo.i (s.ru k),Bo.i (s.rv k)],UL 2 3 λk=>[i (tbP k),i (tbQ k)]] (branch (!v) (branch (decide (Z>=d)) (branch (asE (4:Int) (100:Int) (20:Int) (30:Int) s.nr (s.ra) (s.rb) (s.ru) (s.rv) 3 tbP tbQ s.pl s.ph (1:Int) (3:Int) a b w Z==0) (leaf (RV.x (.bool (kpB (4:Int) (100:Int) (20:Int) (30:Int) s.nr (s.ra) (s.rb) (s.ru) (s.rv) 3 tbP tbQ s.pl s.ph (1:Int) (3:Int) a b w Z)))) (leaf (RV.x (WL)))) (leaf (RV.x (WL)))) (leaf (RV.x (WL))))) VZ ?_;simp only [VR.sat,UF,G6,UH,UK];refine ⟨⟨Bo.isRec4 _ _ _ _ _,Pt.isRec2 _ _ _⟩,?_⟩;unfold stB;cases v<;>cases decide (Z>=d)<;>cases (asE 4 100 20 30 s.nr s.ra s.rb s.ru s.rv 3 tbP tbQ s.pl s.ph 1 3 a b w Z==0)<;>simp
def TO:G4
 |[.agg l',.agg [.x (.int .i64 a),.x (.int .i64 b),.x (.int .i64 w),.x (.int .i64 d),.x (.bool v)],.x (.int .i64 Z)]=>some ([l'=hsL s],bl (stB s a b w d v Z))
 |_=>none
theorem M0:VT VU 30 (TO s):=by
 refine ⟨(UM Tryz.func30),?_⟩;intro avs ns res h hn;unfold TO at h;split at h;cases h;have e:=hn _ GN;subst e;exact M1 s _ _ _ _ _ _;cases h
end
section
variable (n:Nat)(L:Cf)(Z:Int)
def Jb2:St:={σ:=[Q6 n L,iI Z,top,top,QB,iI 0,iI (ckE n L),AV.ro (hL (sK L n)),lst 1 n λj=>[iI (eK L j)]]++HR 20 [hC ((sK L n).nc) (sK L n),iI (↑((sK L n).nc):Int)]++HR 18 [],m:=[(901,YA)],nx:=902}
noncomputable def Kb9:Code:=UD (VX (UB Tryz.f16) 0)
def Wp7(k:Nat):St:={σ:=H4 [(9,.row 901),(10,.top),(11,.top),(31,i k)] (Jb2 n L Z).σ,m:=[(901,.row 3 1 (GG (stP (sK L n) Z) (k)) (λz=>[i (UZ (stP (sK L n) Z) (sK L n).nc z)]))],nx:=902}
def EN(k:Nat):G8->Option St
 | .exit 0=>some {σ:=H4 [(9,.row 901),(10,.top),(11,.top),(31,i (sK L n).nc)] (Jb2 n L Z).σ,m:=[(901,.row 3 1 (GG (stP (sK L n) Z) ((sK L n).nc)) (λz=>[i (UZ (stP (sK L n) Z) (sK L n).nc z)]))],nx:=902}
 |_=>none
def Jw9:CT:= .leaf (.exit 0,(EN n L Z 0 (.exit 0)).getD (Jb2 n L Z))
def Zf6:UN:=GO [(.slot 9,901,3,1)] (HI (Wp7 n L Z (0)) (Jw9 n L Z))
theorem Jl4(VW:n<=100):GD VU (.loop Kb9) (Zf6 n L Z):=by
 refine UV [(.slot 9,901,3,1)] (L:=[]) (Ae (BC n L VO) (Ae BB (Ae (M0 (sK L n)) Aa))) (Aj Ab Ac (Ah (zC n L) (UJ.nil _))) U3 U7 (X:=Nat) (Wp7 n L Z) (λk=>k<=(sK L n).nc) (λk=>(sK L n).nc-k) (EN n L Z) (x0:=0) VY ?_ ?_ ?_;rintro k;kernel_rfl;rintro k y E h;unfold EN at h;split at h;cases h;kernel_rfl;cases h;rintro Q hQ k hx;refine ⟨(k+1),?_⟩;(with_reducible refine DG (t:=let z0:=(U4 (lst 1 n λj=>[iI (eK L j)]));let I:=(U4 (hC ((sK L n).nc) (sK L n)));let S:=(U4 (↑((sK L n).nc):Int));(branch (decide ((k:Int)<(↑((sK L n).nc):Int))) (need [UO k ((sK L n).nc)] (need [U4 (hL (sK L n))] (branch (stB (sK L n) ((sK L n).ca k) ((sK L n).cb k) ((sK L n).cc k) ((sK L n).cd k) ((sK L n).cv k) Z) (need [(GG (stP (sK L n) Z) k+1)*8<=140737488355328,RY 1 (UA 1 [iI (k:Int)])] (need [VQ ((k:Int)+1)] (need [U4 (Q6 n L),Z=Z,QB=QB,QU,U4 (ckE n L),U4 (AV.ro (hL (sK L n))),z0,W8,I,S,(k:Int)+1=(↑(k+1):Int),GG (stP (sK L n) Z) k+1=GG (stP (sK L n) Z) (k+1),∀(i:Nat),i<GG (stP (sK L n) Z) (k+1)->GL (GG (stP (sK L n) Z) k) (λz=>[iI (↑(UZ (stP (sK L n) Z) ((sK L n).nc) z):Int)]) (UA 1 [iI (k:Int)]) i=[iI (↑(UZ (stP (sK L n) Z) ((sK L n).nc) i):Int)]] (leaf G8.normal)))) (need [VQ ((k:Int)+1)] (need [U4 (Q6 n L),Z=Z,QB=QB,QU,U4 (ckE n L),U4 (AV.ro (hL (sK L n))),z0,W8,I,S,(k:Int)+1=(↑(k+1):Int),GG (stP (sK L n) Z) k=GG (stP (sK L n) Z) (k+1),∀(i:Nat),i<GG (stP (sK L n) Z) (k+1)->[iI (↑(UZ (stP (sK L n) Z) ((sK L n).nc) i):Int)]=[iI (↑(UZ (stP (sK L n) Z) ((sK L n).nc) i):Int)]] (leaf G8.normal)))))) (need [U4 (Q6 n L),Z=Z,QB=QB,QU,U4 (ckE n L),U4 (AV.ro (hL (sK L n))),z0,W8,I,S,(k:Int)=(↑((sK L n).nc):Int),GG (stP (sK L n) Z) k=GG (stP (sK L n) Z) ((sK L n).nc),∀(i:Nat),i<GG (stP (sK L n) Z) ((sK L n).nc)->[iI (↑(UZ (stP (sK L n) Z) ((sK L n).nc) i):Int)]=[iI (↑(UZ (stP (sK L n) Z) ((sK L n).nc) i):Int)]] (leaf (G8.exit 0))))) VZ ?_)
 simp only [Jw9,EN,VR.sat,GW] at hQ;simp only [VR.sat,UF,G6,GQ,UH,VQ,UK,H6,FW,FZ,RP,GR,EN]
 have b1:=cE (p:=stP (sK L n) Z) (k:=k);have b2:=(A2 L n).nc;refine ⟨λh=>?_,λh=>?_⟩;have hk:k<(sK L n).nc:=VO;have hq:stP (sK L n) Z k=true-> ∀j,j<GG (stP (sK L n) Z) (k+1)->GL (GG (stP (sK L n) Z) k) (λz=>[i (UZ (stP (sK L n) Z) (sK L n).nc z)]) (UA 1 [i k]) j=[i (UZ (stP (sK L n) Z) (sK L n).nc j)]:=by
  intro hp j hj;rw [FV hp] at hj;exact Pt.catF1 (a:=λz=>((UZ (stP (sK L n) Z) (sK L n).nc z:Nat):Int)) hj (by show (k:Int)=((UZ (stP (sK L n) Z) (sK L n).nc (GG (stP (sK L n) Z) k):Nat):Int);rw [wJ hk hp])
 cases hc:stP (sK L n) Z k
 ·have e1:=L3 hc;have hc': ¬(stB (sK L n) ((sK L n).ca k) ((sK L n).cb k) ((sK L n).cc k) ((sK L n).cd k) ((sK L n).cv k) Z=true):=λh=>Bool.noConfusion (hc.symm.trans h)
  (with_reducible repeat' first|apply Al|intro _)
  all_goals first|exact LN|(first|exact absurd (by assumption) hc'|exact FP (by assumption) (by simp [AV.one,Value.oneCell']))
 ·have e1:=FV hc;have hc': ¬(stB (sK L n) ((sK L n).ca k) ((sK L n).cb k) ((sK L n).cc k) ((sK L n).cd k) ((sK L n).cv k) Z=false):=λh=>Bool.noConfusion (hc.symm.trans h)
  (with_reducible repeat' first|apply Al|intro _)
  all_goals first|exact LN|(first|exact absurd (by assumption) hc'|exact hq hc _ (by assumption)|exact FP (by assumption) (by simp [AV.one,Value.oneCell']))
 obtain rfl:k=(sK L n).nc:=VO;exact V1
theorem bS(VW:n<=100):US VU 16 [lns n L,i Z] (.branch (ckE n L != 0) (.leaf (.tup [.x (.slice none 0 0),i (ckE n L)])) (.branch (!bt 0 Z 10000) (.leaf (.tup [.x (.slice none 0 0),i 2])) (.leaf (.tup [.lst 1 (GG (stP (sK L n) Z) (sK L n).nc) (λz=>[i (UZ (stP (sK L n) Z) (sK L n).nc z)]),i 0])))):=by
 refine GY (L:=[Zf6 n L Z]) (Ae (BC n L VO) (Ae BB (Ae (M0 (sK L n)) Aa))) (Aj Ab Ac (Ah (zC n L) (UJ.nil _))) U3 Tryz.func16 (UW Tryz.f16) (G0 (lpE (b:= .loop Kb9) VZ<|(Jl4 n L Z VW).N)) (t:=need [(KD n L)] (branch (ckE n L != 0) (leaf (tup [QB,iI (ckE n L)])) (branch (!bt (0:Int) Z (10000:Int)) (leaf (tup [QB,iI 2])) (need [(KD n L),ckE n L=0] (need [U4 (Q6 n L),Z=Z,QB=QB,QU,U4 (ckE n L),U4 (AV.ro (hL (sK L n))),U4 (lst 1 n λj=>[iI (eK L j)]),W8,U4 (hC ((sK L n).nc) (sK L n)),U4 (↑((sK L n).nc):Int),(0:Int)=((0:Nat):Int),0=GG (stP (sK L n) Z) 0,∀(i:Nat),i<GG (stP (sK L n) Z) 0->[]=[iI (↑(UZ (stP (sK L n) Z) ((sK L n).nc) i):Int)]] (leaf (tup [lst 1 (GG (stP (sK L n) Z) ((sK L n).nc)) λz=>[iI (↑(UZ (stP (sK L n) Z) ((sK L n).nc) z):Int)],iI 0]))))))) VZ ?_
 intro Q hQ;simp only [VR.sat,UF,UK,VQ,DR] at hQ ⊢;have b2:=(A2 L n).nc;have rn: ∀z:Int,FN (.tup [.x (.slice none 0 0),i z]) (.tup [.x (.slice none 0 0),i z]):=λz=>⟨rfl,⟨rfl,rfl⟩,Ak⟩;have rl:FN (.tup [.lst 1 (GG (stP (sK L n) Z) (sK L n).nc) (λz=>[i (UZ (stP (sK L n) Z) (sK L n).nc z)]),i 0]) (.tup [.lst 1 (GG (stP (sK L n) Z) (sK L n).nc) (λz=>[i (UZ (stP (sK L n) Z) (sK L n).nc z)]),i 0]):=⟨⟨rfl,rfl,λ_ _=>rfl⟩,⟨rfl,rfl⟩,Ak⟩;refine ⟨λh=>⟨_,rn _,hQ.1 h⟩,λh=>?_⟩;have h0:ckE n L=0:=by simpa using h
 have hQ2:=hQ.2 h;refine ⟨λh1=>⟨_,rn _,hQ2.1 h1⟩,λh1=>?_⟩;have hQ3:=hQ2.2 h1
 (with_reducible repeat' first|apply Al|intro _)
 all_goals first|exact Ak|exact h0|omega|rfl|(rename_i h;exact absurd h (Aq _))|exact ⟨_,rl,hQ3⟩
end
def dgI(n:Int):Int:=IntKind.u8.wrap (48+n.tmod 10)
def dg3(n:Int):ByteArray:=⟨#[UInt8.ofNat (dgI ((n.tdiv 10).tdiv 10)).toNat,UInt8.ofNat (dgI (n.tdiv 10)).toNat,UInt8.ofNat (dgI n).toNat]⟩
def dg5(n:Int):ByteArray:=⟨#[UInt8.ofNat (dgI ((((n.tdiv 10).tdiv 10).tdiv 10).tdiv 10)).toNat,UInt8.ofNat (dgI (((n.tdiv 10).tdiv 10).tdiv 10)).toNat,UInt8.ofNat (dgI ((n.tdiv 10).tdiv 10)).toNat,UInt8.ofNat (dgI (n.tdiv 10)).toNat,UInt8.ofNat (dgI n).toNat]⟩
def dgB(n m:Int):ByteArray:=if m=3 then dg3 n else dg5 n
abbrev u8(n:Int):AV:= .x (.int .u8 n)
def tpB(l c:Int):ByteArray:=(((⟨#[91]⟩++dgB l 3)++⟨#[58]⟩)++dgB c 5)++⟨#[93]⟩
def tpC(s:ByteArray)(ix:Int):Nat->Int
 | 0=>23*(ix+1)
 |k+1=>tpC s ix k+((k:Int)+2)*(HE s k+3)
def tpK(s:ByteArray)(ix:Int):Int:=(tpC s ix s.size).tmod 99971
def rcB(s:ByteArray)(ix:Int):ByteArray:=(tpB (s.size:Int) (tpK s ix)++s)++⟨#[10]⟩
def flB(L:Cf):Nat->ByteArray
 | 0=>ByteArray.empty
 |k+1=>flB L k++rcB (L k) (k:Int)
theorem Qj6(n:Int):0<=dgI n/\dgI n<256:=by
 have h:dgI n=(48+n.tmod 10)%256:=rfl;omega
theorem xB{x:Int}(h:0<=x/\x<=1000000000):(0<=x.tdiv 10/\x.tdiv 10<=1000000000)/\0<=x.tmod 10/\x.tmod 10<=9:=by
 rw [Int.tdiv_eq_ediv_of_nonneg h.1,Int.tmod_eq_emod_of_nonneg h.1];omega
theorem by1{x:Int}(h:0<=x/\x<256):byO [u8 x]<256/\[u8 x]=[.x (.int .u8 (byO [u8 x]:Int))]:=by
 have e2:byO [u8 x]=x.toNat:=rfl;rw [e2];refine ⟨VO,?_⟩;rw [show ((x.toNat:Nat):Int)=x by omega]
section
variable (n:Int)
def Qd4:St:={σ:=mkS 24 [(1,i 3),(5,.ro [u8 (dgI ((n.tdiv 10).tdiv 10)),u8 (dgI (n.tdiv 10)),u8 (dgI n),u8 0,u8 0])],m:=[],nx:=901}
abbrev W0:AV:=AV.x (.int IntKind.u8 (0:Int))
abbrev WW:AV:=AV.x (.int IntKind.u8 (IntKind.wrap IntKind.u8 ((48:Int)+Int.tmod n (10:Int))))
abbrev XA:AV:=AV.x (.int IntKind.u8 (IntKind.wrap IntKind.u8 ((48:Int)+Int.tmod (Int.tdiv n (10:Int)) (10:Int))))
abbrev YV:AV:=AV.x (.int IntKind.u8 (dgI (Int.tdiv (Int.tdiv n (10:Int)) (10:Int))))
abbrev XD:List AV:=[YV n,AV.x (.int IntKind.u8 (dgI (Int.tdiv n (10:Int)))),AV.x (.int IntKind.u8 (dgI n)),W0,W0]
abbrev Z8:AV:=AV.x (.int IntKind.u8 (IntKind.wrap IntKind.u8 ((48:Int)+Int.tmod (Int.tdiv (Int.tdiv n (10:Int)) (10:Int)) (10:Int))))
theorem mJ(VW:0<=n/\n<=1000000000):U2 VU 69 [i n,i 3] (.x (.string (dg3 n))):=by
 refine rZ (L:=[(λs=>some (zT Tryz.prog [] [] (UD (VX (UB Tryz.f69) 0)) 4 s))]) 3 [(.slot 5,0,0,1)] (Qd4 n) Aa Ad U3 Tryz.func69 (UW Tryz.f69) (G0 (lpE (b:= .loop (UD (VX (UB Tryz.f69) 0))) VZ<|(LM Aa U3 U7 _).N)) VZ (t:=let I:=(Int.tdiv (Int.tdiv n (10:Int)) (10:Int));let z0:=(need [(0:Int)<=3/\(3:Int)<=((5:Nat):Int)] (need [R9 (3:Int).toNat λi=>[Option.rec (top) (λval=>(λval=>(λx=>x) val) val) [u8 (dgI I),u8 (dgI (Int.tdiv n (10:Int))),u8 (dgI n),u8 (0:Int),u8 (0:Int)][i]?]] (leaf (RV.x (.string (bsO (3:Int).toNat λi=>[Option.rec (top) (λval=>(λval=>(λx=>x) val) val) [u8 (dgI I),u8 (dgI (Int.tdiv n (10:Int))),u8 (dgI n),u8 (0:Int),u8 (0:Int)][i]?]))))));(need [VQ ((3:Int)-1)] (branch (decide ((3:Int)-1>=(0:Int))) (need [(10:Int)≠0] (need [VQ ((48:Int)+Int.tmod n (10:Int))] (need [(0:Int)<=3-1/\(3:Int)-1<((5:Nat):Int)] (need [(10:Int)≠0,VQ (Int.tdiv n (10:Int))] (need [VQ ((3:Int)-1-1)] (branch (decide ((3:Int)-1-1>=(0:Int))) (need [(10:Int)≠0] (need [VQ ((48:Int)+Int.tmod (Int.tdiv n (10:Int)) (10:Int))] (need [(0:Int)<=3-1-1/\(3:Int)-1-1<((5:Nat):Int)] (need [(10:Int)≠0,VQ I] (need [VQ ((3:Int)-1-1-1)] (branch (decide ((3:Int)-1-1-1>=(0:Int))) (need [(10:Int)≠0] (need [VQ ((48:Int)+Int.tmod I (10:Int))] (need [(0:Int)<=3-1-1-1/\(3:Int)-1-1-1<((5:Nat):Int)] (need [(10:Int)≠0,VQ (Int.tdiv I (10:Int))] (need [VQ ((3:Int)-1-1-1-1)] (branch (decide ((3:Int)-1-1-1-1>=(0:Int))) (need [(10:Int)≠0] (need [VQ ((48:Int)+Int.tmod (Int.tdiv I (10:Int)) (10:Int))] (need [(0:Int)<=3-1-1-1-1/\(3:Int)-1-1-1-1<((5:Nat):Int)] (need [(10:Int)≠0,VQ (Int.tdiv (Int.tdiv I (10:Int)) (10:Int))] (need [VQ ((3:Int)-1-1-1-1-1)] VR.fail))))) (need [XG,AV.ro [Z8 n,XA n,WW n,W0,W0]=AV.ro (XD n)] z0))))))) (need [XG,AV.ro [W0,XA n,WW n,W0,W0]=AV.ro (XD n)] z0))))))) (need [XG,AV.ro [W0,W0,WW n,W0,W0]=AV.ro (XD n)] z0))))))) (need [XG,AV.ro [W0,W0,W0,W0,W0]=AV.ro (XD n)] z0)))) VZ ?_
 have q1:=xB VW;have q2:=xB q1.1;have q3:=xB q2.1;have q4:=xB q3.1;have q5:=xB q4.1;have c1:decide ((3:Int)-1>=0)=true:=by decide
 have c2:decide ((3:Int)-1-1>=0)=true:=by decide
 have c3:decide ((3:Int)-1-1-1>=0)=true:=by decide
 have c4:decide ((3:Int)-1-1-1-1>=0)=false:=by decide
 simp only [VR.sat,UF,G6,UH,UK,VQ,c1,c2,c3,c4,true_imp_iff,eq_self,Bool.true_eq_false,Bw,false_imp_iff]
 (with_reducible repeat' first|apply Al|intro _)
 all_goals first|exact Ak|omega|rfl|(intro j hj;rcases (show j=0\/j=1\/j=2 by omega) with rfl|rfl|rfl<;>exact by1 (Qj6 _))|decide
def Qd3:St:={σ:=mkS 24 [(1,i 5),(5,.ro [u8 (dgI ((((n.tdiv 10).tdiv 10).tdiv 10).tdiv 10)),u8 (dgI (((n.tdiv 10).tdiv 10).tdiv 10)),u8 (dgI ((n.tdiv 10).tdiv 10)),u8 (dgI (n.tdiv 10)),u8 (dgI n)])],m:=[],nx:=901}
abbrev QK:List AV:=[AV.x (.int IntKind.u8 (dgI (Int.tdiv (Int.tdiv (Int.tdiv (Int.tdiv n (10:Int)) (10:Int)) (10:Int)) (10:Int)))),AV.x (.int IntKind.u8 (dgI (Int.tdiv (Int.tdiv (Int.tdiv n (10:Int)) (10:Int)) (10:Int)))),YV n,AV.x (.int IntKind.u8 (dgI (Int.tdiv n (10:Int)))),AV.x (.int IntKind.u8 (dgI n))]
abbrev J7:Prop:=(5:Int)=5
abbrev K7:AV:=AV.x (.int IntKind.u8 (IntKind.wrap IntKind.u8 ((48:Int)+Int.tmod (Int.tdiv (Int.tdiv (Int.tdiv n (10:Int)) (10:Int)) (10:Int)) (10:Int))))
theorem mI(VW:0<=n/\n<=1000000000):U2 VU 69 [i n,i 5] (.x (.string (dg5 n))):=by
 refine rZ (L:=[(λs=>some (zT Tryz.prog [] [] (UD (VX (UB Tryz.f69) 0)) 6 s))]) 3 [(.slot 5,0,0,1)] (Qd3 n) Aa Ad U3 Tryz.func69 (UW Tryz.f69) (G0 (lpE (b:= .loop (UD (VX (UB Tryz.f69) 0))) VZ<|(LM Aa U3 U7 _).N)) VZ (t:=let S:=(Int.tdiv (Int.tdiv n (10:Int)) (10:Int));let I:=(Int.tdiv S (10:Int));let z3:=(Int.tdiv I (10:Int));let z0:=(need [(0:Int)<=5/\(5:Int)<=((5:Nat):Int)] (need [R9 (5:Int).toNat λi=>[Option.rec (top) (λval=>(λval=>(λx=>x) val) val) [u8 (dgI z3),u8 (dgI I),u8 (dgI S),u8 (dgI (Int.tdiv n (10:Int))),u8 (dgI n)][i]?]] (leaf (RV.x (.string (bsO (5:Int).toNat λi=>[Option.rec (top) (λval=>(λval=>(λx=>x) val) val) [u8 (dgI z3),u8 (dgI I),u8 (dgI S),u8 (dgI (Int.tdiv n (10:Int))),u8 (dgI n)][i]?]))))));(need [VQ ((5:Int)-1)] (branch (decide ((5:Int)-1>=(0:Int))) (need [(10:Int)≠0] (need [VQ ((48:Int)+Int.tmod n (10:Int))] (need [(0:Int)<=5-1/\(5:Int)-1<((5:Nat):Int)] (need [(10:Int)≠0,VQ (Int.tdiv n (10:Int))] (need [VQ ((5:Int)-1-1)] (branch (decide ((5:Int)-1-1>=(0:Int))) (need [(10:Int)≠0] (need [VQ ((48:Int)+Int.tmod (Int.tdiv n (10:Int)) (10:Int))] (need [(0:Int)<=5-1-1/\(5:Int)-1-1<((5:Nat):Int)] (need [(10:Int)≠0,VQ S] (need [VQ ((5:Int)-1-1-1)] (branch (decide ((5:Int)-1-1-1>=(0:Int))) (need [(10:Int)≠0] (need [VQ ((48:Int)+Int.tmod S (10:Int))] (need [(0:Int)<=5-1-1-1/\(5:Int)-1-1-1<((5:Nat):Int)] (need [(10:Int)≠0,VQ I] (need [VQ ((5:Int)-1-1-1-1)] (branch (decide ((5:Int)-1-1-1-1>=(0:Int))) (need [(10:Int)≠0] (need [VQ ((48:Int)+Int.tmod I (10:Int))] (need [(0:Int)<=5-1-1-1-1/\(5:Int)-1-1-1-1<((5:Nat):Int)] (need [(10:Int)≠0,VQ z3] (need [VQ ((5:Int)-1-1-1-1-1)] (branch (decide ((5:Int)-1-1-1-1-1>=(0:Int))) (need [(10:Int)≠0] (need [VQ ((48:Int)+Int.tmod z3 (10:Int))] (need [(0:Int)<=5-1-1-1-1-1/\(5:Int)-1-1-1-1-1<((5:Nat):Int)] (need [(10:Int)≠0,VQ (Int.tdiv z3 (10:Int))] (need [VQ ((5:Int)-1-1-1-1-1-1)] (branch (decide ((5:Int)-1-1-1-1-1-1>=(0:Int))) (need [(10:Int)≠0] (need [VQ ((48:Int)+Int.tmod (Int.tdiv z3 (10:Int)) (10:Int))] (need [(0:Int)<=5-1-1-1-1-1-1/\(5:Int)-1-1-1-1-1-1<((5:Nat):Int)] (need [(10:Int)≠0,VQ (Int.tdiv (Int.tdiv z3 (10:Int)) (10:Int))] (need [VQ ((5:Int)-1-1-1-1-1-1-1)] VR.fail))))) (need [J7,AV.ro [AV.x (.int IntKind.u8 (IntKind.wrap IntKind.u8 ((48:Int)+Int.tmod z3 (10:Int)))),K7 n,Z8 n,XA n,WW n]=AV.ro (QK n)] z0))))))) (need [J7,AV.ro [W0,K7 n,Z8 n,XA n,WW n]=AV.ro (QK n)] z0))))))) (need [J7,AV.ro [W0,W0,Z8 n,XA n,WW n]=AV.ro (QK n)] z0))))))) (need [J7,AV.ro [W0,W0,W0,XA n,WW n]=AV.ro (QK n)] z0))))))) (need [J7,AV.ro [W0,W0,W0,W0,WW n]=AV.ro (QK n)] z0))))))) (need [J7,AV.ro [W0,W0,W0,W0,W0]=AV.ro (QK n)] z0)))) VZ ?_
 have q1:=xB VW;have q2:=xB q1.1;have q3:=xB q2.1;have q4:=xB q3.1;have q5:=xB q4.1;have c1:decide ((5:Int)-1>=0)=true:=by decide
 have c2:decide ((5:Int)-1-1>=0)=true:=by decide
 have c3:decide ((5:Int)-1-1-1>=0)=true:=by decide
 have c4:decide ((5:Int)-1-1-1-1>=0)=true:=by decide
 have c5:decide ((5:Int)-1-1-1-1-1>=0)=true:=by decide
 have c6:decide ((5:Int)-1-1-1-1-1-1>=0)=false:=by decide
 simp only [VR.sat,UF,G6,UH,UK,VQ,c1,c2,c3,c4,c5,c6,true_imp_iff,eq_self,Bool.true_eq_false,Bw,false_imp_iff]
 (with_reducible repeat' first|apply Al|intro _)
 all_goals first|exact Ak|omega|rfl|(intro j hj;rcases (show j=0\/j=1\/j=2\/j=3\/j=4 by omega) with rfl|rfl|rfl|rfl|rfl<;>exact by1 (Qj6 _))|decide
end
def TQ:G4
 |[.x (.int .i64 n),.x (.int .i64 m)]=>some ([0<=n/\n<=1000000000,m=3\/m=5],.x (.string (dgB n m)))
 |_=>none
theorem tP:VT VU 69 TQ:=by
 refine ⟨(UM Tryz.func69),?_⟩;intro avs ns res h hn;unfold TQ at h;split at h;rename_i n m;cases h;have h1:0<=n/\n<=1000000000:=hn _ VY;have h2:m=3\/m=5:=hn _ VY;rcases h2 with rfl|rfl;exact mJ n h1;exact mI n h1;cases h
theorem dR(n m:Int)(h:m=3\/m=5):((dgB n m).size:Int)=m:=by
 rcases h with rfl|rfl;rfl;rfl
theorem BK(l c:Int):(tpB l c).size=11:=by
 have h1:=dR l 3 (.inl rfl);have h2:=dR c 5 (.inr rfl);unfold tpB;simp only [Av];have e1:(⟨#[91]⟩:ByteArray).size=1:=rfl;have e2:(⟨#[58]⟩:ByteArray).size=1:=rfl;have e3:(⟨#[93]⟩:ByteArray).size=1:=rfl;omega
def Qm2:G4
 |[.agg [.x (.int .i64 l),.x (.int .i64 c)]]=>some ([0<=l/\l<=1000000000,0<=c/\c<=1000000000],.x (.string (tpB l c)))
 |_=>none
theorem m6(l c:Int)(VW:0<=l/\l<=1000000000)(UG:0<=c/\c<=1000000000):U2 VU 44 [.agg [i l,i c]] (.x (.string (tpB l c))):=by
 refine G7 (L:=[]) (Ae tP Aa) Ad U3 Tryz.func44 (UW Tryz.f44) G9 (t:=need [(0:Int)<=l/\l<=1000000000,(3:Int)=3\/(3:Int)=5] (need [(↑(ByteArray.size {data:=#[91] }+ByteArray.size (dgB l (3:Int))):Int)<=9223372036854775807] (need [(↑(ByteArray.size ({data:=#[91] }++dgB l (3:Int))+ByteArray.size {data:=#[58] }):Int)<=9223372036854775807] (need [(0:Int)<=c/\c<=1000000000,(5:Int)=3\/(5:Int)=5] (need [(↑(ByteArray.size ({data:=#[91] }++dgB l (3:Int)++{data:=#[58] })+ByteArray.size (dgB c (5:Int))):Int)<=9223372036854775807] (need [(↑(ByteArray.size ({data:=#[91] }++dgB l (3:Int)++{data:=#[58] }++dgB c (5:Int))+ByteArray.size {data:=#[93] }):Int)<=9223372036854775807] (leaf (RV.x (.string ({data:=#[91] }++dgB l (3:Int)++{data:=#[58] }++dgB c (5:Int)++{data:=#[93] })))))))))) VZ ?_;have h1:=dR l 3 (.inl rfl);have h2:=dR c 5 (.inr rfl);have e1:(⟨#[91]⟩:ByteArray).size=1:=rfl;have e2:(⟨#[58]⟩:ByteArray).size=1:=rfl;have e3:(⟨#[93]⟩:ByteArray).size=1:=rfl;simp only [VR.sat,UF,G6,UH,UK,Av,e1,e2,e3]
 (with_reducible repeat' first|apply Al|intro _)
 all_goals first|exact Ak|omega|rfl|exact VW|exact UG|decide
theorem lZ:VT VU 44 Qm2:=by
 refine ⟨(UM Tryz.func44),?_⟩;intro avs ns res h hn;unfold Qm2 at h;split at h;cases h;exact m6 _ _ (hn _ VY) (hn _ VY);cases h
theorem vA(s:ByteArray)(k:Nat):0<=HE s k/\HE s k<=255:=by
 unfold HE;have:=(s.data.getD k 0).toNat_lt;omega
theorem L4(A B:ByteArray)(j:Nat):HE (A++B) j=if j<A.size then HE A j else HE B (j-A.size):=by
 unfold HE;have e:(A++B).data=A.data++B.data:=ByteArray.data_append;rw [e,L0,Array.getElem?_append];have hs:A.data.size=A.size:=rfl;rw [hs];split;rw [L0];rw [L0]
theorem Xu1(A B:ByteArray)(j:Nat):GL A.size (HG A) (HG B) j=HG (A++B) j:=by
 show HJ (decide (j<A.size)) (HG A j) (HG B (j-A.size))=_;unfold HG;rw [L4];by_cases h:j<A.size;rw [decide_eq_true h,if_pos h];rfl;rw [decide_eq_false h,if_neg h];rfl
theorem pF(s:ByteArray)(k:Nat)(h:k<1000):0<=((k:Int)+2)*(HE s k+3)/\((k:Int)+2)*(HE s k+3)<=258516:=by
 have hb:=vA s k;refine ⟨Bz VO VO,?_⟩;have h1:((k:Int)+2)*(HE s k+3)<=((k:Int)+2)*258:=Int.mul_le_mul_of_nonneg_left VO VO;omega
theorem zU(s:ByteArray)(ix:Int)(O:0<=ix/\ix<=100000): ∀k:Nat,k<=1000->0<=tpC s ix k/\tpC s ix k<=2400000+(k:Int)*258516
 | 0,_=>by
  show 0<=23*(ix+1)/\23*(ix+1)<=_;omega
 |k+1,hk=>by
  have ih:=zU s ix O k VO;have hm:=pF s k VO;have e:tpC s ix (k+1)=tpC s ix k+((k:Int)+2)*(HE s k+3):=rfl;rw [e];generalize ((k:Int)+2)*(HE s k+3)=z at hm;omega
section
variable (s:ByteArray)
theorem qV(ix:Int):(rcB s ix).size=12+s.size:=by
 unfold rcB;rw [Av,Av,BK];have e1:(⟨#[10]⟩:ByteArray).size=1:=rfl;omega
theorem ML(L:Cf): ∀n,(∀k,k<n->(L k).size<=200)->(flB L n).size<=n*212
 | 0,_=>Am 0
 |n+1,h=>by
  have ih:=ML L n λk hk=>h k VO;show (flB L n++rcB (L n) n).size<=_;rw [Av,qV];have:=h n VO;omega
abbrev Z4:AV:=lst 1 (ByteArray.size s) λj=>[AV.x (.int IntKind.u8 (HE s j))]
abbrev JF:AV:=HP s
def Jb0(ix:Int):St:={σ:=[JF s,iI ix,top,top,ptr 0 0]++HR 7 [Z4 s,iI (ByteArray.size s:Int)]++HR 19 [],m:=[(0,GU.cells 117 JP)],nx:=9}
noncomputable def Kb6:Code:=UD (VX (UB Tryz.f43) 0)
def Wp4(ix:Int)(k:Nat):St:=(upM [(5,i (tpC s ix k)),(6,.top),(7,.top),(14,i k)] (Jb0 s ix))
def EL(ix:Int)(k:Nat):G8->Option St
 | .exit 0=>some (upM [(5,i (tpC s ix s.size)),(6,.top),(7,.top),(14,i s.size)] (Jb0 s ix))
 |_=>none
def Jw5(ix:Int):CT:= .leaf (.exit 0,(EL s ix 0 (.exit 0)).getD (Jb0 s ix))
def Zf2(ix:Int):UN:=(HI (Wp4 s ix (0)) (Jw5 s ix))
theorem Jj2(ix:Int)(VW:s.size<=1000)(UG:0<=ix/\ix<=100000):GD VU (.loop Kb6) (Zf2 s ix):=by
 refine HO (L:=[]) Aa U3 U7 (X:=Nat) (Wp4 s ix) (λk=>k<=s.size) (λk=>s.size-k) (EL s ix) (x0:=0) VY ?_ ?_ ?_;rintro k;kernel_rfl;rintro k y E h;unfold EL at h;split at h;cases h;kernel_rfl;cases h;rintro Q hQ k hx;refine ⟨(k+1),?_⟩;(with_reducible refine DG (t:=branch (decide ((k:Int)<(ByteArray.size s:Int))) (need [UO k (ByteArray.size s)] (need [VQ ((k:Int)+2)] (need [VQ (HE s k)] (need [VQ (HE s k+3)] (need [VQ (((k:Int)+2)*(HE s k+3))] (need [VQ (tpC s ix k+((k:Int)+2)*(HE s k+3))] (need [VQ ((k:Int)+1)] (need [JF s=JF s,ix=ix,QO,tpC s ix k+((k:Int)+2)*(HE s k+3)=tpC s ix (k+1),Z4 s=Z4 s,U4 (ByteArray.size s:Int),(k:Int)+1=(↑(k+1):Int),QU,QU] (leaf G8.normal))))))))) (need [JF s=JF s,ix=ix,QO,tpC s ix k=tpC s ix (ByteArray.size s),Z4 s=Z4 s,U4 (ByteArray.size s:Int),(k:Int)=(ByteArray.size s:Int),QU,QU] (leaf (G8.exit 0)))) VZ ?_);simp only [Jw5,EL,VR.sat,GW] at hQ;simp only [VR.sat,UF,G6,GQ,UH,VQ,UK,H6,FW,FZ,RP,GR,EL]
 have h1:=zU s ix UG k VO;refine ⟨λh=>?_,λh=>?_⟩;have hk:k<s.size:=VO;have h2:=pF s k VO;have h3:=vA s k;have e0:tpC s ix (k+1)=tpC s ix k+((k:Int)+2)*(HE s k+3):=rfl;generalize ((k:Int)+2)*(HE s k+3)=z at h2 e0 ⊢;exact V1;obtain rfl:k=s.size:=VO;exact V1
end
def zO:G4
 |[.x (.string s),.x (.int .i64 ix)]=>some ([s.size<=1000,0<=ix/\ix<=100000],.agg [i s.size,i (tpK s ix)])
 |_=>none
theorem tG(s:ByteArray)(ix:Int)(VW:s.size<=1000)(UG:0<=ix/\ix<=100000):U2 VU 43 [.x (.string s),i ix] (.agg [i s.size,i (tpK s ix)]):=by
 refine G7 (L:=[Zf2 s ix]) Aa Ad U3 Tryz.func43 (UW Tryz.f43) (G0 (lpE (b:= .loop Kb6) VZ<|(Jj2 s ix VW UG).N)) (t:=need [VQ (ix+1)] (need [VQ ((23:Int)*(ix+1))] (need [ByteArray.size s<=4294967296] (need [JF s=JF s,ix=ix,QO,(23:Int)*(ix+1)=tpC s ix 0,Z4 s=Z4 s,U4 (ByteArray.size s:Int),(0:Int)=((0:Nat):Int),QU,QU] (need [(99971:Int)≠0] (leaf (RV.agg [RV.x (.int .i64 (ByteArray.size s:Int)),RV.x (.int .i64 (Int.tmod (tpC s ix (ByteArray.size s)) (99971:Int)))]))))))) VZ ?_
 have h1:=zU s ix UG s.size VW;simp only [VR.sat,UF,G6,GQ,UH,UK,VQ];all_goals exact V8
theorem jH:VT VU 43 zO:=by
 refine ⟨(UM Tryz.func43),?_⟩;intro avs ns res h hn;unfold zO at h;split at h;cases h;exact tG _ _ (hn _ VY) (hn _ VY);cases h
section
variable (n:Nat)(L:Cf)
def Jc5:St:={σ:=[Q6 n L,top,QB,top,top,top,Q6 n L,iI (n:Int)]++HR 16 [],m:=[(901,GU.row 5 1 0 λx=>[])],nx:=902}
noncomputable def Kd3:Code:=UD (VX (UB Tryz.f21) 0)
def Wr4(k:Nat):St:={σ:=H4 [(3,.row 901),(4,.top),(5,.top),(8,i k)] (Jc5 n L).σ,m:=[(901,.row 5 1 (flB L k).size (HG (flB L k)))],nx:=902}
def I0(k:Nat):G8->Option St
 | .exit 0=>some {σ:=H4 [(3,.row 901),(4,.top),(5,.top),(8,i n)] (Jc5 n L).σ,m:=[(901,.row 5 1 (flB L n).size (HG (flB L n)))],nx:=902}
 |_=>none
def Jy7:CT:= .leaf (.exit 0,(I0 n L 0 (.exit 0)).getD (Jc5 n L))
def Zh7:UN:=GO [(.slot 3,901,5,1)] (HI (Wr4 n L (0)) (Jy7 n L))
theorem Js5(VW:n<=50)(UG: ∀k,k<n->(L k).size<=200):GD VU (.loop Kd3) (Zh7 n L):=by
 refine UV [(.slot 3,901,5,1)] (L:=[]) (Ae jH (Ae lZ Aa)) Ad U3 U7 (X:=Nat) (Wr4 n L) (λk=>k<=n) (λk=>n-k) (I0 n L) (x0:=0) VY ?_ ?_ ?_;rintro k;kernel_rfl;rintro k y E h;unfold I0 at h;split at h;cases h;kernel_rfl;cases h;rintro Q hQ k hx;refine ⟨(k+1),?_⟩;(with_reducible refine DG (t:=branch (decide ((k:Int)<(n:Int))) (need [UO k n] (need [ByteArray.size (L k)<=1000,(0:Int)<=(k:Int)/\(k:Int)<=100000] (need [(0:Int)<=(↑(ByteArray.size (L k)):Int)/\(↑(ByteArray.size (L k)):Int)<=1000000000,(0:Int)<=tpK (L k) (k:Int)/\tpK (L k) (k:Int)<=1000000000] (need [(↑(ByteArray.size (tpB (↑(ByteArray.size (L k)):Int) (tpK (L k) (k:Int)))+ByteArray.size (L k)):Int)<=9223372036854775807] (need [(↑(ByteArray.size (tpB (↑(ByteArray.size (L k)):Int) (tpK (L k) (k:Int))++L k)+ByteArray.size {data:=#[10] }):Int)<=9223372036854775807] (need [ByteArray.size (flB L k)+ByteArray.size (tpB (↑(ByteArray.size (L k)):Int) (tpK (L k) (k:Int))++L k++{data:=#[10] })<=140737488355328] (need [VQ ((k:Int)+1)] (need [U4 (Q6 n L),QB=QB,W8,U4 (Q6 n L),U4 (n:Int),(k:Int)+1=(↑(k+1):Int),ByteArray.size (flB L k)+ByteArray.size (tpB (↑(ByteArray.size (L k)):Int) (tpK (L k) (k:Int))++L k++{data:=#[10] })=ByteArray.size (flB L (k+1)),∀(i:Nat),i<ByteArray.size (flB L (k+1))->GL (ByteArray.size (flB L k)) (HG (flB L k)) (HG (tpB (↑(ByteArray.size (L k)):Int) (tpK (L k) (k:Int))++L k++{data:=#[10] })) i=HG (flB L (k+1)) i] (leaf G8.normal))))))))) (need [U4 (Q6 n L),QB=QB,W8,U4 (Q6 n L),U4 (n:Int),(k:Int)=(n:Int),ByteArray.size (flB L k)=ByteArray.size (flB L n),∀(i:Nat),i<ByteArray.size (flB L n)->HG (flB L k) i=HG (flB L n) i] (leaf (G8.exit 0)))) VZ ?_);simp only [Jy7,I0,VR.sat,GW] at hQ;simp only [VR.sat,UF,G6,GQ,UH,VQ,UK,H6,FW,FZ,RP,GR,I0]
 have h1:=ML L k λj hj=>UG j VO;refine ⟨λh=>?_,λh=>?_⟩
 ·have hk:k<n:=VO;have h2:=UG k hk;have h3:=zU (L k) k VO (L k).size VO;have h4:tpK (L k) k=(tpC (L k) k (L k).size)%99971:=Int.tmod_eq_emod_of_nonneg h3.1;have h5:0<=tpK (L k) k/\tpK (L k) k<99971:=VO;have h6:=qV (L k) k;have h7:=BK ((L k).size:Int) (tpK (L k) k);have e0:(flB L (k+1)).size=(flB L k).size+(rcB (L k) k).size:=Av;have e1:(⟨#[10]⟩:ByteArray).size=1:=rfl;have e2:(tpB ((L k).size:Int) (tpK (L k) k)++L k).size=11+(L k).size:=by rw [Av,h7]
  have e3:(tpB ((L k).size:Int) (tpK (L k) k)++L k++⟨#[10]⟩).size=12+(L k).size:=h6;have hq: ∀j,GL (flB L k).size (HG (flB L k)) (HG (tpB ((L k).size:Int) (tpK (L k) k)++L k++⟨#[10]⟩)) j=HG (flB L (k+1)) j:=λj=>Xu1 _ (rcB (L k) k) j
  (with_reducible repeat' first|apply Al|intro _)
  all_goals first|exact LN|(first|exact hq _|(rw [e2,e1];omega)|(rw [e3];omega)|(rw [h7];omega))
 obtain rfl:k=n:=VO;exact V1
theorem Wv3(VW:n<=50)(UG: ∀k,k<n->(L k).size<=200):U2 VU 21 [lns n L] (.lst 1 (flB L n).size (HG (flB L n))):=by
 refine G7 (L:=[Zh7 n L]) (Ae jH (Ae lZ Aa)) Ad U3 Tryz.func21 (UW Tryz.f21) (G0 (lpE (b:= .loop Kd3) VZ<|(Js5 n L VW UG).N)) (t:=need [U4 (Q6 n L),QB=QB,W8,U4 (Q6 n L),U4 (n:Int),(0:Int)=((0:Nat):Int),0=ByteArray.size (flB L 0),∀(i:Nat),i<ByteArray.size (flB L 0)->[]=HG (flB L 0) i] (leaf (RV.lst 1 (ByteArray.size (flB L n)) λj=>[AV.x (.int IntKind.u8 (HE (flB L n) j))]))) VZ ?_
 simp only [VR.sat,UF,G6,GQ,UH,UK,VQ];have hx: ∀k,∀a∈HG (flB L n) k,isX a:=λk a ha=>by rw [B2.1 ha];exact Ak
 (with_reducible repeat' first|apply Al|intro _)
 all_goals first|exact Ak|omega|rfl|(rename_i h;exact absurd h (Aq _))|exact hx _ _ (by assumption)|decide
def Xh5:G4:=λl=>some ([l=[lns n L],ckE n L=0],.lst 1 (flB L n).size (HG (flB L n)))
theorem Qw2:VT VU 21 (Xh5 n L):=by
 refine ⟨(UM Tryz.func21),?_⟩;intro avs ns res h hn;cases h;have e:avs=[lns n L]:=hn _ VY;have h0:ckE n L=0:=hn _ VY;subst e;have hk:=nF h0;exact Wv3 n L hk.1 hk.2
theorem SY(VW:n<=100):US VU 6 [lns n L] (.branch (ckE n L != 0) (.leaf (.tup [.x (.slice none 0 0),i (ckE n L)])) (.leaf (.tup [.lst 1 (flB L n).size (HG (flB L n)),i 0]))):=by
 refine GY (L:=[]) (Ae (BC n L VO) (Ae (Qw2 n L) Aa)) Ad U3 Tryz.func6 (UW Tryz.f6) G9 (t:=need [(KD n L)] (branch (ckE n L != 0) (leaf (tup [QB,iI (ckE n L)])) (need [(KD n L),ckE n L=0] (leaf (tup [lst 1 (ByteArray.size (flB L n)) λj=>[AV.x (.int IntKind.u8 (HE (flB L n) j))],iI 0]))))) VZ ?_;intro Q hQ;simp only [VR.sat,UF,UK,VQ,DR] at hQ ⊢;refine ⟨λh=>⟨.tup [.x (.slice none 0 0),i (ckE n L)],⟨rfl,⟨rfl,rfl⟩,Ak⟩,hQ.1 h⟩,λh=>?_⟩;have h0:ckE n L=0:=by simpa using h
 (with_reducible repeat' first|apply Al|intro _)
 all_goals first|exact Ak|exact h0|rfl|(exact ⟨.tup [.lst 1 (flB L n).size (HG (flB L n)),i 0],⟨⟨rfl,rfl,λ_ _=>rfl⟩,⟨rfl,rfl⟩,Ak⟩,hQ.2 h⟩)
end
open Go Go.Sx Go.RowKit Go.ChangeShapes Go.WideShapes Go.ChangeAt
abbrev Qh4:List (String×DataW Unit):=Rows.headWritesRow.laid
theorem rowWrap{H:Type}{enc:TypeId×Value->H}{a:Assume}{C:Checked}{os:Os}{f:FuncId}{fn:Func}{s:ChangeSpec}{conds:List PathCond}{apart fresh C7 again:Bool}{laid:List (String×DataW Unit)}
  (own:ownKnob C.prog.godebug=none)(started:os.Started)(noInit:C.prog.inits.idxOf? f=none)(hfn:C.prog.funcs[f]? =some fn)
  (witness: ∃(w:World) (tape:Tape) (i:Input),w.os=os/\(w.forCall tape i).Shaped C.prog/\i.vars=[]/\Input.okWide C.prog (w.forCall tape i) .any w.heap.size f i/\
   ((s.pre enc C.prog fn conds apart (w.forCall tape i).memory i.args/\laidMetH C.prog laid (w.forCall tape i).memory)/\sizedMet enc C.prog fn (OpenSpec.ofChange s) apart (w.forCall tape i).memory i.args)/\a.holds C.prog (lone (Frame.enter C.prog f i.args .normal) [] (w.forCall tape i)))
  (contract: ∀(W:World) (base:Nat) (args:Array Value) (ds gs:List (DataW H)) (before:List MemPlace),
   (∀(j:Nat) t v,fn.params[j]? =some t->args[j]? =some v->Value.okWide C.prog W .any base t v)->
   DataW.Whole enc C.prog fn.params.toList s.vars apart W args.toList ds gs before->
   (DataW.weightsEach C.prog (fn.params.toList++s.plain.varTypes C.prog) (ds++gs)).all (· <=reachBytes)=true->laidMetH C.prog laid W->W.ShapedOpen C.prog->
   Calls C.prog f args W λe W'=> ∃v,e= .returned v/\s.post enc C.prog fn apart fresh C7 again W args v W'):
  ReturnsInHanded a C os f .any (λw args=>(s.pre enc C.prog fn conds apart w args/\laidMetH C.prog laid w)/\sizedMet enc C.prog fn (OpenSpec.ofChange s) apart w args) (s.post enc C.prog fn apart fresh C7 again):=by
 refine returnsInHanded_of_calls own started noInit witness ?_;intro w tape i _ hsh _ hok dJ _;obtain ⟨_,_,_,fn',hfn',_,_,_,_,OC⟩:=hok;obtain rfl:fn'=fn:=Bb (hfn'.symm.trans hfn);obtain ⟨⟨⟨ds,gs,before,hw,_⟩,hl⟩,hz⟩:=dJ;refine (contract (w.forCall tape i) w.heap.size i.args ds gs before OC (DataW.Whole.of_heap (w':=w.forCall tape i) (by rfl) hw) (hz.weights hw) (hl.of_heap (by rfl)) hsh).mono λe W' ⟨v,he,A⟩=>?_
 subst he;exact ChangeSpec.post_blind A
theorem own0:ownKnob Tryz.prog.godebug=none:=VZ
theorem Zb6: "*"++ "errors.errorString"= "*errors.errorString":=by decide
theorem Wh9(u:TypeId)(h:Tryz.prog.typeName? 3 u=some "*errors.errorString"):u=316:=
 typeName_ptr_named (nm:= "errors.errorString") (by rw [Zb6];kernel_rfl) VZ (by decide) u (by rw [Zb6];exact h)
theorem gR:Tryz.prog.globalNamed "strconv.ErrRange"=some 1:=VZ
theorem gS:Tryz.prog.globalNamed "strconv.ErrSyntax"=some 0:=VZ
theorem gT:Tryz.prog.globalNamed "internal/strconv.uint64pow10"=some 2:=VZ
theorem Zs1{W:World}(h:laidMet Tryz.prog Qh4 W):Lib.TabIs Tryz.prog W "internal/strconv.uint64pow10" .u64 Lib.pow10Tab:=
 Lib.tabIs_of_head (g:=2) (t:=302) (e:=166) (n:=20) gT VZ Tryz.underlying302 Tryz.underlying166 VZ VZ (laidMet.tail (laidMet.tail h))
theorem jO{W:World}{n:String}{g:Nat}{c:Array Value}{zero:Array Value}{t:TypeId}(hg:Tryz.prog.globalNamed n=some g)(I:W.var? Tryz.prog n=some c): ∃t fr,W.heap[g]? =some (.cells c t fr):=by
 unfold World.var? at I;rw [hg] at I
 dsimp only [Option.bind] at I
 cases ho:W.heap[g]? with
 |none=>simp [ho] at I
 |some o=>
  cases o<;>simp [ho] at I;exact ⟨_,_,by rw [I]⟩
theorem glob_of{W:World}(h:laidMetH Tryz.prog Qh4 W)(hsh:W.ShapedOpen Tryz.prog):D2 (kC W) W:=by
 have hL:laidMet Tryz.prog Qh4 W:=by
  have h1:=h;rw [MakeChecks.laidMetH_plain _ _ _ VZ] at h1;exact h1
 obtain ⟨aR,sR,vR,_⟩:=laid_sentinel (laidMet.tail (laidMet.tail (laidMet.tail (laidMet.tail hL)))) gR VZ Tryz.underlying91 Wh9 Tryz.underlying316 Tryz.underlying318 rfl rfl Tryz.underlying9 VZ VZ;obtain ⟨aS,sS,vS,_⟩:=laid_sentinel (laidMet.tail (laidMet.tail (laidMet.tail (laidMet.tail (laidMet.tail hL))))) gS VZ Tryz.underlying91 Wh9 Tryz.underlying316 Tryz.underlying318 rfl rfl Tryz.underlying9 VZ VZ;have vT:=Zs1 hL;obtain ⟨tR,fR,hR⟩:=jO (zero:=#[]) (t:=0) gR vR;obtain ⟨tS,fS,Z⟩:=jO (zero:=#[]) (t:=0) gS vS;obtain ⟨tT,fT,hT⟩:=jO (zero:=#[]) (t:=0) gT vT;obtain ⟨cs,hM,S,hok⟩:=hsh.1 3 #[.int .i64 0] 3 (wC VZ) VZ;obtain ⟨ts,hts,_,D7⟩:=hok VZ;have hts':Tryz.prog.cellTypes Tryz.prog.depth 3=some [3]:=VZ;rw [hts'] at hts;cases hts;have h1:0<cs.size:=by rw [S];decide
 obtain ⟨u,hu,hc⟩:=D7 0 cs[0] (by simp [h1])
 obtain rfl:u=3:=by simpa using hu.symm
 have hm: ∃m,cs=#[.int .i64 m]:=by
  unfold Cell.ok at hc;rw [Tryz.underlying3] at hc;have hsz':cs.size=1:=S;have e:cs=#[cs[0]]:=by
   apply Array.ext;simp [hsz'];intro j a1 a2;have:j=0:=by simp at a2;omega
   subst this;rfl
  cases I:cs[0] with
  |int k m=>
   rw [I] at hc;have hk:k= .i64:=by
    have h9:=hc;simp at h9;exact h9.1
   subst hk;exact ⟨m,by rw [e,I]⟩
  |_=>rw [I] at hc;simp at hc
 obtain ⟨m,rfl⟩:=hm;have lt: ∀{g:Nat} {o:Obj},W.heap[g]? =some o->g<W.heap.size:=λh=>(PK.1 h).1;intro b p A
 match b,A with
 | 0,A=>cases A;exact ⟨lt Z,lt Z,_,Z,rfl,_,_,_,_,rfl⟩
 | 1,A=>cases A;exact ⟨lt hR,lt hR,_,hR,rfl,_,_,_,_,rfl⟩
 | 2,A=>cases A;exact ⟨lt hT,lt hT,_,hT,rfl,_,_,rfl⟩
 | 3,A=>cases A;exact ⟨lt hM,lt hM,_,hM,rfl,_,_,_,rfl⟩
 |b+4,A=>cases A
def Jo4:DataW Unit->List Value
 | .agg l=>l.map λ
  | .lit (.int k n)=> .int k n
  |_=> .nilIface
 |_=>[]
noncomputable def Ju1(os:Os):World:={World.doorLaid Tryz.prog 72 os with heap:=(World.doorLaid Tryz.prog 72 os).heap.modify 6 λ
 | .cells _ t fr=> .cells (Jo4 Go.Pinned.utf8First).toArray t fr
 |o=>o}
theorem Ju0(os:Os)(args:Array Value):laidMetH Tryz.prog Qh4 (((Ju1 os).forCall (λ_ _=>0) ⟨#[],args,[]⟩).memory):=
 laidMetH_of_parts3 (fuel:=8) (laidMet_of_run' 8 VZ VZ) VZ VZ
theorem yC{n:Int}(h:0<=n/\n<=1000000):(UInt8.ofNat (dgI n).toNat).toNat=48+(n%10).toNat:=by
 have e:dgI n=(48+n.tmod 10)%256:=rfl;rw [Int.tmod_eq_emod_of_nonneg h.1] at e;have h1:(dgI n).toNat=48+(n%10).toNat:=VO;rw [h1,UInt8.toNat_ofNat_of_lt' (by show _<256;omega)]
theorem pG{x:Int}(h:0<=x):x.tdiv 10=x / 10:=Int.tdiv_eq_ediv_of_nonneg h
theorem BL{c:UInt8}{d acc:Nat}{r:List UInt8}(h:c.toNat=48+d)(hd:d<=9)(ha:acc<=1000000):Lib.parseUint10 acc (c::r)=Lib.parseUint10 (acc*10+d) r:=by
 show (if 48<=c.toNat/\c.toNat<=57 then _ else _)=_
 rw [if_pos VO,if_neg VO,if_neg VO,h,Nat.add_sub_cancel_left]
theorem N4{n:Int}(h:0<=n/\n<=999):Lib.atoiAll (dg3 n).data.toList= .ok n:=by
 have q1:=pG h.1;have q2:=pG (x:=n / 10) VO;have S:=yC (n:=n) VO;have I:=yC (n:=n / 10) VO;have A:=yC (n:=n / 10 / 10) VO;unfold dg3;rw [q1,q2];show Lib.atoiAll [_,_,_]=_;rw [Lib.atoiAll_plain _ _ VO VO];unfold Lib.parseMag;rw [if_neg VY,BL A VO VO,BL I VO VO,BL S VO VO];show (if _ then _ else Lib.NumEnd.ok _)=_
 rw [if_neg VO]
 congr 1
 omega
theorem N3{n:Int}(h:0<=n/\n<=99999):Lib.atoiAll (dg5 n).data.toList= .ok n:=by
 have q1:=pG h.1;have q2:=pG (x:=n / 10) VO;have q3:=pG (x:=n / 10 / 10) VO;have q4:=pG (x:=n / 10 / 10 / 10) VO;have S:=yC (n:=n) VO;have I:=yC (n:=n / 10) VO;have A:=yC (n:=n / 10 / 10) VO;have v4:=yC (n:=n / 10 / 10 / 10) VO;have Z:=yC (n:=n / 10 / 10 / 10 / 10) VO;unfold dg5;rw [q1,q2,q3,q4];show Lib.atoiAll [_,_,_,_,_]=_;rw [Lib.atoiAll_plain _ _ VO VO];unfold Lib.parseMag;rw [if_neg VY,BL Z VO VO,BL v4 VO VO,BL A VO VO,BL I VO VO,BL S VO VO];show (if _ then _ else Lib.NumEnd.ok _)=_
 rw [if_neg VO]
 congr 1
 omega
theorem C3{s:ByteArray}{v:Int}(h:Lib.atoiAll s.data.toList= .ok v):U5 s=v:=by
 unfold U5;rw [h]
theorem IJ{n:Int}(h:0<=n/\n<=999):U5 (dg3 n)=n:=C3 (N4 h)
theorem Wm3{n:Int}(h:0<=n/\n<=99999):U5 (dg5 n)=n:=C3 (N3 h)
section
variable {n:Nat}{f:Ci}{s:ByteArray}
theorem xH(hs:s.size=n)(h: ∀j,j<n->f j=HG s j):bsO n f=s:=by
 refine LH.2 ?_;apply List.ext_getElem?;intro j;by_cases hj:j<n;have hj':j<s.data.size:=by
  have:s.data.size=s.size:=rfl;omega
 have e1:byO (f j)=(s.data[j]).toNat:=by
  rw [h j hj];show (HE s j).toNat=_;unfold HE;rw [L0,Array.getElem?_eq_getElem hj'];exact DR _
 rw [Bn,List.getElem?_range hj,Array.getElem?_toList,Array.getElem?_eq_getElem hj'];show some (UInt8.ofNat (byO (f j)))=some _;rw [e1,UInt8.ofNat_toNat];have hj':s.data.size<=j:=by
  have:s.data.size=s.size:=rfl;omega
 rw [Br (by simp;omega),Br (by simpa using hj')]
theorem dV{o:Nat}(h: ∀j,j<n->f j=HG s (o+j)):R9 n f:=by
 intro j hj;rw [h j hj];have h1:=vA s (o+j);exact by1 (x:=HE s (o+j)) ⟨h1.1,VO⟩
end
theorem sz1(x:UInt8):(⟨#[x]⟩:ByteArray).size=1:=rfl
theorem sz3(n:Int):(dgB n 3).size=3:=rfl
theorem sz5(n:Int):(dgB n 5).size=5:=rfl
theorem C9(l c:Int){j:Nat}(h:j<3):HE (tpB l c) (1+j)=HE (dg3 l) j:=by
 unfold tpB;rw [L4,if_pos (by simp only [Av,sz1,sz3,sz5];omega),L4,if_pos (by simp only [Av,sz1,sz3,sz5];omega),L4,if_pos (by simp only [Av,sz1,sz3,sz5];omega),L4,if_neg (by simp only [sz1];omega),sz1,Nat.add_sub_cancel_left]
 rfl
theorem Qk2(l c:Int){j:Nat}(h:j<5):HE (tpB l c) (5+j)=HE (dg5 c) j:=by
 unfold tpB;rw [L4,if_pos (by simp only [Av,sz1,sz3,sz5];omega),L4,if_neg (by simp only [Av,sz1,sz3,sz5];omega)]
 have e:5+j-((⟨#[91]⟩:ByteArray)++dgB l 3++⟨#[58]⟩).size=j:=by
  simp only [Av,sz1,sz3];omega
 rw [e];rfl
def rdL(f:Ci):Int:=U5 (bsO 3 (λi=>f (1+i)))
def rdC(f:Ci):Int:=U5 (bsO 5 (λi=>f (5+i)))
theorem Jm5{f:Ci}{l c:Int}(h: ∀j,j<11->f j=HG (tpB l c) j):bsO 3 (λi=>f (1+i))=dg3 l/\bsO 5 (λi=>f (5+i))=dg5 c:=by
 refine ⟨xH rfl λj hj=>?_,xH rfl λj hj=>?_⟩;show f (1+j)=_;rw [h _ VO];unfold HG;rw [C9 l c hj];show f (5+j)=_;rw [h _ VO];unfold HG;rw [Qk2 l c hj]
section
variable (L:Cf)
def GE(k:Nat):Nat:=(flB L k).size
theorem y8(k:Nat):GE L (k+1)=GE L k+12+(L k).size:=by
 have e:GE L (k+1)=(flB L k).size+(rcB (L k) k).size:=Av;have h:=qV (L k) k;unfold GE at*;omega
theorem y9{k m:Nat}(h:k<=m):GE L k<=GE L m:=by
 induction h with
 |refl=>exact Am _
 |step _ W=>rw [y8];omega
theorem Wz1{k m j:Nat}(h:k<=m)(hj:j<GE L k):HE (flB L m) j=HE (flB L k) j:=by
 induction h with
 |refl=>rfl
 | @step m h W=>
  have h1:=y9 L h;show HE (flB L m++rcB (L m) m) j=_;rw [L4,if_pos (show j<(flB L m).size by unfold GE at*;omega)]
  exact W
theorem Wz0{k m j:Nat}(h:k<m)(hj:j<12+(L k).size):HE (flB L m) (GE L k+j)=HE (rcB (L k) k) j:=by
 rw [Wz1 L (k:=k+1) h (by rw [y8];omega)]
 show HE (flB L k++rcB (L k) k) (GE L k+j)=_;rw [L4,if_neg (show ¬GE L k+j<(flB L k).size by unfold GE;omega)]
 congr 1
 unfold GE;omega
end
section
variable (s:ByteArray)(ix:Int)
theorem Wj7{j:Nat}(h:j<11):HE (rcB s ix) j=HE (tpB (s.size:Int) (tpK s ix)) j:=by
 have h1:=BK (s.size:Int) (tpK s ix);unfold rcB;rw [L4,if_pos (by rw [Av];omega),L4,if_pos VO]
theorem Wj6{j:Nat}(h:j<s.size):HE (rcB s ix) (11+j)=HE s j:=by
 have h1:=BK (s.size:Int) (tpK s ix);unfold rcB;rw [L4,if_pos (by rw [Av];omega),L4,if_neg VO,h1,Nat.add_sub_cancel_left]
theorem Zc0:HE (rcB s ix) (11+s.size)=10:=by
 have h1:=BK (s.size:Int) (tpK s ix);unfold rcB;rw [L4,if_neg (by rw [Av];omega),Av,h1,Bs]
 rfl
theorem Qe6(O:0<=ix/\ix<=100000)(h:s.size<=1000):0<=tpK s ix/\tpK s ix<=99970:=by
 have h3:=zU s ix O s.size h;have h4:tpK s ix=(tpC s ix s.size)%99971:=Int.tmod_eq_emod_of_nonneg h3.1;omega
end
theorem Qk3(s:ByteArray){a b j:Nat}(hb:b<=s.size)(hj:j<b-a):HE (s.extract a b) j=HE s (a+j):=by
 unfold HE;have e:(s.extract a b).data=s.data.extract a b:=ByteArray.data_extract;rw [e,L0,L0,Array.getElem?_extract];have hs:s.data.size=s.size:=rfl;rw [if_pos VO]
