/- Contracts, put together. Conditions: those of each. -/
import Derived.Test.YtakpdkmhclhlnaaGreatDoorMd
import Derived.Shelf.Strings.Prefix
import Derived.Shelf.Strings.Split
import Derived.Shelf.Strconv.AtoiAll
import Derived.Shelf.Strconv.Itoa3
import Derived.Shelf.Slices.Cells
import Derived.Deep.Upon
import Derived.Test.YtakpdkmhclhlnaaGreatDoorProg
import Derived.Lib.AppendIntMem
import Derived.Shelf.Spec.SlicesGrow
import Derived.Tactics
import Derived.Tactics2
import Derived.Defers
import Derived.Recover
import Derived.Laws.Pointers
import Derived.WideLaws
import Derived.RegionTactic
import Derived.Stop.Walk2
import Derived.RangeFuncRecord
import Derived.Test.YtakpdkmhclhlnaaGreatDoorCards
import Derived.Test.YtakpdkmhclhlnaaGreatDoorTie
import Derived.LaidMore
import Derived.OpenShut
import Derived.Stop.Joined
import Derived.Stop.LaidErr
import Derived.Lib.LaidTab
import Derived.Handed
import Derived.SevenTiedAt
set_option linter.unusedSimpArgs false
set_option linter.unusedVariables false
set_option maxRecDepth 100000
namespace Go.Proofs.YtakpdkmhclhlnaaGreatDoor.Hd
open Go Go.Sx Go.RowKit Bo
open Go.Sx.VM (need branch leaf)
open Go.Sx.AV (lst ptr agg roI tup top)
abbrev KP(Z:Int):Value:=Value.int IntKind.i64 Z
theorem Xh7(n:Nat)(a b c U O:Cg)(ea la:AV)(d:Nat)(Z:Int)(ord:List Int)(dy:Cg)(oa:Option Addr)(ol oc:Nat)(da:Option Addr)(dl dc:Nat)(N:Nat)(VR:sV n a b c U O)(UE:d<2^n)(HK:2^n-d<=N+1)(F1:0<=Z/\Z<=100)(BR:ord.length<=1000)(zD:GB VO 237 (nG n a b c U O N)):Xc6 VO 237 [.agg [i d,i Z],.ptr 0 0,.ptr 1 0,.ptr 2 0,.ptr 3 0,.ptr 4 0] (OM n a b c U O ea la d Z ord dy oa ol oc da dl dc) 901 [[.ptr 0 0,.ptr 1 0,.ptr 2 0,.ptr 3 0,.ptr 4 0]] (OT_ n a b c U O ea la d Z ord dy oa ol oc da dl dc (orG n a b c U O d Z)) (OF_ n a b c U O ea la d Z ord dy oa ol oc da dl dc) (orS n a b c U O d Z).isSome:=by
 refine Qp4 (X:={R:=[(131,AI)],H:=[(237,(nG n a b c U O N))] }) (L:=[F2 [d≠2^n-1] (Xz6 n a b c U O ea la d Z ord dy oa ol oc da dl dc N)]) (Ae F0 (Ae LF Aa)) (Ai (Af NP Ab) (Ag zD Ac)) VZ Tryz.func237 (UU Tryz.f237) (G7 (lpE (b:= .rangeFunc (rfF (VS (U7 Tryz.f237) 0)) (jP (VS (U7 Tryz.f237) 0)) Jx5 Jv2) VU<|B2 (λh=>Jf7 n a b c U O ea la d Z ord dy oa ol oc da dl dc N VR ⟨UE,h⟩ HK F1 BR zD))) (N:=[(.cell 3 0,900,3,1)]) (t:=let z7:=(VY (AV.x (.slice oa ol oc)));let A:=orH n a b c U O;let z6:=ZS n a b c U O ea la;let S:=(VY (AV.x (.slice da dl dc)));let I:=(orG n a b c U O d Z);let W:=(Value.agg #[Value.int IntKind.i64 (d:Int),KP Z]);let z0:=(need [d≠2^n-1] (need [VY (agg [iI (d:Int),iI Z]),QO,WR,ZG,ZL,W7,KW,KX,VY (AV.fn (Fn.func 171) [] [AV.ro [QQ n a b c U O ea la],AV.ro [iI (d:Int)]]),false=false,VY (d:Int),Z=Z,J2,z7,JZ ord,∀(i:Nat),i<List.length ord->[iI (UA ord i)]=[iI (UA ord i)],∀(k:Value),A k->A k/\orV k=orV k,n=n,∀(i:Nat),i<n->[iI (dy i)]=[iI (dy i)],z6,JO,QL=QL,JF,S,QO,WR,ZG,ZL,W7] (branch (Option.isSome (orS n a b c U O d Z)) (need [J2,VY (List.length (ord++orL I)),∀(i:Nat),i<List.length (ord++orL I)->[iI (UA (ord++orL I) i)]=[iI (UA (ord++orL I) i)],∀(k:Value),A k->A k/\orV k=orV k,n=n,∀(i:Nat),i<n->[iI (dyU I dy i)]=[iI (dyU I dy i)],z6,JO,QL=QL,JF,S,QO,WR,ZG,ZL,W7] (leaf true)) (need [∀(u:Value),A u->orV u=Value.bool true,FG Tryz.prog 340 (λu=>A u\/u=Value.agg #[Value.int IntKind.i64 (d:Int),KP Z]) W (W6)] (need [J2,z7,JZ ord,∀(i:Nat),i<List.length ord->[iI (UA ord i)]=[iI (UA ord i)],∀(k:Value),A k\/k=Value.agg #[Value.int IntKind.i64 (d:Int),KP Z]->A k/\Value.bool true=orV k,n=n,∀(i:Nat),i<n->[iI (dy i)]=[iI (dy i)],z6,JO,QL=QL,JF,S,QO,WR,ZG,ZL,W7] (leaf false))))));let z1:=(need [J2,z7,JZ ord,∀(i:Nat),i<List.length ord->[iI (UA ord i)]=[iI (UA ord i)],∀(k:Value),A k->A k/\orV k=orV k,n=n,∀(i:Nat),i<n->[iI (dy i)]=[iI (dy i)],z6,JO,QL=QL,JF,S,QO,WR,ZG,ZL,W7] (leaf false));(need [n<=8] (branch ((d:Int)==2^n-1) (need [J2,List.length ord=List.length (ord++orL I),∀(i:Nat),i<List.length (ord++orL I)->[iI (UA ord i)]=[iI (UA (ord++orL I) i)],∀(k:Value),A k->A k/\orV k=orV k,n=n,∀(i:Nat),i<n->[iI (dy i)]=[iI (dyU I dy i)],z6,JO,QL=QL,JF,S,QO,WR,ZG,ZL,W7] (leaf true)) (need [FG Tryz.prog 340 (A) W (W6)] (VM.may (A W) (branch true z1 z0) (branch false z1 z0)))))) VU VU rfl rfl VU ?_
 have h8:=VR.1;have hp1:1<=2^n:=Cc;have hpn:((2^n:Nat):Int)=2^n:=VT;have hmk:FG Tryz.prog 340 (orH n a b c U O) (.agg #[.int .i64 d,.int .i64 Z]) (.bool false):=(NZ d Z).mono (λx hx=>Wf1 hx);have hmk2:FG Tryz.prog 340 (λu=>orH n a b c U O u\/u= .agg #[.int .i64 d,.int .i64 Z]) (.agg #[.int .i64 d,.int .i64 Z]) (.bool false):=(NZ d Z).mono (λx hx=>hx.elim Wf1 (λh=>⟨_,_,h⟩));have Jj9:orH n a b c U O (.agg #[.int .i64 d,.int .i64 Z])->(orS n a b c U O d Z).isSome=false:=by
  rintro ⟨d',day',h,_,h2⟩;simp only [Value.agg.injEq,Array.mk.injEq,List.cons.injEq,Value.int.injEq,UH] at h;obtain ⟨e1,rfl⟩:=h;obtain rfl:d=d':=VJ;rw [h2];rfl
 have Jj3:(orS n a b c U O d Z).isSome=false-> ∀k,orH n a b c U O k\/k= .agg #[.int .i64 d,.int .i64 Z]->orH n a b c U O k/\Value.bool true=orV k:=by
  rintro hn k (hk|rfl);exact ⟨hk,rfl⟩;exact ⟨⟨d,Z,rfl,UE,by simpa using hn⟩,rfl⟩
 simp only [VM.sat,UB,UH];refine ⟨h8,?_⟩;by_cases hw:d=2^n-1;have hS:orS n a b c U O d Z=some []:=by
  rw [hw];exact Wf0 h8 Z
 have hG:orG n a b c U O d Z=[]:=by
  unfold orG;rw [hS];rfl
 rw [hG,hS];refine ⟨λ_=>?_,λh=>?_⟩
 ·simp only [orL,List.map_nil,List.append_nil,dyU];all_goals exact V7
 exfalso;rw [beq_eq_false_iff_ne] at h;omega;refine ⟨λh=>?_,λ_=>?_⟩;exfalso;rw [beq_iff_eq] at h;omega
 ·(with_reducible repeat' first|apply Al|intro _)
  all_goals first|exact Ak|exact hmk|exact hmk2|exact hw|(exact (Jj9 (by assumption)).symm)|rfl|contradiction|(exact Eq.symm (by assumption))|assumption|exact (Jj3 (by assumption) _ (by assumption)).1|exact (Jj3 (by assumption) _ (by assumption)).2
theorem We9{n:Nat}{a b c U O:Cg}(h0:sV n a b c U O): ∀N:Nat,GB VO 237 (nG n a b c U O N)
 | 0=>eJ λea la d Z ord dy oa ol oc da dl dc h1 h2=>VJ
 |N+1=>eJ λea la d Z ord dy oa ol oc da dl dc h1 h2 h3 h4=>Xh7 n a b c U O ea la d Z ord dy oa ol oc da dl dc N h0 h1 h2 h3 h4 (We9 h0 N)
open Go Go.Shelf
def eZ:Go.Shelf.Ren:=⟨λ| 101=>182| 208=>214| 206=>239|n=>n,λn=>n,λn=>n⟩
theorem Xi6:Go.Proofs.Lays.n101 Tryz.prog eZ:=by
 constructor<;>first|(intro _;kernel_rfl)|kernel_rfl|(constructor<;>first|(intro _;kernel_rfl)|kernel_rfl|(constructor<;>first|(intro _;kernel_rfl)|kernel_rfl))
def gG:Go.Shelf.Ren:=⟨λ| 146=>143| 221=>173| 268=>200| 138=>201| 143=>202| 195=>229| 197=>230| 218=>231| 219=>232| 260=>246| 217=>247| 225=>248| 224=>249| 267=>250| 266=>255| 314=>256|n=>n,λ| 31=>26| 105=>334| 46=>331| 119=>360| 139=>363| 138=>362| 146=>364| 51=>329|n=>n,λ| 1=>1| 3=>6| 4=>7|n=>n⟩
theorem Wi0:Go.Proofs.Lays.n146 Tryz.prog gG:=by
 constructor<;>first|(intro _;kernel_rfl)|kernel_rfl|(constructor<;>first|(intro _;kernel_rfl)|kernel_rfl|(constructor<;>first|(intro _;kernel_rfl)|kernel_rfl))
def iB:Go.Shelf.Ren:=⟨λ| 172=>147| 244=>183| 245=>184| 247=>215| 279=>216| 280=>217| 281=>218| 282=>219| 287=>240| 316=>241| 171=>69| 205=>242| 321=>253| 322=>254| 243=>112| 246=>149| 283=>185| 284=>186| 285=>187| 286=>188| 129=>221| 317=>220| 318=>222| 319=>223| 320=>224| 337=>243| 338=>244|n=>n,λ| 75=>107| 76=>108| 167=>321| 37=>87| 85=>322| 168=>324| 53=>181| 175=>345| 46=>331| 210=>349| 127=>165| 145=>357| 143=>355| 171=>287| 173=>290| 212=>328| 51=>329| 213=>330| 232=>358| 233=>359| 80=>122|n=>n,λ| 15=>2| 16=>3| 17=>0| 18=>4| 19=>5|n=>n⟩
theorem AC:Go.Proofs.LaysC.n172 Tryz.prog iB:=by
 constructor<;>first|(intro _;kernel_rfl)|kernel_rfl|(constructor<;>first|(intro _;kernel_rfl)|kernel_rfl|(constructor<;>first|(intro _;kernel_rfl)|kernel_rfl))
def i9:Go.Shelf.Ren:=⟨λ| 171=>69| 243=>112| 246=>149| 283=>185| 284=>186| 285=>187| 286=>188| 129=>221| 317=>220| 318=>222| 319=>223| 320=>224| 337=>243| 338=>244|n=>n,λ| 171=>287| 53=>181| 37=>87| 173=>290| 212=>328| 51=>329| 213=>330| 46=>331| 232=>358| 233=>359|n=>n,λ| 17=>0| 18=>4| 19=>5|n=>n⟩
theorem Qc5:Go.Proofs.LaysM.n171 Tryz.prog i9:=by
 constructor<;>first|(intro _;kernel_rfl)|kernel_rfl|(constructor<;>first|(intro _;kernel_rfl)|kernel_rfl|(constructor<;>first|(intro _;kernel_rfl)|kernel_rfl))
open Go.Sx
open Go Go.Shelf Go.Sx Go.RowKit
def p8:Go.Shelf.Ren:=⟨λ| 112=>238|n=>n,λ| 28=>22|n=>n,λn=>n⟩
theorem Wi1:Go.Proofs.Lays.n112 Tryz.prog p8:=by
 constructor<;>first|(intro _;kernel_rfl)|kernel_rfl|(constructor<;>first|(intro _;kernel_rfl)|kernel_rfl|(constructor<;>first|(intro _;kernel_rfl)|kernel_rfl))
def tI:D2:=λavs m nx sv=>match avs with
 |[.row q]=>match DG m q with
  |some (.row T sz n g)=>match NX [(T,3),(sz,1)] with
   |true=>some (.needT [UF 1 n g,n<=100000] (.leaf (.tup [],jF (oS m) q,nx,sv)))
   |false=>none
  |_=>none
 |_=>none
theorem yO(b:Nat): ∀(vs:List Value) (o:Nat) (w:World),(w.setCells b o vs).heap.size=w.heap.size
 |[],_,_=>rfl
 |v::r,o,w=>by
  rw [World.setCells,yO b r];simp
theorem yN(b:Nat): ∀(vs:List Value) (o:Nat) (w:World),(w.setCells b o vs).tape=w.tape
 |[],_,_=>rfl
 |v::r,o,w=>by
  rw [World.setCells,yN b r];simp
theorem Qm5{w:World}{ov:Value}{n:Nat}{l:List Int}(I:n<=100000)(ho:w.ownsRow 0 3 1 ov n (l.map (Value.int .i64))):
  Calls Tryz.prog 238 #[ov] w λen Z=>en= .returned (.tuple #[])/\Z.heap.size=w.heap.size/\Z.os=w.os/\Z.tape=w.tape/\Z.output=w.output/\ ∀x,x<w.heap.size->ov.ownBlock≠some x->Z.heap[x]? =w.heap[x]? :=by
 have HX:l.length=n:=by
  have:=ho.1;simpa using this
 rcases ho.2 with ⟨rfl,rfl⟩|⟨g,cap,cur,rfl,_,hh,r1,r2,r3,r4⟩;refine Calls.mono (Any.slices_Reverse_int_empty Wi1 none 0 w) ?_;rintro en Z ⟨rfl,rfl⟩;exact ⟨rfl,rfl,rfl,rfl,rfl,λ_ _ _=>rfl⟩;have gQ: ∀j,j<l.length->w.cell? ⟨g,0+j,none⟩=some (.int .i64 (l.getD j 0)):=by
  intro j hj;have h2:cur[j]? =some (.int .i64 (l.getD j 0)):=by
   have h3:=congrArg (λl=>l[j]?) r4;simp only [List.getElem?_take,Bn] at h3;rw [if_pos VJ,D0 hj] at h3;rw [List.getD_eq_getElem?_getD,D0 hj];simpa using h3
  rw [Ap];simp [World.cell?,hh,h2]
 refine Calls.mono (Any.slices_Reverse_int_cells Wi1 g 0 n cap l w VJ VJ gQ (λj _=>by simp [World.frozen?,hh])) ?_
 rintro en Z ⟨rfl,q,rfl⟩;refine ⟨rfl,?_,?_,?_,?_,λx hx hne=>?_⟩;rw [yO];rfl;rw [World.os_setCells];rfl;rw [yN];rfl;rw [World.output_setCells];rfl;exact World.heap_setCells_other (w.drewN q) g 0 _ hx (λh=>hne (by rw [h];rfl))
theorem We4:GB VO 238 tI:=by
 refine ⟨(UJ Tryz.func238),?_⟩;intro avs m nx sv tr ht Q hQ cx w0 TT e ds args w hE hB hm hlv LQ hxt hr;unfold tI at ht;split at ht;rename_i q;split at ht;rename_i T sz n g h1;split at ht;rename_i hb;simp only [EL] at hb;obtain ⟨rfl,rfl,_⟩:=hb;cases ht;obtain ⟨I,hq⟩:=VM.sat_needT hQ;obtain ⟨n1,n2⟩:=I;obtain ⟨ov,l1,rfl,r1,hr⟩:=hr.cons_inv;obtain rfl:=hr.nil_inv;have H1:=hm _ (UW h1);have R1:=qH H1 n1;have hv:e.val q=ov:=by
  cases r1 with
  |row _ a n c _ hv=>exact hv
 simp only at R1;rw [hv] at R1;have own1: ∀x,ov.ownBlock=some x->e.own x=some q:=λx hx=>H1.2.1 x (by show (e.val q).ownBlock=some x;rw [hv];exact hx)
 refine (Qm5 n2 R1).mono ?_;rintro en Z ⟨rfl,hsz,q1,q2,q3,jA⟩;have dne: ∀{x y j j':Nat},e.own x=some j->e.own y=some j'->j≠j'->x≠y:=by
  rintro x y j j' hx hy hj rfl;rw [hx] at hy;exact hj (Bb hy)
 have Xk6: ∀x,x<w.heap.size->e.ro x->Z.heap[x]? =w.heap[x]? :=λx hx hx2=>jA x hx (λh=>by
  have:=own1 x h;rw [(hE.apart x hx2).1] at this;cases this)
 have st:Step e e w Z:=⟨λx hx hx2=>⟨hx2,Xk6 x hx hx2⟩,λ_ h=>⟨h,rfl,rfl⟩,VJ⟩;have hBel:Below w0.heap.size w0 Z:=by
  refine ⟨q1.trans hB.os,q2.trans hB.tape,q3.trans hB.output,by have:=hB.size;omega,λx hx=>?_⟩
  rw [jA x (xV hx hB.size) (λh=>by have:=(hE.owned _ _ (own1 x h)).1;omega)]
  exact hB.block x hx
 refine ⟨_,_,_,_,_,e,rfl,hq,⟨λx hx=>⟨(hE.apart x hx).1,by rw [hsz];exact (hE.apart x hx).2⟩,λx j hx=>⟨(hE.owned x j hx).1,by rw [hsz];exact (hE.owned x j hx).2⟩,hE.glob.step st⟩,hBel,?_,hlv,LQ,hxt.step st,Rep.tupL (.nil _ _)⟩
 intro p hp;obtain ⟨hp,hne⟩:=L6 hp;obtain ⟨hpm,hna⟩:=EO hp;exact LK st (λx hx=>⟨hx,jA x (hE.owned x _ hx).2 (λh=>dne hx (own1 x h) hne rfl)⟩) hna (hm p hpm);cases ht;cases ht;cases ht
section
variable (n:Nat)(a b c U O:Cg)
def orE:Int:=if zS n a b c U O=true then 0 else 9
theorem Qn5(VR:sV n a b c U O):VX VO 213 [.agg [i 4,i 10,sls n a b c U O]] (.tup [.top,.top,i (orE n a b c U O)]):=by
 refine GA (X:={R:=[],H:=[(237,(Xv0 [(.slot 1,0,0,0),(.slot 2,0,0,0),(.slot 3,0,0,0),(.cell 1 0,900,3,1)] (nG n a b c U O (2^n)))),(238,tI)],C:=[(55,(MG n a b c U O))] }) (L:=[]) Aa (Aj Ab (Ag (eS (We9 VR (2^n))) (Ag We4 Ac)) (Ah (vC n a b c U O VR) (U8.nil _))) VZ Tryz.func213 (UU Tryz.f213) G8 (t:=let z2:=(orG n a b c U O (0:Int).toNat (0:Int));let z0:=(leaf (RV.tup [RV.top,RV.lst 1 n λj=>[iI (dyU z2 (col 0 λx=>List.map AV.x (Array.toList (Value.cells (WC)))) j)],RV.x (WC)]));let z1:=(leaf (RV.tup [RV.top,RV.lst 1 n λx=>[iI 0],RV.x (WC)]));let z3:=(need [(0:Int)<=(n:Int)/\(n:Int)<=1000000,VY (n:Int)] VM.fail);(need [QP n a b c U O] (branch (!true) (branch ((2:Int) != 0) (leaf (RV.tup [RV.x (JA),RV.x (JA),RV.x (.int .i64 (2:Int))])) z3) (branch (!zS n a b c U O) (branch ((9:Int) != 0) (leaf (RV.tup [RV.x (JA),RV.x (JA),RV.x (.int .i64 (9:Int))])) z3) (branch ((0:Int) != 0) (leaf (RV.tup [RV.x (JA),RV.x (JA),RV.x (WC)])) (need [(0:Int)<=(n:Int)/\(n:Int)<=1000000,VY (n:Int)] (need [VY (iI 4),VY (iI 10),W0 n a b c U O,∀(x:Value),False->orH n a b c U O x/\x=orV x,UF 1 0 λx=>[],UF 1 n λx=>List.map AV.x (Array.toList (Value.cells (WC))),n=n,(0:Int)<=0/\(0:Int)<2^n,2^n-(0:Int).toNat<=2^n,(0:Int)<=0/\(0:Int)<=100,0<=1000] (branch (Option.isSome (orS n a b c U O (0:Int).toNat (0:Int))) (need [UF 1 (List.length ((xE 0 λx=>[])++orL z2)) λj=>[i (UA ((xE 0 λx=>[])++orL z2) j)],List.length ((xE 0 λx=>[])++orL z2)<=100000] (VM.may True z0 (VM.may True z0 z0))) (need [UF 1 0 λx=>[],0<=100000] (VM.may True z1 (VM.may True z1 z1))))))))))) VU ?_;have h8:=VR.1;have hp1:1<=2^n:=Cc;have hpi:=uV h8;have h256:=A6 h8;have hgl:=Qb7 n a b c U O 0 0;simp only [VM.sat,UB,G0,GL,UD,UH,orE,Int.toNat_zero];refine ⟨λh=>by simp at h,λ_=>⟨λh=>?_,λh=>?_⟩⟩
 have hf: ¬zS n a b c U O=true:=by
  rw [Ax] at h;rw [h];simp
 rw [if_neg hf];exact ⟨λ_=>rfl,λh=>by simp at h⟩
 have hf:zS n a b c U O=true:=by simpa using h
 rw [if_pos hf];have HX:((xE 0 λx=>[])++orL (orG n a b c U O 0 0)).length<=100000:=by
  rw [Be];simp only [xE,orL,List.range_zero,List.map_nil,List.length_nil,Bm];omega
 refine ⟨λh=>by simp at h,λ_=>⟨VJ,⟨λ_ h=>h.elim,λk hk=>absurd hk (Aq _),λk _=>rfl,VJ,VJ⟩,λ_=>?_,λ_=>?_⟩⟩
 exact ⟨⟨nZ _ _,HX⟩,λ_=>rfl,λ_=>rfl,rfl⟩;exact ⟨⟨λk hk=>absurd hk (Aq _),VJ⟩,λ_=>rfl,λ_=>rfl,rfl⟩
end
def gdX(sz n:Nat)(f:Ci):Prop:= ∀k,k<n->(f k).length=sz/\ ∀x∈f k,isX x/\AV.one x=true
def H4(n:Nat)(f:Cg)(x:Int)(k:Nat):Int:=if k<n then f k else x
def apB(n:Nat)(f:Nat->Bool)(x:Bool)(k:Nat):Bool:=if k<n then f k else x
abbrev crs(n:Nat)(a b c d:Cg)(v:Nat->Bool):AV:= .lst 5 n (λk=>[i (a k),i (b k),i (c k),i (d k),bl (v k)])
theorem lV(f:Ci)(k:Nat):GI 0 (λ_=>[]) f k=f k:=by
 show H6 (decide (k<0)) [] (f (k-0))=_;rw [show decide (k<0)=false by simp]
 rfl
theorem V6{p:Prop}(h:p:=by
 simp only [VM.sat,UB,Xl8,true_and];refine ⟨λh=>h,⟨VJ,λk hk x hm=>((UE k hk).2 x hm).2⟩,VJ,λk hk=>⟨lV f k,λx hm=>((UE k hk).2 x hm).1⟩⟩):p:=h
theorem Wq2(n:Nat)(f:Ci)(VR:n<=100000)(UE:gdX 4 n f):DO VO 99 [.lst 4 n f] 145 4 (n) (f):=by
 refine BO (L:=[]) Aa Ad VZ Tryz.func99 (UU Tryz.f99) G8 (t:=VM.may (n=0) (leaf none) (need [(0+n)*32<=140737488355328,∀(i:Nat),i<n-> ∀(a:AV),a∈f i->AV.one a=true] (leaf (some (145,4,0+n,GI 0 (λx=>[]) λa=>f a))))) VU ?_ (λk hk=>(UE k hk).1);exact V6
def tN:BM:=λl=>match l with
 |[.lst 4 n f]=>some ([n<=100000,gdX 4 n f],145,4,n,f)
 |_=>none
theorem Wq1:Sx.Enters Tryz.prog 99/\ ∀avs ns T sz n g,tN avs=some (ns,T,sz,n,g)->(∀q∈ns,q)->DO VO 99 avs T sz n g:=by
 refine ⟨(UJ Tryz.func99),?_⟩;intro avs ns T sz n g h I;unfold tN at h;split at h;cases h;exact Wq2 _ _ (I _ VT) (I _ VT);cases h
theorem Wq4(n:Nat)(f:Ci)(VR:n<=100000)(UE:gdX 5 n f):DO VO 100 [.lst 5 n f] 74 5 (n) (f):=by
 refine BO (L:=[]) Aa Ad VZ Tryz.func100 (UU Tryz.f100) G8 (t:=VM.may (n=0) (leaf none) (need [(0+n)*40<=140737488355328,∀(i:Nat),i<n-> ∀(a:AV),a∈f i->AV.one a=true] (leaf (some (74,5,0+n,GI 0 (λx=>[]) λa=>f a))))) VU ?_ (λk hk=>(UE k hk).1);exact V6
def bJ:BM:=λl=>match l with
 |[.lst 5 n f]=>some ([n<=100000,gdX 5 n f],74,5,n,f)
 |_=>none
theorem l8:Sx.Enters Tryz.prog 100/\ ∀avs ns T sz n g,bJ avs=some (ns,T,sz,n,g)->(∀q∈ns,q)->DO VO 100 avs T sz n g:=by
 refine ⟨(UJ Tryz.func100),?_⟩;intro avs ns T sz n g h I;unfold bJ at h;split at h;cases h;exact Wq4 _ _ (I _ VT) (I _ VT);cases h
theorem Wq0(n:Nat)(f:Ci)(VR:n<=100000)(UE:gdX 5 n f):DO VO 101 [.lst 5 n f] 152 5 (n) (f):=by
 refine BO (L:=[]) Aa Ad VZ Tryz.func101 (UU Tryz.f101) G8 (t:=VM.may (n=0) (leaf none) (need [(0+n)*40<=140737488355328,∀(i:Nat),i<n-> ∀(a:AV),a∈f i->AV.one a=true] (leaf (some (152,5,0+n,GI 0 (λx=>[]) λa=>f a))))) VU ?_ (λk hk=>(UE k hk).1);exact V6
def tM:BM:=λl=>match l with
 |[.lst 5 n f]=>some ([n<=100000,gdX 5 n f],152,5,n,f)
 |_=>none
theorem Wp9:Sx.Enters Tryz.prog 101/\ ∀avs ns T sz n g,tM avs=some (ns,T,sz,n,g)->(∀q∈ns,q)->DO VO 101 avs T sz n g:=by
 refine ⟨(UJ Tryz.func101),?_⟩;intro avs ns T sz n g h I;unfold tM at h;split at h;cases h;exact Wq0 _ _ (I _ VT) (I _ VT);cases h
theorem Wp8(n:Nat)(f:Ci)(VR:n<=100000)(UE:gdX 2 n f):DO VO 102 [.lst 2 n f] 150 2 (n) (f):=by
 refine BO (L:=[]) Aa Ad VZ Tryz.func102 (UU Tryz.f102) G8 (t:=VM.may (n=0) (leaf none) (need [(0+n)*16<=140737488355328,∀(i:Nat),i<n-> ∀(a:AV),a∈f i->AV.one a=true] (leaf (some (150,2,0+n,GI 0 (λx=>[]) λa=>f a))))) VU ?_ (λk hk=>(UE k hk).1);exact V6
def tL:BM:=λl=>match l with
 |[.lst 2 n f]=>some ([n<=100000,gdX 2 n f],150,2,n,f)
 |_=>none
theorem Wp7:Sx.Enters Tryz.prog 102/\ ∀avs ns T sz n g,tL avs=some (ns,T,sz,n,g)->(∀q∈ns,q)->DO VO 102 avs T sz n g:=by
 refine ⟨(UJ Tryz.func102),?_⟩;intro avs ns T sz n g h I;unfold tL at h;split at h;cases h;exact Wp8 _ _ (I _ VT) (I _ VT);cases h
abbrev rdl(n:Nat)(r v:Cg):AV:= .lst 2 n (λk=>[i (r k),i (v k)])
theorem V2{p:Prop}(h:p:=by
 have e0:j-n=0:=VJ;show H6 (decide (j<n)) _ (U4 _ _ (j-n))=_;rw [e0];rcases (show j<n\/j=n by omega) with h|rfl
 rw [decide_eq_true h];simp only [H4,apB,if_pos h];rfl;rw [show decide (j<j)=false by simp]
 simp only [H4,apB,if_neg (Bf j)];rfl):p:=h
section
variable (n:Nat)
theorem Zo1(a b u v:Cg)(x0 A W S:Int)(VR:n<=100000):VX VO 204 [rds n a b u v,.agg [i x0,i A,i W,i S]] (rds (n+1) (H4 n a x0) (H4 n b A) (H4 n u W) (H4 n v S)):=by
 refine GA (X:={R:=[],H:=[],C:=[],F:=[(99,tN)],D:=[] }) (L:=[]) Aa (VW.ofF Ab Ac (U8.nil _) (RX.cons Wq1 (RX.nil _)) (B5.nil _)) VZ Tryz.func204 (UU Tryz.f204) G8 (t:=need [n<=100000,gdX 4 n λk=>[Bo.i (a k),Bo.i (b k),Bo.i (u k),Bo.i (v k)]] (need [(n+1)*32<=140737488355328,RP 1 (U4 4 [iI x0,iI A,iI W,iI S])] (leaf (RV.lst 4 (n+1) (GI n ((rq4 a b u v)) (U4 4 [iI x0,iI A,iI W,iI S])))))) VU ?_;simp only [VM.sat,UB,G0,GL,UD,UH];have hg:gdX 4 n (λk=>[i (a k),i (b k),i (u k),i (v k)]):=λk _=>⟨rfl,λx hx=>by
  simp only [GM,DL,or_false] at hx;rcases hx with rfl|rfl|rfl|rfl<;>exact ⟨Ak,by simp [AV.one,Value.oneCell']⟩⟩
 refine ⟨⟨VR,hg⟩,⟨VJ,λj hj x hx=>?_⟩,?_⟩;obtain rfl:j=0:=VJ;have hx:x∈[i x0,i A,i W,i S]:=hx;simp only [GM,DL,or_false] at hx;rcases hx with rfl|rfl|rfl|rfl<;>simp [AV.one,Value.oneCell'];intro j hj;refine ⟨?_,λx hx=>?_⟩;exact V2;simp only [GM,DL,or_false] at hx;rcases hx with rfl|rfl|rfl|rfl<;>exact Ak
def Qj6(a b u v:Cg):UX
 |[.lst 4 n1 f1,.agg [.x (.int .i64 x0),.x (.int .i64 A),.x (.int .i64 W),.x (.int .i64 S)]]=>some ([lst 4 n1 f1=rds n a b u v,n<=100000],rds (n+1) (H4 n a x0) (H4 n b A) (H4 n u W) (H4 n v S))
 |_=>none
theorem Xk1(a b u v:Cg):VP VO 204 (Qj6 n a b u v):=by
 refine ⟨(UJ Tryz.func204),?_⟩;intro avs ns res h I;unfold Qj6 at h;split at h;cases h;have e:=I _ GD;rw [e];exact Zo1 n a b u v _ _ _ _ (I _ VT);cases h
theorem Zo0(a b c U O:Cg)(x0 A W S x4:Int)(VR:n<=100000):VX VO 212 [sls n a b c U O,.agg [i x0,i A,i W,i S,i x4]] (sls (n+1) (H4 n a x0) (H4 n b A) (H4 n c W) (H4 n U S) (H4 n O x4)):=by
 refine GA (X:={R:=[],H:=[],C:=[],F:=[(101,tM)],D:=[] }) (L:=[]) Aa (VW.ofF Ab Ac (U8.nil _) (RX.cons Wp9 (RX.nil _)) (B5.nil _)) VZ Tryz.func212 (UU Tryz.f212) G8 (t:=need [n<=100000,gdX 5 n λk=>[i (a k),i (b k),i (c k),i (U k),i (O k)]] (need [(n+1)*40<=140737488355328,RP 1 (U4 5 [iI x0,iI A,iI W,iI S,iI x4])] (leaf (RV.lst 5 (n+1) (GI n (λk=>[iI (a k),iI (b k),iI (c k),iI (U k),iI (O k)]) (U4 5 [iI x0,iI A,iI W,iI S,iI x4])))))) VU ?_;simp only [VM.sat,UB,G0,GL,UD,UH];have hg:gdX 5 n (λk=>[i (a k),i (b k),i (c k),i (U k),i (O k)]):=λk _=>⟨rfl,λx hx=>by
  simp only [GM,DL,or_false] at hx;rcases hx with rfl|rfl|rfl|rfl|rfl<;>exact ⟨Ak,by simp [AV.one,Value.oneCell']⟩⟩
 refine ⟨⟨VR,hg⟩,⟨VJ,λj hj x hx=>?_⟩,?_⟩;obtain rfl:j=0:=VJ;have hx:x∈[i x0,i A,i W,i S,i x4]:=hx;simp only [GM,DL,or_false] at hx;rcases hx with rfl|rfl|rfl|rfl|rfl<;>simp [AV.one,Value.oneCell'];intro j hj;refine ⟨?_,λx hx=>?_⟩;exact V2;simp only [GM,DL,or_false] at hx;rcases hx with rfl|rfl|rfl|rfl|rfl<;>exact Ak
def Qj5(a b c U O:Cg):UX
 |[.lst 5 n1 f1,.agg [.x (.int .i64 x0),.x (.int .i64 A),.x (.int .i64 W),.x (.int .i64 S),.x (.int .i64 x4)]]=>some ([lst 5 n1 f1=sls n a b c U O,n<=100000],sls (n+1) (H4 n a x0) (H4 n b A) (H4 n c W) (H4 n U S) (H4 n O x4))
 |_=>none
theorem Xk0(a b c U O:Cg):VP VO 212 (Qj5 n a b c U O):=by
 refine ⟨(UJ Tryz.func212),?_⟩;intro avs ns res h I;unfold Qj5 at h;split at h;cases h;have e:=I _ GD;rw [e];exact Zo0 n a b c U O _ _ _ _ _ (I _ VT);cases h
theorem Zn9(r v:Cg)(x0 A:Int)(VR:n<=100000):VX VO 210 [rdl n r v,.agg [i x0,i A]] (rdl (n+1) (H4 n r x0) (H4 n v A)):=by
 refine GA (X:={R:=[],H:=[],C:=[],F:=[(102,tL)],D:=[] }) (L:=[]) Aa (VW.ofF Ab Ac (U8.nil _) (RX.cons Wp7 (RX.nil _)) (B5.nil _)) VZ Tryz.func210 (UU Tryz.f210) G8 (t:=need [n<=100000,gdX 2 n λk=>[i (r k),i (v k)]] (need [(n+1)*16<=140737488355328,RP 1 (U4 2 [iI x0,iI A])] (leaf (RV.lst 2 (n+1) (GI n (λk=>[iI (r k),iI (v k)]) (U4 2 [iI x0,iI A])))))) VU ?_;simp only [VM.sat,UB,G0,GL,UD,UH];have hg:gdX 2 n (λk=>[i (r k),i (v k)]):=λk _=>⟨rfl,λx hx=>by
  simp only [GM,DL,or_false] at hx;rcases hx with rfl|rfl<;>exact ⟨Ak,by simp [AV.one,Value.oneCell']⟩⟩
 refine ⟨⟨VR,hg⟩,⟨VJ,λj hj x hx=>?_⟩,?_⟩;obtain rfl:j=0:=VJ;have hx:x∈[i x0,i A]:=hx;simp only [GM,DL,or_false] at hx;rcases hx with rfl|rfl<;>simp [AV.one,Value.oneCell'];intro j hj;refine ⟨?_,λx hx=>?_⟩;exact V2;simp only [GM,DL,or_false] at hx;rcases hx with rfl|rfl<;>exact Ak
def Qj4(r v:Cg):UX
 |[.lst 2 n1 f1,.agg [.x (.int .i64 x0),.x (.int .i64 A)]]=>some ([lst 2 n1 f1=rdl n r v,n<=100000],rdl (n+1) (H4 n r x0) (H4 n v A))
 |_=>none
theorem Xj9(r v:Cg):VP VO 210 (Qj4 n r v):=by
 refine ⟨(UJ Tryz.func210),?_⟩;intro avs ns res h I;unfold Qj4 at h;split at h;cases h;have e:=I _ GD;rw [e];exact Zn9 n r v _ _ (I _ VT);cases h
theorem Zo2(a b c d:Cg)(w:Nat->Bool)(x0 A W S:Int)(xw:Bool)(VR:n<=100000):VX VO 211 [crs n a b c d w,.agg [i x0,i A,i W,i S,bl xw]] (crs (n+1) (H4 n a x0) (H4 n b A) (H4 n c W) (H4 n d S) (apB n w xw)):=by
 refine GA (X:={R:=[],H:=[],C:=[],F:=[(100,bJ)],D:=[] }) (L:=[]) Aa (VW.ofF Ab Ac (U8.nil _) (RX.cons l8 (RX.nil _)) (B5.nil _)) VZ Tryz.func211 (UU Tryz.f211) G8 (t:=need [n<=100000,gdX 5 n λk=>[i (a k),i (b k),i (c k),i (d k),bl (w k)]] (need [(n+1)*40<=140737488355328,RP 1 (U4 5 [iI x0,iI A,iI W,iI S,AV.x (.bool xw)])] (leaf (RV.lst 5 (n+1) (GI n (λk=>[iI (a k),iI (b k),iI (c k),iI (d k),AV.x (.bool (w k))]) (U4 5 [iI x0,iI A,iI W,iI S,AV.x (.bool xw)])))))) VU ?_;simp only [VM.sat,UB,G0,GL,UD,UH];have hg:gdX 5 n (λk=>[i (a k),i (b k),i (c k),i (d k),bl (w k)]):=λk _=>⟨rfl,λx hx=>by
  simp only [GM,DL,or_false] at hx;rcases hx with rfl|rfl|rfl|rfl|rfl<;>exact ⟨Ak,by simp [AV.one,Value.oneCell']⟩⟩
 refine ⟨⟨VR,hg⟩,⟨VJ,λj hj x hx=>?_⟩,?_⟩;obtain rfl:j=0:=VJ;have hx:x∈[i x0,i A,i W,i S,bl xw]:=hx;simp only [GM,DL,or_false] at hx;rcases hx with rfl|rfl|rfl|rfl|rfl<;>simp [AV.one,Value.oneCell'];intro j hj;refine ⟨?_,λx hx=>?_⟩;exact V2;simp only [GM,DL,or_false] at hx;rcases hx with rfl|rfl|rfl|rfl|rfl<;>exact Ak
def Qj7(a b c d:Cg)(w:Nat->Bool):UX
 |[.lst 5 n1 f1,.agg [.x (.int .i64 x0),.x (.int .i64 A),.x (.int .i64 W),.x (.int .i64 S),.x (.bool xw)]]=>some ([lst 5 n1 f1=crs n a b c d w,n<=100000],crs (n+1) (H4 n a x0) (H4 n b A) (H4 n c W) (H4 n d S) (apB n w xw))
 |_=>none
theorem Xk2(a b c d:Cg)(w:Nat->Bool):VP VO 211 (Qj7 n a b c d w):=by
 refine ⟨(UJ Tryz.func211),?_⟩;intro avs ns res h I;unfold Qj7 at h;split at h;cases h;have e:=I _ GD;rw [e];exact Zo2 n a b c d w _ _ _ _ _ (I _ VT);cases h
end
def RN:UX
 |[.x (.int .i64 n),.x (.int .i64 U),.x (.int .i64 O)]=>some ([],bl (bt U n O))
 |_=>none
theorem pJ(n U O:Int):VX VO 36 [i n,i U,i O] (bl (bt U n O)):=by
 refine GW Tryz.func36 (t:=branch (decide (U<=n)) (leaf (RV.x (.bool (decide (n<=O))))) (leaf (RV.x (W6)))) VU ?_;exact VA
theorem PV:VP VO 36 RN:=by
 refine ⟨(UJ Tryz.func36),?_⟩;intro avs ns res h I;unfold RN at h;split at h;cases h;exact pJ _ _ _;cases h
end Go.Proofs.YtakpdkmhclhlnaaGreatDoor.Hd
namespace Go.Proofs.YtakpdkmhclhlnaaGreatDoor
open Go Go.Sx Go.RowKit
open Go.Sx.VM (need branch leaf)
open Go.Sx.AV (lst ptr agg roI tup top)
theorem Zm5:Tryz.prog.follows .mixedOrders=true:=VU
abbrev IS(d:TypeId)(k:Value):Value:= .iface d (.agg #[k])
noncomputable abbrev RC:DZ:=A1 Tryz.prog [] {} [] [] Tryz.f145 (U7 Tryz.f145)
theorem RR:D7 VO 145 RC:=
 FR (G:=[]) (X:={}) Aa (λcx=>VW.nil _ cx) (UT.nil _) Zm5 (UJ Tryz.func145) Tryz.func145 (UU Tryz.f145)
  (λj I _ sp A=>by simp at A)
end Go.Proofs.YtakpdkmhclhlnaaGreatDoor
namespace Go.Proofs.YtakpdkmhclhlnaaGreatDoor.Hd
open Go Go.Shelf Go.Sx
theorem Wa9{e:UL}{w:World}(hgl:DH e w):Lib.TabIs Tryz.prog w "internal/strconv.uint64pow10" .u64 Lib.pow10Tab:=by
 obtain ⟨_,_,o,ho,_,T,fr,rfl⟩:=hgl 0 _ rfl;have hg:Tryz.prog.globalNamed "internal/strconv.uint64pow10"=some 0:=VU;unfold Lib.TabIs World.var?;rw [hg];show (match w.heap[0]? with|some (.cells cs _ _)=>some cs|_=>none)=_
 rw [ho];simp [Lib.pow10Tab]
theorem Zm6{e:UL}{w:World}(hgl:DH e w): ∃m,w.cell? ⟨1,0,none⟩=some (.int .i64 m):=by
 obtain ⟨_,_,o,ho,_,m,T,fr,rfl⟩:=hgl 1 _ rfl;exact ⟨m,by simp [World.cell?,ho]⟩
theorem Xj2(n:Int)(VR:VL n):VX VO 69 [.x (.int .i64 n)] (.x (.string ⟨(Lib.itoa n).toArray⟩)):=by
 intro e w args hro hgl FP hr;obtain ⟨u,us,rfl,h1,h2⟩:=hr.cons_inv;cases h2.nil_inv;cases h1.x_inv;unfold VL at VR;refine Calls.mono (Any.strconv_Itoa Qc5 n VJ VJ w (Wa9 hgl)) ?_;rintro en w' ⟨rfl,k,os,rfl⟩;exact ⟨_,rfl,Lib.below_grow _ w (Am _) k os,.x _⟩
def fK:UX
 |[.x (.int .i64 n)]=>some ([VL n],.x (.string ⟨(Lib.itoa n).toArray⟩))
 |_=>none
theorem a9:VP VO 69 fK:=by
 refine ⟨(UJ Tryz.func69),?_⟩;intro avs ns res h hn;unfold fK at h;split at h;cases h;exact Xj2 _ (hn _ VT);cases h
def spl(s sep:ByteArray):List ByteArray:=Lib.splitB sep 0 (Lib.countB s sep) s
theorem Wb2(s sep:ByteArray)(hs:s.size<4294967281)(h1:1<=sep.size):VX VO 143 [.x (.string s),.x (.string sep)] (.lst 1 (Lib.countB s sep+1) (λk=>[.x (.string ((spl s sep).getD k ByteArray.empty))])):=by
 intro e w args hro hgl FP hr;obtain ⟨u,us,rfl,r1,r2⟩:=hr.cons_inv;obtain ⟨u2,us2,rfl,r3,r4⟩:=r2.cons_inv;cases r4.nil_inv;cases r1.x_inv;cases r3.x_inv;obtain ⟨m,hm⟩:=Zm6 hgl;have hle:=Lib.countB_le sep h1 s.size s (Am _);have HX:=Lib.splitB_all sep h1 0 _ s rfl;refine Calls.mono (Any.strings_Split Wi0 VU s sep m w hs hm h1) ?_;rintro en w' ⟨rfl,rfl⟩;generalize hobj:Obj.cells (List.map Value.string (Lib.splitB sep 0 (Lib.countB s sep) s)).toArray (gG.t 9)=ob;have hsz:(w.alloc ob).heap.size=w.heap.size+1:=VT;refine ⟨_,rfl,(RowKit.Below.refl w.heap.size w).alloc (Am _) _,?_⟩;refine Rep.lst (e:=PE w (w.alloc ob)) 1 _ _ w.heap.size 0 _ (λi _=> .string ((spl s sep).getD i ByteArray.empty)) (λ_=>(show w.heap.size<=w.heap.size/\w.heap.size<(w.alloc ob).heap.size by omega)) (λ_=>VJ) (λi _ a ha=>?_) (Am _) (by unfold maxLen;omega) (λi j O hj=>?_) (λ_ _=>rfl) (λi j a O ha=>?_) _ (λ_=>rfl)
 simp at ha;subst ha;exact .x _
 ·obtain rfl:j=0:=VJ;have hi':i<(spl s sep).length:=by unfold spl;omega
  have hh:(w.alloc ob).heap[w.heap.size]? =some ob:=by first|(rw [World.alloc_eq];simp;done)|(simp only [World.alloc_eq,Array.getElem?_push_size];done)|exact Array.getElem?_push_size|(unfold World.alloc;exact Array.getElem?_push_size)
  unfold World.cell?;rw [hh,←hobj];have e:0+(i*1+0)=i:=VJ;show (List.map Value.string (spl s sep)).toArray[0+(i*1+0)]? =_;rw [e];simp [hi']
 cases j with
 |zero=>simp at ha;subst ha;exact .x _
 |succ j=>simp at ha
open Go Go.Shelf Go.Sx Go.RowKit
def U0(s:ByteArray):Int:=match Lib.atoiAll s.data.toList with
 | .ok v=>v
 |_=>0
def rY(s:ByteArray):Bool:=match Lib.atoiAll s.data.toList with
 | .ok v=>decide (Lib.itoa v=s.data.toList)&&decide ((Lib.trimPrefix s.data.toList [45]).length<=9)
 |_=>false
theorem qO{l:List UInt8}{s:ByteArray}:(⟨l.toArray⟩:ByteArray)=s↔l=s.data.toList:=by
 constructor;rintro rfl;rfl;rintro rfl;cases s;rfl
theorem sO(k:Int)(w:World):Calls Tryz.prog 145 #[.bool false,.int .i64 k] w λen w'=>en= .panicked [{v:=IS 211 (.int .i64 k),recovered:=false}]/\w'=w:=by
 go_enter Tryz.func145,Tryz.ntmps145
 go_wp2
 exact ⟨rfl,rfl,rfl⟩
theorem Xo6(k:Int)(w:World):Calls Tryz.prog 145 #[.bool true,.int .i64 k] w λen w'=>en= .returned (.tuple #[])/\w'=w:=by
 go_enter Tryz.func145,Tryz.ntmps145
 go_wp2
 go_end0
 exact ⟨rfl,rfl⟩
theorem vW{e:UL}{w w1:World}(h:DH e w)(hb:Below w.heap.size w w1):DH e w1:=λb p hp=>by
 obtain ⟨h1,h2,o,h3,h4⟩:=h b p hp;exact ⟨h1,xV h2 hb.size,o,(hb.block b h2).trans h3,h4⟩
theorem kK{w w1:World}{T:TypeId}(h:w1=w\/ ∃t,w1=Lib.bytesWorld w T t):Below w.heap.size w w1:=by
 rcases h with rfl|⟨t,rfl⟩;exact Below.refl _ _;exact Lib.bytesWorld_below w _ _
theorem Qf9{l:List UInt8}{v:Int}(h:Lib.atoiAll l= .ok v): -9223372036854775808<=v/\v<=9223372036854775807:=by
 unfold Lib.atoiAll at h;split at h;cases h;simp only at h;split at h;cases h;cases h;split at h;cases h;split at h;cases h;cases h;split<;>omega
theorem vN{v:Int}(h: -9223372036854775808<=v/\v<=9223372036854775807){e:UL}{w:World}(hgl:DH e w):Calls Tryz.prog 69 #[.int .i64 v] w λen w'=>en= .returned (.string ⟨(Lib.itoa v).toArray⟩)/\Below w.heap.size w w':=by
 refine Calls.mono (Any.strconv_Itoa Qc5 v h.1 h.2 w (Wa9 hgl)) ?_;rintro en w' ⟨rfl,k,os,rfl⟩;exact ⟨rfl,Lib.below_grow _ w (Am _) k os⟩
theorem v7(s p:ByteArray)(w:World):Calls Tryz.prog 182 #[.string s,.string p] w λen w'=>en= .returned (.string ⟨(Lib.trimPrefix s.data.toList p.data.toList).toArray⟩)/\w'=w:=Any.strings_TrimPrefix Xi6 s p w
theorem Zq3{e:UL}{w:World}(hgl:DH e w):(∃ev,w.cell? ⟨2,0,none⟩=some ev/\(ev= .nilIface\/ ∃te pe,ev= .iface te pe))/\ ∃ev,w.cell? ⟨3,0,none⟩=some ev/\(ev= .nilIface\/ ∃te pe,ev= .iface te pe):=by
 obtain ⟨_,_,o,h3,_,te,pe,T,fr,rfl⟩:=hgl 2 _ rfl;obtain ⟨_,_,o,k3,_,te',pe',T',fr',rfl⟩:=hgl 3 _ rfl;exact ⟨⟨.iface te pe,by simp [World.cell?,h3],.inr ⟨te,pe,rfl⟩⟩,⟨.iface te' pe',by simp [World.cell?,k3],.inr ⟨te',pe',rfl⟩⟩⟩
theorem oR(s:ByteArray)(hs:s.size<=100000)(hb:rY s=true){e:UL}{w:World}(hgl:DH e w):Calls Tryz.prog 146 #[.string s] w λen w'=>en= .returned (.int .i64 (U0 s))/\Below w.heap.size w w':=by
 unfold rY at hb;split at hb
 ·rename_i v hv;rw [GU,qQ,qQ] at hb;have hA:=Any.strconv_Atoi_ok AC s VJ v hv w;have hnv:U0 s=v:=by unfold U0;rw [hv]
  rw [hnv];have hin:=Qf9 hv
  change Calls Tryz.prog 147 _ _ _ at hA
  have heq2:(⟨(Lib.itoa v).toArray⟩:ByteArray)=s:=qO.2 hb.1;have hle:(decide (((Lib.trimPrefix s.data.toList [45]).length:Int)<=9))=true:=decide_eq_true VJ
  go_enter Tryz.func146,Tryz.ntmps146
  go_wp2_with (go_at_call 147;refine hA.mono ?_;rintro en w1 ⟨rfl,hw1⟩)
  have hb1:=kK hw1;refine (vN hin (vW hgl hb1)).mono ?_;rintro en w2 ⟨rfl,hb2⟩;have hb3:Below w.heap.size w w2:=hb1.trans (hb2.mono hb1.size)
  go_wp2_with (go_at_call 182;refine (v7 _ _ _).mono ?_;rintro en w3 ⟨rfl,rfl⟩)
  try rw [hle]
  refine (Xo6 _ _).mono ?_;rintro en w4 ⟨rfl,rfl⟩
  go_wp2
  go_ret
  exact ⟨rfl,hb3⟩
 cases hb
theorem Qo0(s:ByteArray)(hs:s.size<=100000)(hb:rY s=false){e:UL}{w:World}(hgl:DH e w):Calls Tryz.prog 146 #[.string s] w λen w'=>en= .panicked [{v:=IS 211 (.int .i64 4),recovered:=false}]/\Below w.heap.size w w':=by
 obtain ⟨⟨ev0,he0,he0'⟩,⟨ev1,he1,he1'⟩⟩:=Zq3 hgl;unfold rY at hb;split at hb;rename_i v hv;have hA:=Any.strconv_Atoi_ok AC s VJ v hv w;have hin:=Qf9 hv
 change Calls Tryz.prog 147 _ _ _ at hA
 rcases Classical.em (Lib.itoa v=s.data.toList) with h1|h1
 ·have heq2:(⟨(Lib.itoa v).toArray⟩:ByteArray)=s:=qO.2 h1;rw [decide_eq_true h1,Bool.true_and,aDef] at hb;have hle:(decide (((Lib.trimPrefix s.data.toList [45]).length:Int)<=9))=false:=decide_eq_false VJ
  go_enter Tryz.func146,Tryz.ntmps146
  go_wp2_with (go_at_call 147;refine hA.mono ?_;rintro en w1 ⟨rfl,hw1⟩)
  have hb1:=kK hw1;refine (vN hin (vW hgl hb1)).mono ?_;rintro en w2 ⟨rfl,hb2⟩;have hb3:Below w.heap.size w w2:=hb1.trans (hb2.mono hb1.size)
  go_wp2_with (go_at_call 182;refine (v7 _ _ _).mono ?_;rintro en w3 ⟨rfl,rfl⟩)
  try rw [hle]
  refine (sO _ _).mono ?_;rintro en w4 ⟨rfl,rfl⟩;exact ⟨rfl,rfl,hb3⟩
 ·have hne: ¬(⟨(Lib.itoa v).toArray⟩:ByteArray)=s:=λh=>h1 (qO.1 h)
  go_enter Tryz.func146,Tryz.ntmps146
  go_wp2_with (go_at_call 147;refine hA.mono ?_;rintro en w1 ⟨rfl,hw1⟩)
  have hb1:=kK hw1;refine (vN hin (vW hgl hb1)).mono ?_;rintro en w2 ⟨rfl,hb2⟩;have hb3:Below w.heap.size w w2:=hb1.trans (hb2.mono hb1.size)
  go_wp2_with (go_at_call 182;refine (v7 _ _ _).mono ?_;rintro en w3 ⟨rfl,rfl⟩)
  exact absurd ‹Lib.itoa v=s.toList› (λhx=>h1 (hx.trans (ByteArray.toList_eq s)));refine (sO _ _).mono ?_;rintro en w4 ⟨rfl,rfl⟩;exact ⟨rfl,rfl,hb3⟩
 ·rename_i hno;have hA:Calls Tryz.prog 147 #[.string s] w λen w'=>(∃k te pe,en= .returned (.tuple #[.int .i64 k,.iface te pe]))/\Below w.heap.size w w':=by
   cases h:Lib.atoiAll s.data.toList;rename_i v;exact absurd h (hno v);refine Calls.mono (Any.strconv_Atoi_syntax AC s VJ h ev0 w he0 he0') ?_;rintro en w' ⟨N,rfl,_,_,hb⟩;exact ⟨⟨_,_,_,rfl⟩,hb⟩;refine Calls.mono (Any.strconv_Atoi_range AC s VJ h ev1 w he1 he1') ?_;rintro en w' ⟨N,rfl,_,_,hb⟩;exact ⟨⟨_,_,_,rfl⟩,hb⟩
  go_enter Tryz.func146,Tryz.ntmps146
  go_wp2_with (go_at_call 147;refine hA.mono ?_;rintro en w1 ⟨⟨k,te,pe,rfl⟩,hb3⟩)
  refine (sO _ _).mono ?_;rintro en w4 ⟨rfl,rfl⟩;exact ⟨rfl,rfl,hb3⟩
def jD:DZ:=λavs m nx sv=>match avs with
 |[.x (.string s)]=>some (.need [s.size<=100000] (.branch (rY s) (.leaf (.ret (.x (.int .i64 (U0 s))),m,nx,sv)) (.leaf (.pan (IS 211 (.int .i64 4)),m,nx,sv))))
 |_=>none
theorem wO:D7 VO 146 jD:=by
 refine ⟨(UJ Tryz.func146),?_⟩;intro avs m nx sv t ht Q hQ c w0 T e ds args w hE hB hm hl LQ hxt hr;unfold jD at ht;split at ht;rename_i s;cases ht;obtain ⟨hs,hQ⟩:=hQ;obtain ⟨u,us,rfl,h1,h2⟩:=hr.cons_inv;cases h2.nil_inv;cases h1.x_inv;have key: ∀{w':World},Below w.heap.size w w'->Step e e w w'/\UY e w0.heap.size w'/\Below w0.heap.size w0 w':=by
  intro w' hb;have st:Step e e w w':=⟨λb hlt hr=>⟨hr,hb.block b hlt⟩,λ_ h=>⟨h,rfl,rfl⟩,hb.size⟩;exact ⟨st,⟨λb h=>⟨(hE.apart b h).1,xV (hE.apart b h).2 hb.size⟩,λb k h=>⟨(hE.owned b k h).1,xV (hE.owned b k h).2 hb.size⟩,hE.glob.step st⟩,hB.trans (hb.mono hB.size)⟩
 cases hb:rY s with
 |true=>
  refine (oR s hs hb hE.glob).mono ?_;rintro en w' ⟨rfl,hbl⟩;obtain ⟨k1,k2,k3⟩:=key hbl;exact ⟨.ret (.x (.int .i64 (U0 s))),_,_,_,e,⟨_,rfl,.x _⟩,hQ.1 hb,k2,k3,hm.ext hbl k1 (λ_ _ h=>h),hl,LQ,hxt.step k1⟩
 |false=>
  refine (Qo0 s hs hb hE.glob).mono ?_;rintro en w' ⟨rfl,hbl⟩;obtain ⟨k1,k2,k3⟩:=key hbl;exact ⟨.pan (IS 211 (.int .i64 4)),_,_,_,e,rfl,hQ.2 hb,k2,k3,hm.ext hbl k1 (λ_ _ h=>h),hl,LQ,hxt.step k1⟩
 cases ht
def wdE:List MapEntry:=[{key:= .string ⟨#[116,104,114,101,97,100]⟩,val:= .agg #[.int .i64 4,.func (.func 174) #[] #[]],born:=0},
 {key:= .string ⟨#[115,116,114,105,107,101]⟩,val:= .agg #[.int .i64 1,.func (.func 175) #[] #[]],born:=1},
 {key:= .string ⟨#[98,97,114,111]⟩,val:= .agg #[.int .i64 2,.func (.func 176) #[] #[]],born:=2},
 {key:= .string ⟨#[98,97,116,104]⟩,val:= .agg #[.int .i64 2,.func (.func 177) #[] #[]],born:=3},
 {key:= .string ⟨#[115,101,101]⟩,val:= .agg #[.int .i64 2,.func (.func 178) #[] #[]],born:=4},
 {key:= .string ⟨#[105,115,115,117,101]⟩,val:= .agg #[.int .i64 4,.func (.func 179) #[] #[]],born:=5},
 {key:= .string ⟨#[118,111,105,100]⟩,val:= .agg #[.int .i64 1,.func (.func 180) #[] #[]],born:=6},
 {key:= .string ⟨#[115,101,108,108]⟩,val:= .agg #[.int .i64 5,.func (.func 181) #[] #[]],born:=7}]
theorem wA(w:World)(es:Array MapEntry)(c:Nat)(s:ByteArray)(val:Value)(hf:Instr.findNow .string (.string s) es.toList 0=some none):
  (Instr.mapUpdate 262 (.map (some w.heap.size)) (.string s) val).run Tryz.prog (w.alloc (.map es c))= .ok () (w.alloc (.map (es.push {key:= .string s,val:=val,born:=c}) (c+1))):=by
 have hm:Tryz.prog.underlying 262=some (.map 9 260):=VU;have hk:Tryz.prog.underlying 9=some .string:=VU;have hb:(w.alloc (.map es c)).heap[w.heap.size]? =some (.map es c):=World.alloc_heap_new w _;have hc:(Instr.checkKey false 10000 9 (.string s)).run Tryz.prog (w.alloc (.map es c))= .ok () (w.alloc (.map es c)):=MapKept.run_checkKey (k:= .string s) hk (by simp [MapKept.IsKey]) false 9999
 have hp: ∀o o':Obj,({w.alloc o with heap:=(w.alloc o).heap.setIfInBounds w.heap.size o'}:World)=w.alloc o':=λo o'=>by
  have ha:(w.heap.push o).setIfInBounds w.heap.size o'=w.heap.push o':=Array.toList_inj.1 (by simp [List.set_append])
  have h0: ∀q:Obj,(w.alloc q).heap=w.heap.push q:=λq=>rfl;rw [h0,ha];rfl
 have h1:(Instr.mapUpdate 262 (.map (some w.heap.size)) (.string s) val).run Tryz.prog (w.alloc (.map es c))= .ok () {w.alloc (.map es c) with heap:=(w.alloc (.map es c)).heap.setIfInBounds w.heap.size (.map (es.push {key:= .string s,val:=val,born:=c}) (c+1)) }:=by
  simp only [Instr.mapUpdate,At,run_underlying hm,MapKept.run_getObj_map hb,hc,MapKept.run_findKey hk hf,MapKept.run_setObj_map _ hb,Result.andThen]
 rw [h1,hp]
theorem M5(w:World):Calls Tryz.prog 144 #[] w λen w'=>en= .returned (.map (some w.heap.size))/\w'=w.alloc (.map wdE.toArray 8):=by
 have i0:=run_makeMap (P:=Tryz.prog) 262 w;have i1:=wA w #[] 0 ⟨#[116,104,114,101,97,100]⟩ (.agg #[.int .i64 4,.func (.func 174) #[] #[]]) (by rfl)
 have i2:=wA w #[{key:= .string ⟨#[116,104,114,101,97,100]⟩,val:= .agg #[.int .i64 4,.func (.func 174) #[] #[]],born:=0}] 1 ⟨#[115,116,114,105,107,101]⟩ (.agg #[.int .i64 1,.func (.func 175) #[] #[]]) (by rfl)
 have i3:=wA w #[{key:= .string ⟨#[116,104,114,101,97,100]⟩,val:= .agg #[.int .i64 4,.func (.func 174) #[] #[]],born:=0},{key:= .string ⟨#[115,116,114,105,107,101]⟩,val:= .agg #[.int .i64 1,.func (.func 175) #[] #[]],born:=1}] 2 ⟨#[98,97,114,111]⟩ (.agg #[.int .i64 2,.func (.func 176) #[] #[]]) (by rfl)
 have i4:=wA w #[{key:= .string ⟨#[116,104,114,101,97,100]⟩,val:= .agg #[.int .i64 4,.func (.func 174) #[] #[]],born:=0},{key:= .string ⟨#[115,116,114,105,107,101]⟩,val:= .agg #[.int .i64 1,.func (.func 175) #[] #[]],born:=1},{key:= .string ⟨#[98,97,114,111]⟩,val:= .agg #[.int .i64 2,.func (.func 176) #[] #[]],born:=2}] 3 ⟨#[98,97,116,104]⟩ (.agg #[.int .i64 2,.func (.func 177) #[] #[]]) (by rfl)
 have i5:=wA w #[{key:= .string ⟨#[116,104,114,101,97,100]⟩,val:= .agg #[.int .i64 4,.func (.func 174) #[] #[]],born:=0},{key:= .string ⟨#[115,116,114,105,107,101]⟩,val:= .agg #[.int .i64 1,.func (.func 175) #[] #[]],born:=1},{key:= .string ⟨#[98,97,114,111]⟩,val:= .agg #[.int .i64 2,.func (.func 176) #[] #[]],born:=2},{key:= .string ⟨#[98,97,116,104]⟩,val:= .agg #[.int .i64 2,.func (.func 177) #[] #[]],born:=3}] 4 ⟨#[115,101,101]⟩ (.agg #[.int .i64 2,.func (.func 178) #[] #[]]) (by rfl)
 have i6:=wA w #[{key:= .string ⟨#[116,104,114,101,97,100]⟩,val:= .agg #[.int .i64 4,.func (.func 174) #[] #[]],born:=0},{key:= .string ⟨#[115,116,114,105,107,101]⟩,val:= .agg #[.int .i64 1,.func (.func 175) #[] #[]],born:=1},{key:= .string ⟨#[98,97,114,111]⟩,val:= .agg #[.int .i64 2,.func (.func 176) #[] #[]],born:=2},{key:= .string ⟨#[98,97,116,104]⟩,val:= .agg #[.int .i64 2,.func (.func 177) #[] #[]],born:=3},{key:= .string ⟨#[115,101,101]⟩,val:= .agg #[.int .i64 2,.func (.func 178) #[] #[]],born:=4}] 5 ⟨#[105,115,115,117,101]⟩ (.agg #[.int .i64 4,.func (.func 179) #[] #[]]) (by rfl)
 have i7:=wA w #[{key:= .string ⟨#[116,104,114,101,97,100]⟩,val:= .agg #[.int .i64 4,.func (.func 174) #[] #[]],born:=0},{key:= .string ⟨#[115,116,114,105,107,101]⟩,val:= .agg #[.int .i64 1,.func (.func 175) #[] #[]],born:=1},{key:= .string ⟨#[98,97,114,111]⟩,val:= .agg #[.int .i64 2,.func (.func 176) #[] #[]],born:=2},{key:= .string ⟨#[98,97,116,104]⟩,val:= .agg #[.int .i64 2,.func (.func 177) #[] #[]],born:=3},{key:= .string ⟨#[115,101,101]⟩,val:= .agg #[.int .i64 2,.func (.func 178) #[] #[]],born:=4},{key:= .string ⟨#[105,115,115,117,101]⟩,val:= .agg #[.int .i64 4,.func (.func 179) #[] #[]],born:=5}] 6 ⟨#[118,111,105,100]⟩ (.agg #[.int .i64 1,.func (.func 180) #[] #[]]) (by rfl)
 have i8:=wA w #[{key:= .string ⟨#[116,104,114,101,97,100]⟩,val:= .agg #[.int .i64 4,.func (.func 174) #[] #[]],born:=0},{key:= .string ⟨#[115,116,114,105,107,101]⟩,val:= .agg #[.int .i64 1,.func (.func 175) #[] #[]],born:=1},{key:= .string ⟨#[98,97,114,111]⟩,val:= .agg #[.int .i64 2,.func (.func 176) #[] #[]],born:=2},{key:= .string ⟨#[98,97,116,104]⟩,val:= .agg #[.int .i64 2,.func (.func 177) #[] #[]],born:=3},{key:= .string ⟨#[115,101,101]⟩,val:= .agg #[.int .i64 2,.func (.func 178) #[] #[]],born:=4},{key:= .string ⟨#[105,115,115,117,101]⟩,val:= .agg #[.int .i64 4,.func (.func 179) #[] #[]],born:=5},{key:= .string ⟨#[118,111,105,100]⟩,val:= .agg #[.int .i64 1,.func (.func 180) #[] #[]],born:=6}] 7 ⟨#[115,101,108,108]⟩ (.agg #[.int .i64 5,.func (.func 181) #[] #[]]) (by rfl)
 go_enter Tryz.func144,Tryz.ntmps144
 go_wp2
 go_ret
 exact ⟨rfl,rfl⟩
def eqU:List UInt8->List UInt8->Bool
 |[],[]=>true
 |a::l,b::m=>Nat.beq a.toNat b.toNat&&eqU l m
 |_,_=>false
theorem aQ: ∀{l m:List UInt8},eqU l m=true↔l=m
 |[],[]=>by simp [eqU]
 |[],_::_=>by simp [eqU]
 |_::_,[]=>by simp [eqU]
 |a::l,b::m=>by
  simp only [eqU,GU,aQ,List.cons.injEq];constructor;rintro ⟨h,h2⟩;exact ⟨UInt8.toNat_inj.1 (GZ h),h2⟩;rintro ⟨rfl,h2⟩;exact ⟨Nat.beq_refl _,h2⟩
section
variable (s:ByteArray)
def wdK:Nat:=match eqU s.data.toList [116,104,114,101,97,100] with
 |true=>0
 |false=>match eqU s.data.toList [115,116,114,105,107,101] with
 |true=>1
 |false=>match eqU s.data.toList [98,97,114,111] with
 |true=>2
 |false=>match eqU s.data.toList [98,97,116,104] with
 |true=>3
 |false=>match eqU s.data.toList [115,101,101] with
 |true=>4
 |false=>match eqU s.data.toList [105,115,115,117,101] with
 |true=>5
 |false=>match eqU s.data.toList [118,111,105,100] with
 |true=>6
 |false=>match eqU s.data.toList [115,101,108,108] with
 |true=>7
 |false=>8
def wdM:Nat->Int
 | 0=>4
 | 1=>1
 | 2=>2
 | 3=>2
 | 4=>2
 | 5=>4
 | 6=>1
 | 7=>5
 |_=>0
def wdO:Bool:=Nat.blt (wdK s) 8
def Qu8:List AV:=[match wdO s with|true=> .x (.int .i64 (wdM (wdK s)))|false=> .top,match wdO s with|true=> .fn (.func (174+wdK s)) [] []|false=> .top]
def wdL:List ByteArray:=[⟨#[116,104,114,101,97,100]⟩,⟨#[115,116,114,105,107,101]⟩,⟨#[98,97,114,111]⟩,⟨#[98,97,116,104]⟩,⟨#[115,101,101]⟩,⟨#[105,115,115,117,101]⟩,⟨#[118,111,105,100]⟩,⟨#[115,101,108,108]⟩]
theorem jI:(wdK s<8/\wdL[wdK s]? =some s)\/(wdK s=8/\ ∀x∈wdL,x≠s):=by
 have mk: ∀(l:List UInt8),eqU s.data.toList l=true->(⟨l.toArray⟩:ByteArray)=s:=λl h=>qO.2 (aQ.1 h).symm;have no: ∀(l:List UInt8),eqU s.data.toList l=false->(⟨l.toArray⟩:ByteArray)≠s:=λl h he=>by
  rw [aQ.2 (qO.1 he).symm] at h;cases h
 unfold wdK;split;rename_i h0;exact .inl ⟨VJ,by rw [←mk _ h0];rfl⟩
 rename_i h0;split;rename_i h1;exact .inl ⟨VJ,by rw [←mk _ h1];rfl⟩
 rename_i h1;split;rename_i h2;exact .inl ⟨VJ,by rw [←mk _ h2];rfl⟩
 rename_i h2;split;rename_i h3;exact .inl ⟨VJ,by rw [←mk _ h3];rfl⟩
 rename_i h3;split;rename_i h4;exact .inl ⟨VJ,by rw [←mk _ h4];rfl⟩
 rename_i h4;split;rename_i h5;exact .inl ⟨VJ,by rw [←mk _ h5];rfl⟩
 rename_i h5;split;rename_i h6;exact .inl ⟨VJ,by rw [←mk _ h6];rfl⟩
 rename_i h6;split;rename_i h7;exact .inl ⟨VJ,by rw [←mk _ h7];rfl⟩
 rename_i h7;refine .inr ⟨rfl,λx hx=>?_⟩;simp only [wdL,GM,DL,or_false] at hx;rcases hx with rfl|rfl|rfl|rfl|rfl|rfl|rfl|rfl;exact no _ h0;exact no _ h1;exact no _ h2;exact no _ h3;exact no _ h4;exact no _ h5;exact no _ h6;exact no _ h7
def wdV:List Value:=[.int .i64 (wdM (wdK s)),.func (.func (174+wdK s)) #[] #[]]
end
theorem lL{s:ByteArray}(h:wdO s=true): ∃j,Instr.findNow .string (.string s) wdE 0=some (some (j,.agg (wdV s).toArray)):=by
 rcases jI s with ⟨h1,h2⟩|⟨h1,_⟩;unfold wdV;rcases (show wdK s=0\/wdK s=1\/wdK s=2\/wdK s=3\/wdK s=4\/wdK s=5\/wdK s=6\/wdK s=7 by omega) with h3|h3|h3|h3|h3|h3|h3|h3<;>rw [h3] at h2 ⊢ <;>(obtain rfl:_=s:=Bb h2)<;>exact ⟨_,rfl⟩
 unfold wdO at h;rw [h1] at h;cases h
theorem IO{s:ByteArray}: ∀(es:List MapEntry) (j:Nat),(∀x∈es,∃k,x.key= .string k/\k≠s)->Instr.findNow .string (.string s) es j=some none
 |[],_,_=>rfl
 |x::es,j,h=>by
  obtain ⟨k,hk,hne⟩:=h x GD;have hs:Instr.sameNow .string (.string s) (.string k)=some false:=by
   have hb:(s==k)=false:=by
    cases hq:(s==k) with
    |false=>rfl
    |true=>
     obtain ⟨a⟩:=s;obtain ⟨b⟩:=k;have h':(a==b)=true:=hq;exact absurd (by rw [eq_of_beq h']) hne
   simp [Instr.sameNow,hb]
  unfold Instr.findNow;rw [hk,hs];exact IO es (j+1) (λy hy=>h y (HL _ hy))
theorem Qe3{s:ByteArray}(h:wdO s=false):Instr.findNow .string (.string s) wdE 0=some none:=by
 rcases jI s with ⟨h1,_⟩|⟨_,h2⟩;unfold wdO at h;rw [Cb,ne_eq,Aw] at h;omega;refine IO _ _ λx hx=>?_;simp only [wdE,GM,DL,or_false] at hx;rcases hx with rfl|rfl|rfl|rfl|rfl|rfl|rfl|rfl<;>exact ⟨_,rfl,h2 _ (by simp [wdL])⟩
theorem Xp5:VX VO 144 [] (.mpr Qu8 wdO):=by
 intro e w args hro hgl FP hr;obtain rfl:=hr.nil_inv;refine (M5 w).mono ?_;rintro en w' ⟨rfl,rfl⟩;have hsz:(w.alloc (.map wdE.toArray 8)).heap.size=w.heap.size+1:=VT;refine ⟨_,rfl,(Below.refl _ _).alloc (Am _) _,?_⟩;refine .mpr Qu8 wdO wdV w.heap.size wdE.toArray 8 (show w.heap.size<=w.heap.size/\w.heap.size<(w.alloc (.map wdE.toArray 8)).heap.size by omega) VJ (λs a ha=>?_) (World.alloc_heap_new w _) (λs hs=>by simpa using lL hs) (λs hs=>⟨by simpa using Qe3 hs,λa ha=>?_⟩) (λs hs=>rfl) (λs k a v hs ha hv=>?_)
 unfold Qu8 at ha;cases h:wdO s<;>rw [h] at ha<;>simp only [GM,DL,or_false,or_self] at ha;subst ha;exact .top;rcases ha with rfl|rfl;exact .x _;exact .fn _ _ _ (λ_ h=>by cases h) (λ_ h=>by cases h)
 unfold Qu8 at ha;rw [hs] at ha;exact .inl (by simpa using ha)
 unfold Qu8 at ha;unfold wdV at hv;rw [hs] at ha
 match k,ha,hv with
 | 0,ha,hv=>
  simp only [List.getElem?_cons_zero,HE] at ha hv;subst ha hv;exact .x _
 | 1,ha,hv=>
  simp only [List.getElem?_cons_succ,List.getElem?_cons_zero,HE] at ha hv;subst ha hv;exact .fn _ [] [] [] [] rfl (λ_ _ _ h=>by simp at h) rfl (λ_ _ _ h=>by simp at h)
 |k+2,ha,hv=>simp at ha
def Wz5:UX
 |[]=>some ([],.mpr Qu8 wdO)
 |_=>none
theorem wH:VP VO 144 Wz5:=by
 refine ⟨(UJ Tryz.func144),?_⟩;intro avs ns res h hn;unfold Wz5 at h;split at h;cases h;exact Xp5;cases h
open Go Go.Sx Go.RowKit Bo
open Go.Sx.VM (need branch leaf)
open Go.Sx.AV (lst ptr agg roI tup top)
structure HS where
 nr:Nat
 ra:Cg
 rb:Cg
 ru:Cg
 rv:Cg
 pl:Int
 ph:Int
 nb:Nat
 ql:Cg
 qh:Cg
 qm:Ch
 qr:Nat->Cg
 qv:Nat->Cg
 nc:Nat
 ca:Cg
 cb:Cg
 cc:Cg
 cd:Cg
 cv:Nat->Bool
 ns:Nat
 sa:Cg
 sb:Cg
 sc:Cg
 sl:Cg
 sh:Cg
 xn:Nat
 xg:Ci
 yn:Nat
 yg:Ci
section
variable (N:Nat)(s:HS)
abbrev hR:AV:= .lst 4 N λk=>[iI (s.ra k),iI (s.rb k),iI (s.ru k),iI (s.rv k)]
abbrev hY:AV:= .lst 3 N λk=>[iI (s.ql k),iI (s.qh k),.lst 2 (s.qm k) λj=>[iI (s.qr k j),iI (s.qv k j)]]
abbrev hC:AV:= .lst 5 N λk=>[iI (s.ca k),iI (s.cb k),iI (s.cc k),iI (s.cd k),.x (.bool (s.cv k))]
abbrev hT:AV:= .lst 5 N λk=>[iI (s.sa k),iI (s.sb k),iI (s.sc k),iI (s.sl k),iI (s.sh k)]
end
section
variable (s:HS)
abbrev hL:List AV:=[hR s.nr s,iI s.pl,iI s.ph,hY s.nb s,hC s.nc s,hT s.ns s]
abbrev hsR:AV:=rds s.nr s.ra s.rb s.ru s.rv
abbrev hsB:AV:=bds s.nb s.ql s.qh s.qm s.qr s.qv
abbrev hsC:AV:=crs s.nc s.ca s.cb s.cc s.cd s.cv
abbrev hsS:AV:=sls s.ns s.sa s.sb s.sc s.sl s.sh
abbrev hsL:List AV:=[hsR s,i s.pl,i s.ph,hsB s,hsC s,hsS s]
end
def tbP(k:Nat):Int:=UA [720,760,800] k
def tbQ(k:Nat):Int:=UA [985,1000,1014] k
def L8:UX
 |[.agg [.lst 4 nr fr,.x (.int .i64 pl),.x (.int .i64 ph),.lst 3 nb fb,.lst 5 nc fc,.lst 5 ns fs]]=>some ([],.agg [i 4,i 100,i 20,i 30,.lst 4 nr fr,.lst 2 3 (λk=>[i (tbP k),i (tbQ k)]),i pl,i ph,i 1,i 3])
 |_=>none
theorem Qq5(nr nb nc ns:Nat)(fr fb fc fs:Ci)(pl ph:Int):FQ VO 44 [.agg [.lst 4 nr fr,i pl,i ph,.lst 3 nb fb,.lst 5 nc fc,.lst 5 ns fs]] (.agg [i 4,i 100,i 20,i 30,.lst 4 nr fr,.lst 2 3 (λk=>[i (tbP k),i (tbQ k)]),i pl,i ph,i 1,i 3]):=by
 refine D5 (L:=[]) Aa Ad VZ Tryz.func44 (UU Tryz.f44) G8 (t:=leaf (agg [iI 4,iI 100,iI 20,iI 30,lst 4 nr λa=>fr a,lst 2 3 (U4 2 [iI 720,iI 985,iI 760,iI 1000,iI 800,iI 1014]),iI pl,iI ph,iI 1,iI 3])) VU ?_;simp only [VM.sat,DX,qX,UD,UH];all_goals exact V7
theorem FD:PI VO 44 L8:=by
 refine ⟨(UJ Tryz.func44),?_⟩;intro avs ns res h hn;unfold L8 at h;split at h;cases h;exact Qq5 _ _ _ _ _ _ _ _ _ _;cases h
def xW:UX
 |[.agg [.lst 4 nr fr,.x (.int .i64 pl),.x (.int .i64 ph),.lst 3 nb fb,.lst 5 nc fc,.lst 5 ns fs]]=>some ([],.agg [ofs,i 1,.lst 3 nb fb])
 |_=>none
abbrev Y2:AV:=lst 2 3 (U4 2 [iI 0,iI 0,iI (-9:Int),iI 9,iI (-9:Int),iI 9])
theorem pM(nr nb nc ns:Nat)(fr fb fc fs:Ci)(pl ph:Int):FQ VO 46 [.agg [.lst 4 nr fr,i pl,i ph,.lst 3 nb fb,.lst 5 nc fc,.lst 5 ns fs]] (.agg [ofs,i 1,.lst 3 nb fb]):=by
 refine D5 (L:=[]) Aa Ad VZ Tryz.func46 (UU Tryz.f46) G8 (t:=leaf (agg [Y2,iI 1,lst 3 nb λa=>fb a])) VU ?_;simp only [VM.sat,DX,qX,UD,UH];all_goals exact V7
theorem RE:PI VO 46 xW:=by
 refine ⟨(UJ Tryz.func46),?_⟩;intro avs ns res h hn;unfold xW at h;split at h;cases h;exact pM _ _ _ _ _ _ _ _ _ _;cases h
def MB:UX
 |[.agg [.lst 4 nr fr,.x (.int .i64 pl),.x (.int .i64 ph),.lst 3 nb fb,.lst 5 nc fc,.lst 5 ns fs]]=>some ([],.agg [i 4,i 10,.lst 5 ns fs])
 |_=>none
theorem Qr0(nr nb nc ns:Nat)(fr fb fc fs:Ci)(pl ph:Int):FQ VO 39 [.agg [.lst 4 nr fr,i pl,i ph,.lst 3 nb fb,.lst 5 nc fc,.lst 5 ns fs]] (.agg [i 4,i 10,.lst 5 ns fs]):=by
 refine D5 (L:=[]) Aa Ad VZ Tryz.func39 (UU Tryz.f39) G8 (t:=leaf (agg [iI 4,iI 10,lst 5 ns λa=>fs a])) VU ?_;simp only [VM.sat,DX,qX,UD,UH];all_goals exact V7
theorem P1:PI VO 39 MB:=by
 refine ⟨(UJ Tryz.func39),?_⟩;intro avs ns res h hn;unfold MB at h;split at h;cases h;exact Qr0 _ _ _ _ _ _ _ _ _ _;cases h
noncomputable def nH:D2:=A2 Tryz.prog [] {} [] Tryz.f67 (U7 Tryz.f67)
theorem IC:GB VO 67 nH:=
 RL (G:=[]) (X:=WA) (L:=[]) Aa Ad VZ (UJ Tryz.func67) Tryz.func67 (UU Tryz.f67) U2
def U5(w:ByteArray)(V:Cf):Nat->ByteArray
 | 0=>w
 |k+1=>V k
def UO(q:Nat):ByteArray:=wdL.getD q ByteArray.empty
def vO(str:ByteArray)(n:Nat)(W:Cf):Prop:=str.size<100000/\Lib.countB str ⟨#[32]⟩+1=n/\(∀k,k<n->(spl str ⟨#[32]⟩).getD k ByteArray.empty=W k)/\ ∀k,(W k).size<=100000
def MZ(s str sep:ByteArray):Prop:=s=str/\sep=⟨#[32]⟩
def Qj2(str:ByteArray)(n:Nat)(W:Cf):UX
 |[.x (.string s),.x (.string sep)]=>some ([MZ s str sep],.lst 1 n (λk=>[.x (.string (W k))]))
 |_=>none
theorem LD{str:ByteArray}{n:Nat}{W:Cf}(h:vO str n W):VP VO 143 (Qj2 str n W):=by
 refine ⟨(UJ Tryz.func143),?_⟩;intro avs ns res hh hn;unfold Qj2 at hh;split at hh;cases hh;obtain ⟨e1,e2⟩:=hn _ GD;rw [e1,e2];have h1:=Wb2 str ⟨#[32]⟩ (by have:=h.1;omega) (by decide)
 rw [h.2.1] at h1;intro e w args hro hgl FP hr;refine (h1 e w args hro hgl FP hr).mono ?_;rintro en w' ⟨v,rfl,hb,GK⟩;exact ⟨v,rfl,hb,L1 (a:= .lst 1 n _) (b:= .lst 1 n _) ⟨rfl,rfl,λk hk=>by rw [h.2.2.1 k hk]⟩ GK⟩
 cases hh
abbrev YB(s:HS):H2:=[(0,.cells 99 [.top,.top,.top,.top,.top,.top]),(1,.row 23 1 s.xn s.xg),(2,.row 9 1 s.yn s.yg)]
def PE_(s:HS):St:={σ:=mkS 48 [],m:=(YB s),nx:=904,sv:=[[.ptr 0 0,.row 1,.row 2]] }
section
variable (W:Cf)(n:Nat)
def nuB:Bool:=D3 (λj=>rY (W (1+j))) (n-1)
def Xd8(mk:Int)(fk:Nat)(s:HS):St:={σ:=mkS 48 [(0,.ptr 0 0),(4,.lst 1 n (λk=>[.x (.string (W k))])),(5,.ptr 903 0),(7,.row 902),(31,.lst 1 (n-1) (λj=>[.x (.string (W (1+j)))])),(32,i ((n-1:Nat):Int)),(33,.top)],m:=[(902,.row 3 1 (0) (λj=>[i (U0 (W (1+j)))])),(903,.cells 260 [i mk,.fn (.func fk) [] []]),(0,.cells 99 (hsL s)),(1,.row 23 1 s.xn s.xg),(2,.row 9 1 s.yn s.yg)],nx:=904,sv:=[[.ptr 0 0,.row 1,.row 2]] }
noncomputable def NA:Code:=U9 (VS (U7 Tryz.f106) 0)
def Wk8(mk:Int)(fk:Nat)(s:HS)(k:Nat):St:={σ:=GY [(33,i k)] (Xd8 W n mk fk s).σ,m:=[(902,.row 3 1 (k) (λj=>[i (U0 (W (1+j)))])),(903,.cells 260 [i mk,.fn (.func fk) [] []]),(0,.cells 99 (hsL s)),(1,.row 23 1 s.xn s.xg),(2,.row 9 1 s.yn s.yg)],nx:=(Xd8 W n mk fk s).nx,sv:=[[.ptr 0 0,.row 1,.row 2]] }
def TD(mk:Int)(fk:Nat)(s:HS):PEx->Option St:=λex=>match ex with
 | .x (.exit 0)=>some {σ:=GY [(33,i ((n-1:Nat):Int))] (Xd8 W n mk fk s).σ,m:=[(902,.row 3 1 (n-1) (λj=>[i (U0 (W (1+j)))])),(903,.cells 260 [i mk,.fn (.func fk) [] []]),(0,.cells 99 (hsL s)),(1,.row 23 1 s.xn s.xg),(2,.row 9 1 s.yn s.yg)],nx:=(Xd8 W n mk fk s).nx,sv:=[[.ptr 0 0,.row 1,.row 2]] }
 | .pan _=>some (PE_ s)
 |_=>none
def Jq6(mk:Int)(fk:Nat)(s:HS):PT:= .branch (nuB W n) (.leaf (.x (.exit 0),(TD W n mk fk s (.x (.exit 0))).getD (Xd8 W n mk fk s))) (.leaf (.pan (IS 211 (.int .i64 4)),PE_ s))
def yY(mk:Int)(fk:Nat)(s:HS):PK:=TR [(.slot 5,903,260,2),(.slot 7,902,3,1)] (Zg2 (Wk8 W n mk fk s (0)) (Jq6 W n mk fk s))
end
section
variable (s:HS)
abbrev XL:Prop:=(hR s.nr s)=hR s.nr s
abbrev XR:Prop:=(hC s.nc s)=hC s.nc s
abbrev XS:Prop:=(hT s.ns s)=hT s.ns s
abbrev Z0:Prop:=(hY s.nb s)=hY s.nb s
abbrev JU:Prop:=s.pl=s.pl
abbrev JV:Prop:=s.ph=s.ph
end
abbrev K1:Prop:=AV.row 1=AV.row 1
abbrev K2:Prop:=AV.row 2=AV.row 2
abbrev KK(n:Nat)(W:Cf):AV:=lst 1 (n-1) λj=>[HB (W (1+j))]
abbrev KR(s:HS):Prop:=s.xn=s.xn
abbrev KS(s:HS):Prop:=s.yn=s.yn
abbrev YK(n:Nat)(W:Cf):AV:=lst 1 n λk=>[HB (W k)]
theorem gE(W:Cf)(n:Nat)(mk:Int)(fk:Nat)(s:HS)(VR: ∀k,(W k).size<=100000)(UE:n<=100000): ∀ro cx,LY Tryz.prog ro cx (.loop NA) (yY W n mk fk s):=by
 refine TY [(.slot 5,903,260,2),(.slot 7,902,3,1)] (PX:=[(145,RC),(146,jD)]) (L:=[]) Aa Ad (UT.cons RR (UT.cons wO (UT.nil _))) VZ (λj cj _ sp hsp=>by simp at hsp) (V:=Nat) (Wk8 W n mk fk s) (λk=>k<=n-1/\ ∀j,j<k->rY (W (1+j))=true) (λk=>n-1-k) (λ_=>TD W n mk fk s) (x0:=0) ⟨Ao _,λj h=>absurd h (Aq _)⟩ ?_ ?_ ?_
 rintro k;kernel_rfl;rintro k y E h;unfold TD at h;split at h;cases h;kernel_rfl;cases h;kernel_rfl;cases h;rintro Q hQ k hx;refine ⟨(k+1),?_⟩;(with_reducible refine D9 (t:=branch (decide ((k:Int)<(↑(n-1):Int))) (need [UI k (↑(n-1):Int)] (need [ByteArray.size (W (1+k))<=100000] (branch (rY (W (1+k))) (need [(k+1)*8<=140737488355328,RP 1 (U4 1 [iI (U0 (W (1+k)))])] (need [VL ((k:Int)+1)] (need [QO,VY (YK n W),ZX,W8,VY (KK n W),VY (↑(n-1):Int),(k:Int)+1=(↑(k+1):Int),k+1=k+1,GV (k+1) (GI k (λj=>[iI (U0 (W (1+j)))]) (U4 1 [iI (U0 (W (1+k)))])) (λi=>[iI (U0 (W (1+i)))]),mk=mk,VY (AV.fn (Fn.func fk) [] []),XL s,JU s,JV s,Z0 s,XR s,XS s,KR s,∀(i:Nat),i<s.xn->s.xg i=s.xg i,KS s,∀(i:Nat),i<s.yn->s.yg i=s.yg i,QO,K1,K2] (leaf (PEx.x G5.normal))))) (need [KR s,∀(i:Nat),i<s.xn->s.xg i=s.xg i,KS s,∀(i:Nat),i<s.yn->s.yg i=s.yg i,QO,K1,K2] (leaf (PEx.pan (Value.iface 211 (Value.agg {toList:=[Value.int IntKind.i64 (4:Int)] })))))))) (need [QO,VY (YK n W),ZX,W8,VY (KK n W),VY (↑(n-1):Int),(k:Int)=(↑(n-1):Int),k=n-1,∀(i:Nat),i<n-1->[iI (U0 (W (1+i)))]=[iI (U0 (W (1+i)))],mk=mk,VY (AV.fn (Fn.func fk) [] []),XL s,JU s,JV s,Z0 s,XR s,XS s,KR s,∀(i:Nat),i<s.xn->s.xg i=s.xg i,KS s,∀(i:Nat),i<s.yn->s.yg i=s.yg i,QO,K1,K2] (leaf (PEx.x (G5.exit 0))))) VU ?_)
 simp only [Jq6,TD,VM.sat,GS] at hQ;obtain ⟨A,I⟩:=hx;simp only [VM.sat,UB,UH,HA,VL]
 have hc1: ∀x:Int,∀(j:Nat),j<1-> ∀y,y∈U4 1 [iI x] j->AV.one y=true:=λx j _ y hy=>FC hy (by simp [AV.one,Value.oneCell'])
 refine ⟨λh=>?_,λh=>?_⟩;have hk:k<n-1:=VJ;refine ⟨⟨VJ,VJ⟩,VR _,λhb=>?_,λhb=>?_⟩;have HZ: ∀j,j<k+1->rY (W (1+j))=true:=by
  intro j hj;rcases (show j<k\/j=k by omega) with h1|rfl
  exact I j h1;exact hb
 have I5: ∀j,j<k+1->GI k (λj=>[i (U0 (W (1+j)))]) (U4 1 [iI (U0 (W (1+k)))]) j=[i (U0 (W (1+j)))]:=by
  intro j hj;show H6 (decide (j<k)) _ (U4 1 _ (j-k))=_;rw [show j-k=0 by omega]
  rcases (show j<k\/j=k by omega) with h1|rfl
  rw [decide_eq_true h1];rfl;rw [show decide (j<j)=false by simp]
  rfl
 refine ⟨⟨VJ,hc1 _⟩,VJ,⟨VJ,I5,λ_ _=>trivial,λ_ _=>trivial⟩,⟨VJ,HZ⟩,VJ⟩;have hno:nuB W n=false:=by
  rw [Cb];intro h2;have:=GC.1 h2 k hk;rw [hb] at this;cases this
 refine ⟨⟨λ_ _=>trivial,λ_ _=>trivial⟩,λE hE=>?_⟩;cases hE;exact hQ.2 hno
 ·have hk:k=n-1:=VJ;subst hk;have iJ:nuB W n=true:=GC.2 I
  (with_reducible repeat' first|apply Al|intro _)
  all_goals first|exact Ak|rfl|(rename_i E hE;cases hE;exact hQ.1 iJ)|trivial
def OS(s:HS):St:={σ:=[],m:=[(0,.cells 99 (hsL s)),(1,.row 23 1 s.xn s.xg),(2,.row 9 1 s.yn s.yg)],nx:=3000,sv:=[[.ptr 0 0,.row 1,.row 2]] }
def OX(s:HS):St:={σ:=[],m:=(YB s),nx:=3000,sv:=[[.ptr 0 0,.row 1,.row 2]] }
def rsE(e:Int):Bool×Int:=(decide (e=0),e)
def fmE(W:Cf)(n many:Nat)(e:Int):Int:=if n=many+1/\nuB W n=true then e else 4
def voE(s:HS)(x:Int):Int:=if bt 0 x ((s.nc:Int)-1)=true/\s.cv x.toNat=false then 0 else 7
def voS(s:HS)(x:Int):HS:={s with cv:=λk=>if (k:Int)=x then true else s.cv k}
theorem LG{P:Program}{c:Code}{sp0:PK}(h: ∀cj,VS c 0=some cj-> ∀ro cx,LY P ro cx cj sp0): ∀j cj,VS c j=some cj-> ∀sp,[sp0][j]? =some sp-> ∀ro cx,LY P ro cx cj sp:=by
 intro j cj hj sp hsp
 match j with
 | 0=>
  simp at hsp;subst hsp;exact h cj hj
 |j+1=>simp at hsp
theorem s8(s sep:ByteArray)(h:1<=sep.size):Lib.countB s sep<=s.size:=Lib.countB_le sep h s.size s (Am _)
theorem B7{str:ByteArray}{n:Nat}{W:Cf}(h:vO str n W):n<=100000:=by
 have h1:=s8 str ⟨#[32]⟩ (by decide)
 have h2:=h.1;have h3:=h.2.1;omega
def tJ:D2:=Wr0 bJ
theorem Wq3:GB VO 100 tJ:=C3 l8
theorem DN(a b c d e f:AV):HC [a,b,c,d,e,f] [.top,.top,.top,.top,.top,.top]:=by
 have h: ∀a,dT a .top:=λa=>by cases a<;>trivial
 exact ⟨h a,h b,h c,h d,h e,h f,trivial⟩
theorem gC{sz n:Nat}{f:Ci}(h: ∀i,i<n-> ∀x∈f i,Idf x/\DX x x):dT (.lst sz n f) (.lst sz n f):=by
 refine ⟨rfl,rfl,λi O=>⟨?_,λx hx=>(h i O x hx).1⟩⟩;have: ∀l:List AV,(∀x∈l,DX x x)->qX l l:=by
  intro l
  induction l with
  |nil=>intro _;trivial
  |cons a l ih=>intro hh;exact ⟨hh a GD,ih λx hx=>hh x (HL _ hx)⟩
 exact this _ λx hx=>(h i O x hx).2
theorem P9(n:Int):Idf (i n)/\DX (i n) (i n):=⟨.x _,by simp [DX,UD]⟩
theorem zJ(n:Int):dT (i n) (i n):=(P9 n).2
theorem B8(s:HS):dT (hsR s) (hsR s):=gC λk _ x hx=>by
 simp only [GM,DL,or_false] at hx;rcases hx with rfl|rfl|rfl|rfl<;>exact P9 _
theorem PB(s:HS):dT (hsS s) (hsS s):=gC λk _ x hx=>by
 simp only [GM,DL,or_false] at hx;rcases hx with rfl|rfl|rfl|rfl|rfl<;>exact P9 _
theorem B9(s:HS):dT (hsC s) (hsC s):=gC λk _ x hx=>by
 simp only [GM,DL,or_false] at hx;rcases hx with rfl|rfl|rfl|rfl|rfl<;>first|exact P9 _|exact ⟨.x _,by simp [DX,UD]⟩
theorem BA(s:HS):dT (hsB s) (hsB s):=gC λk _ x hx=>by
 simp only [GM,DL,or_false] at hx;rcases hx with rfl|rfl|rfl;exact P9 _;exact P9 _;refine ⟨.lst _ _ _ λj _ a ha=>?_,rfl,rfl,λ_ _=>rfl⟩;simp only [GM,DL,or_false] at ha;rcases ha with rfl|rfl<;>exact .x _
section
variable {W:Cf}{n many:Nat}
theorem Wc3{e:Int}(h: ¬(n=many+1/\nuB W n=true)):(false,(4:Int))=rsE (fmE W n many e):=by
 unfold fmE;rw [if_neg h];rfl
theorem FA{e k:Int}(h1:n=many+1)(h2:nuB W n=true)(h:e=k)(hk:k≠0):(false,k)=rsE (fmE W n many e):=by
 unfold fmE rsE;rw [if_pos ⟨h1,h2⟩,h,decide_eq_false hk]
theorem uP{e:Int}(h1:n=many+1)(h2:nuB W n=true)(h:e=0):(true,(0:Int))=rsE (fmE W n many e):=by
 unfold fmE rsE;rw [if_pos ⟨h1,h2⟩,h];rfl
end
noncomputable abbrev Qj9:DZ:=A1 Tryz.prog [(36,RN)] {R:=[],H:=[(100,tJ)] } [(145,RC)] [] Tryz.f180 (U7 Tryz.f180)
theorem Qp7:D7 VO 180 (Qj9):=
 FR (G:=[(36,RN)]) (X:={R:=[],H:=[(100,tJ)] }) (PX:=[(145,RC)]) (L:=[]) (Ae PV Aa) (Ai Ab (Ag Wq3 Ac)) (UT.cons RR (UT.nil _)) VZ (UJ Tryz.func180) Tryz.func180 (UU Tryz.f180) (λj cj _ sp hsp=>by simp at hsp)
abbrev Q5:List AV:=[ptr 0 0,AV.row 1,AV.row 2]
abbrev QA(s:HS):Prop:=((23:TypeId),1,s.xn,s.xg)=((23:TypeId),1,s.xn,s.xg)
abbrev QB(s:HS):Prop:=((9:TypeId),1,s.yn,s.yg)=((9:TypeId),1,s.yn,s.yg)
abbrev QT:List AV:=[top,top,top,top,top,top]
abbrev XA(s:HS):H2:=[(0,.cells 99 (hsL s)),(1,.row 23 1 s.xn s.xg),(2,.row 9 1 s.yn s.yg)]
theorem V9{p:Prop}(h:p:=by
 refine ⟨DN _ _ _ _ _ _,Wc3 λh=>?_⟩;rw [h.2] at h5;cases h5):p:=h
theorem V8{p:Prop}(h:p:=by
 refine ⟨DN _ _ _ _ _ _,Wc3 λh=>?_⟩;have:=h.1;simp at h4;omega):p:=h
theorem Xi1(V:Cf)(n:Nat)(str:ByteArray)(s:HS)(VR:vO str n (U5 (UO 6) V))(UE:s.nc<=10):wJ VO 106 [.ptr 0 0,.x (.string str)] (XA s) 901 [[.ptr 0 0,.row 1,.row 2]] 211 (OS (voS s (U0 (V 0)))) (OX s) (rsE (fmE (U5 (UO 6) V) n 1 (voE s (U0 (V 0))))):=by
 refine LJ (PX:=[(145,RC),(146,jD),(180,Qj9)]) (L:=[yY (U5 (UO 6) V) n 1 180 s]) (Ae (LD VR) (Ae wH Aa)) Ad (UT.cons RR (UT.cons wO (UT.cons Qp7 (UT.nil _)))) VZ (UJ Tryz.func106) Tryz.func106 (UU Tryz.f106) (LG (lpE (b:= .loop NA) VU<|gE (U5 (UO 6) V) n 1 180 s VR.2.2.2 (B7 VR))) (N:=[(.cell 0 4,0,0,0)]) (t:=let z0:=(U0 (U5 (UO 6) V 1));let z1:=(U5 (UO 6) V (0:Int).toNat);let z2:=(need [[Q5]=[Q5],HC (hL s) QT,QA s,QB s] (leaf (false,(4:Int))));let z3:=(need [[Q5]=[Q5],HC (hL s) QT,QA s,QB s] (leaf (false,(7:Int))));let z4:=(U0 (U5 (UO 6) V (1+(0:Int).toNat)));(need [MZ str str {data:=#[32] }] (need [UI 0 n] (branch (wdO z1) (need [VL (wdM (wdK z1)+1)] (branch (!(n:Int)==wdM (wdK z1)+1) z2 (need [(0:Int)<=1/\(1:Int)<=(n:Int)/\(n:Int)<=(n:Int)] (need [QO,VY (lst 1 n λk=>[HB (U5 (UO 6) V k)]),ZX,W8,(lst 1 (n-(1:Int).toNat) λi=>[AV.x (.string (U5 (UO 6) V ((1:Int).toNat+i)))])=lst 1 (n-1) λj=>[HB (U5 (UO 6) V (1+j))],(↑(n-(1:Int).toNat):Int)=(↑(n-1):Int),(0:Int)=((0:Nat):Int),0=0,∀(i:Nat),i<0->[]=[iI (U0 (U5 (UO 6) V (1+i)))],wdM (wdK z1)=1,VY (AV.fn (Fn.func 180) [] []),XL s,JU s,JV s,Z0 s,XR s,XS s,KR s,∀(i:Nat),i<s.xn->s.xg i=s.xg i,KS s,∀(i:Nat),i<s.yn->s.yg i=s.yg i,QO,K1,K2] (branch (nuB (U5 (UO 6) V) n) (need [UI 0 (↑(n-1):Int)] (need [(0:Int).toNat<n-1] (need [VL ((↑s.nc:Int)-1)] (branch (bt (0:Int) z0 ((↑s.nc:Int)-1)) (need [UI 0 (↑(n-1):Int)] (need [(0:Int).toNat<n-1] (need [UI (U0 (U5 (UO 6) V 1)) s.nc] (branch (!!s.cv (Int.toNat z0)) z3 (need [s.nc<=100000,gdX 5 s.nc λk=>[i (s.ca k),i (s.cb k),i (s.cc k),i (s.cd k),bl (s.cv k)]] (need [UI 0 (↑(n-1):Int)] (need [(0:Int).toNat<n-1] (need [UI (U0 (U5 (UO 6) V 1)) s.nc] (need [Int.toNat z0<s.nc] (need [[Q5]=[Q5],HC [hR s.nr s,iI s.pl,iI s.ph,hY s.nb s,lst 5 s.nc λk=>iI (if decide (k=Int.toNat z0)=true then s.ca k else s.ca k)::iI (if decide (k=Int.toNat z0)=true then s.cb k else s.cb k)::iI (if decide (k=Int.toNat z0)=true then s.cc k else s.cc k)::iI (if decide (k=Int.toNat z0)=true then s.cd k else s.cd k)::bl (if decide (k=Int.toNat z4)=true then true else s.cv k)::Bool.rec ([]) ([]) (decide (k=Int.toNat z4)),hT s.ns s] (hL (voS s (U0 (V 0)))),((23:TypeId),1,s.xn,s.xg)=((23:TypeId),1,(voS s (U0 (V 0))).xn,(voS s (U0 (V 0))).xg),((9:TypeId),1,s.yn,s.yg)=((9:TypeId),1,(voS s (U0 (V 0))).yn,(voS s (U0 (V 0))).yg)] (leaf (true,(0:Int))))))))))))) z3)))) (need [[Q5]=[Q5],HC QT QT,QA s,QB s] (leaf (false,(4:Int))))))))) z2)))) VU ?_
 have hw:wdO (U5 (UO 6) V (Int.toNat 0))=true:=VU;have hm:wdM (wdK (U5 (UO 6) V (Int.toNat 0)))=1:=VU;have hn1:1<=n:=by have:=VR.2.1;omega
 have hnl:=B7 VR;simp only [VM.sat,UB,UH,hm,hw,true_imp_iff];refine ⟨⟨rfl,rfl⟩,⟨VJ,VJ⟩,⟨by simp only [VL];omega,λh4=>?_,λh4=>?_⟩,λh=>by cases h⟩
 exact V8
 ·have hN:n=1+1:=by
   simp at h4;omega
  refine ⟨⟨VJ,VJ,VJ⟩,?_,λh5=>?_,λh5=>?_⟩
  rotate_left 2
  exact V9
  ·all_goals exact yM
  have hk1:n-1=1:=VJ;have hx:U0 (U5 (UO 6) V 1)=U0 (V 0):=rfl;rw [hk1];simp only [hx,VL,bt_iff,Int.toNat_zero];have hgd:gdX 5 s.nc (λk=>[i (s.ca k),i (s.cb k),i (s.cc k),i (s.cd k),bl (s.cv k)]):=λk _=>⟨rfl,λx hx=>by
   simp only [GM,DL,or_false] at hx;rcases hx with rfl|rfl|rfl|rfl|rfl<;>exact ⟨Ak,by simp [AV.one,Value.oneCell']⟩⟩
  refine ⟨VJ,VJ,VJ,λhb=>⟨VJ,VJ,VJ,λh6=>⟨DN _ _ _ _ _ _,FA hN h5 ?_ (by decide)⟩,λh6=>⟨⟨VJ,hgd⟩,VJ,VJ,VJ,VJ,⟨⟨B8 s,zJ _,zJ _,BA s,?_,PB s,trivial⟩,rfl,rfl⟩,uP hN h5 ?_⟩⟩,λhb=>⟨DN _ _ _ _ _ _,FA hN h5 ?_ (by decide)⟩⟩
  unfold voE;rw [if_neg (λh=>by rw [h.2] at h6;cases h6)]
  refine ⟨rfl,rfl,λk hk=>?_⟩;have e1:(voS s (U0 (V 0))).cv k=if k=(U0 (V 0)).toNat then true else s.cv k:=by
   show (if (k:Int)=U0 (V 0) then true else s.cv k)=_
   by_cases h:k=(U0 (V 0)).toNat;rw [if_pos h,if_pos VJ];rw [if_neg h,if_neg VJ]
  refine ⟨?_,λx hx=>?_⟩;by_cases h:k=(U0 (V 0)).toNat
  dsimp only
  rw [decide_eq_true h];refine ⟨(P9 _).2,(P9 _).2,(P9 _).2,(P9 _).2,?_,trivial⟩;rw [e1,if_pos h];exact rfl
  dsimp only
  rw [decide_eq_false h];refine ⟨(P9 _).2,(P9 _).2,(P9 _).2,(P9 _).2,?_,trivial⟩;rw [e1,if_neg h];simp [DX,UD];simp only [GM,DL,or_false] at hx;rcases hx with rfl|rfl|rfl|rfl|rfl<;>exact .x _;unfold voE;rw [if_pos ⟨(bt_iff _ _ _).2 hb,by simpa using h6⟩]
  unfold voE;rw [if_neg (λh=>by
   have:=(bt_iff _ _ _).1 h.1;rw [←bt_iff,hb] at this;cases this)]
section
variable (s:HS)
def inE:Int:=rdE 4 100 20 30 s.nr s.ra s.rb s.ru s.rv 3 tbP tbQ s.pl s.ph 1 3
def baS(x0 A:Int):HS:={s with pl:=x0,ph:=A}
def baE(x0 A:Int):Int:=if inE (baS s x0 A)=0 then 0 else 2
def btS(x0 A:Int):HS:={s with nb:=s.nb+1,ql:=H4 s.nb s.ql x0,qh:=H4 s.nb s.qh A,qm:=λk=>if k<s.nb then s.qm k else 0}
def btE(x0 A:Int):Int:=if bt 0 x0 A=true/\A<=1000 then (if s.nb<6 then 0 else 3) else 2
def isS(x0 A I Z:Int):HS:={s with nc:=s.nc+1,ca:=H4 s.nc s.ca x0,cb:=H4 s.nc s.cb A,cc:=H4 s.nc s.cc I,cd:=H4 s.nc s.cd Z,cv:=apB s.nc s.cv false}
def isE(x0 A I Z:Int):Int:=if asE 4 100 20 30 s.nr s.ra s.rb s.ru s.rv 3 tbP tbQ s.pl s.ph 1 3 x0 A I Z=0 then (if s.nc<10 then (if kpB 4 100 20 30 s.nr s.ra s.rb s.ru s.rv 3 tbP tbQ s.pl s.ph 1 3 x0 A I Z=true then 0 else 10) else 3) else 2
end
theorem hsI{s:HS}:UF 4 s.nr (λk=>[Bo.i (s.ra k),Bo.i (s.rb k),Bo.i (s.ru k),Bo.i (s.rv k)])/\UF 2 3 (λk=>[i (tbP k),i (tbQ k)]):=⟨Bo.isRec4 _ _ _ _ _,Pt.isRec2 _ _ _⟩
noncomputable abbrev Qk2:DZ:=A1 Tryz.prog [(17,DW)] {R:=[(44,L8)],H:=[] } [(145,RC)] [] Tryz.f176 (U7 Tryz.f176)
theorem Qr1:D7 VO 176 (Qk2):=
 FR (G:=[(17,DW)]) (X:={R:=[(44,L8)],H:=[] }) (PX:=[(145,RC)]) (L:=[]) (Ae qS Aa) (Ai (Af FD Ab) Ac) (UT.cons RR (UT.nil _)) VZ (UJ Tryz.func176) Tryz.func176 (UU Tryz.f176) (λj cj _ sp hsp=>by simp at hsp)
abbrev YH(s:HS)(V:Cf):List AV:=[hR s.nr s,iI (U0 (U5 (UO 2) V 1)),iI (U0 (U5 (UO 2) V 2)),hY s.nb s,hC s.nc s,hT s.ns s]
theorem Xi4(V:Cf)(n:Nat)(str:ByteArray)(s:HS)(VR:vO str n (U5 (UO 2) V)):wJ VO 106 [.ptr 0 0,.x (.string str)] (XA s) 901 [[.ptr 0 0,.row 1,.row 2]] 211 (OS (baS s (U0 (V 0)) (U0 (V 1)))) (OX s) (rsE (fmE (U5 (UO 2) V) n 2 (baE s (U0 (V 0)) (U0 (V 1))))):=by
 refine LJ (PX:=[(145,RC),(146,jD),(176,(Qk2))]) (L:=[yY (U5 (UO 2) V) n 2 176 s]) (Ae (LD VR) (Ae wH Aa)) Ad (UT.cons RR (UT.cons wO (UT.cons (Qr1) (UT.nil _)))) VZ (UJ Tryz.func106) Tryz.func106 (UU Tryz.f106) (LG (lpE (b:= .loop NA) VU<|gE (U5 (UO 2) V) n 2 176 s VR.2.2.2 (B7 VR))) (N:=[]) (t:=let z0:=(baS s (U0 (V 0)) (U0 (V 1)));let z1:=(U5 (UO 2) V (0:Int).toNat);let z2:=(need [[Q5]=[Q5],HC (hL s) QT,QA s,QB s] (leaf (false,(4:Int))));(need [MZ str str {data:=#[32] }] (need [UI 0 n] (branch (wdO z1) (need [VL (wdM (wdK z1)+1)] (branch (!(n:Int)==wdM (wdK z1)+1) z2 (need [(0:Int)<=1/\(1:Int)<=(n:Int)/\(n:Int)<=(n:Int)] (need [QO,VY (lst 1 n λk=>[HB (U5 (UO 2) V k)]),ZX,W8,(lst 1 (n-(1:Int).toNat) λi=>[AV.x (.string (U5 (UO 2) V ((1:Int).toNat+i)))])=lst 1 (n-1) λj=>[HB (U5 (UO 2) V (1+j))],(↑(n-(1:Int).toNat):Int)=(↑(n-1):Int),(0:Int)=((0:Nat):Int),0=0,∀(i:Nat),i<0->[]=[iI (U0 (U5 (UO 2) V (1+i)))],wdM (wdK z1)=2,VY (AV.fn (Fn.func 176) [] []),XL s,JU s,JV s,Z0 s,XR s,XS s,KR s,∀(i:Nat),i<s.xn->s.xg i=s.xg i,KS s,∀(i:Nat),i<s.yn->s.yg i=s.yg i,QO,K1,K2] (branch (nuB (U5 (UO 2) V) n) (need [UI 0 (↑(n-1):Int)] (need [(0:Int).toNat<n-1] (need [UI 1 (↑(n-1):Int)] (need [(1:Int).toNat<n-1] (need [UF 4 s.nr λk=>[Bo.i (s.ra k),Bo.i (s.rb k),Bo.i (s.ru k),Bo.i (s.rv k)],UF 2 3 λk=>[i (tbP k),i (tbQ k)]] (branch (!rdE (4:Int) (100:Int) (20:Int) (30:Int) s.nr (s.ra) (s.rb) (s.ru) (s.rv) 3 tbP tbQ (U0 (U5 (UO 2) V 1)) (U0 (U5 (UO 2) V 2)) (1:Int) (3:Int)==0) (need [[Q5]=[Q5],HC (YH s V) QT,QA s,QB s] (leaf (false,(2:Int)))) (need [[Q5]=[Q5],HC (YH s V) (hL z0),((23:TypeId),1,s.xn,s.xg)=((23:TypeId),1,z0.xn,z0.xg),((9:TypeId),1,s.yn,s.yg)=((9:TypeId),1,z0.yn,z0.yg)] (leaf (true,(0:Int)))))))))) (need [[Q5]=[Q5],HC QT QT,QA s,QB s] (leaf (false,(4:Int))))))))) z2)))) VU ?_
 have hw:wdO (U5 (UO 2) V (Int.toNat 0))=true:=VU;have hm:wdM (wdK (U5 (UO 2) V (Int.toNat 0)))=2:=VU;have hn1:1<=n:=by have:=VR.2.1;omega
 have hnl:=B7 VR;simp only [VM.sat,UB,UH,hm,hw,true_imp_iff];refine ⟨⟨rfl,rfl⟩,⟨VJ,VJ⟩,⟨by simp only [VL];omega,λh4=>?_,λh4=>?_⟩,λh=>by cases h⟩
 exact V8
 ·have hN:n=2+1:=by
   simp at h4;omega
  refine ⟨⟨VJ,VJ,VJ⟩,?_,λh5=>?_,λh5=>?_⟩
  rotate_left 2
  exact V9
  ·all_goals exact yM
  have hk1:n-1=2:=VJ;rw [hk1];simp only [VL,Int.toNat_zero];refine ⟨VJ,VJ,VJ,by decide,hsI,λh6=>⟨DN _ _ _ _ _ _,FA hN h5 ?_ (by decide)⟩,λh6=>⟨⟨⟨B8 s,zJ _,zJ _,BA s,B9 s,PB s,trivial⟩,rfl,rfl⟩,uP hN h5 ?_⟩⟩
  unfold baE;simp at h6;exact if_neg h6;unfold baE;simp at h6;exact if_pos h6
noncomputable def fO:D2:=A2 Tryz.prog [] {} [] Tryz.f209 (U7 Tryz.f209)
theorem l9:GB VO 209 fO:=
 RL (G:=[]) (X:=WA) (L:=[]) Aa Ad VZ (UJ Tryz.func209) Tryz.func209 (UU Tryz.f209) U2
noncomputable def Jt1:D2:=Wn3 Tryz.prog (Qf3 Tryz.prog [] {R:=[],H:=[(209,fO)] } []) Tryz.f206 (U7 Tryz.f206)
theorem Xk4:GB VO 206 Jt1:=by
 have hX: ∀cx,VW VO {R:=[],H:=[(209,fO)] } cx:=(Ai Ab (Ag l9 Ac));exact pI (L:=[]) (λcx=>Wu6 (G:=[]) (X:={R:=[],H:=[(209,fO)] }) Aa (hX cx) VZ) (UJ Tryz.func206) Tryz.func206 (UU Tryz.f206) U2
abbrev WU(n:Nat)(U:Cg)(O:Cg)(m:Ch)(r:Nat->Cg)(v:Nat->Cg)(x0:Int)(A:Int):AV:=lst 3 (0+n+1) (GI (0+n) (GI 0 (λx=>[]) λk=>[iI (U k),iI (O k),lst 2 (m k) λk_1=>[iI (r k k_1),iI (v k k_1)]]) (U4 3 [iI x0,iI A,Q9]))
abbrev J8(x0:Int)(A:Int):AV:=lst 3 1 (GI 0 (λx=>[]) (U4 3 [iI x0,iI A,Q9]))
section
variable (n:Nat)(U O:Cg)(m:Ch)(r v:Nat->Cg)
theorem Zo3(x0 A:Int)(VR:n<=100000):UN VO 206 [.lst 3 n (λk=>[i (U k),i (O k),rdl (m k) (r k) (v k)]),.agg [i x0,i A,.x (.slice none 0 0)]] (.leaf (.lst 3 (n+1) (λk=>[i (H4 n U x0 k),i (H4 n O A k),rdl (if k<n then m k else 0) (r k) (v k)]))):=by
 refine ST Xk4 (t:=VM.may True (VM.may True (VM.may (n=0) (need [40<=140737488355328,RP 1 (U4 3 [iI x0,iI A,Q9])] (leaf (J8 x0 A))) (need [(0+n)*40<=140737488355328,∀(i:Nat),i<n-> ∀(a:AV),a∈[iI (U i),iI (O i),rdl (m i) (r i) (v i)]->AV.one a=true] (need [(0+n+1)*40<=140737488355328,RP 1 (U4 3 [iI x0,iI A,Q9])] (leaf (WU n U O m r v x0 A))))) (VM.may True (VM.may (n=0) (need [40<=140737488355328,RP 1 (U4 3 [iI x0,iI A,Q9])] (leaf (J8 x0 A))) (need [(0+n)*40<=140737488355328,∀(i:Nat),i<n-> ∀(a:AV),a∈[iI (U i),iI (O i),rdl (m i) (r i) (v i)]->AV.one a=true] (need [(0+n+1)*40<=140737488355328,RP 1 (U4 3 [iI x0,iI A,Q9])] (leaf (WU n U O m r v x0 A))))) (VM.may (n=0) (need [40<=140737488355328,RP 1 (U4 3 [iI x0,iI A,Q9])] (leaf (J8 x0 A))) (need [(0+n)*40<=140737488355328,∀(i:Nat),i<n-> ∀(a:AV),a∈[iI (U i),iI (O i),rdl (m i) (r i) (v i)]->AV.one a=true] (need [(0+n+1)*40<=140737488355328,RP 1 (U4 3 [iI x0,iI A,Q9])] (leaf (WU n U O m r v x0 A))))))) (VM.may True (VM.may True (VM.may (n=0) (need [40<=140737488355328,RP 1 (U4 3 [iI x0,iI A,Q9])] (leaf (J8 x0 A))) (need [(0+n)*40<=140737488355328,∀(i:Nat),i<n-> ∀(a:AV),a∈[iI (U i),iI (O i),rdl (m i) (r i) (v i)]->AV.one a=true] (need [(0+n+1)*40<=140737488355328,RP 1 (U4 3 [iI x0,iI A,Q9])] (leaf (WU n U O m r v x0 A))))) (VM.may (n=0) (need [40<=140737488355328,RP 1 (U4 3 [iI x0,iI A,Q9])] (leaf (J8 x0 A))) (need [(0+n)*40<=140737488355328,∀(i:Nat),i<n-> ∀(a:AV),a∈[iI (U i),iI (O i),rdl (m i) (r i) (v i)]->AV.one a=true] (need [(0+n+1)*40<=140737488355328,RP 1 (U4 3 [iI x0,iI A,Q9])] (leaf (WU n U O m r v x0 A)))))) (VM.may (n=0) (need [40<=140737488355328,RP 1 (U4 3 [iI x0,iI A,Q9])] (leaf (J8 x0 A))) (need [(0+n)*40<=140737488355328,∀(i:Nat),i<n-> ∀(a:AV),a∈[iI (U i),iI (O i),rdl (m i) (r i) (v i)]->AV.one a=true] (need [(0+n+1)*40<=140737488355328,RP 1 (U4 3 [iI x0,iI A,Q9])] (leaf (WU n U O m r v x0 A))))))) VU ?_;intro Q hQ;have hA: ∀(k:Nat),k<1-> ∀(a:AV),a∈U4 3 [i x0,i A,AV.x (.slice none 0 0)] k->a.one=true:=by
  intro k hk a ha;obtain rfl:k=0:=VJ;have ha:a∈[i x0,i A,AV.x (.slice none 0 0)]:=ha;simp only [GM,DL,or_false] at ha;rcases ha with rfl|rfl|rfl<;>simp [AV.one,Value.oneCell']
 have hB: ∀(k:Nat),k<n-> ∀(a:AV),a∈[i (U k),i (O k),rdl (m k) (r k) (v k)]->a.one=true:=by
  intro k hk a ha;simp only [GM,DL,or_false] at ha;rcases ha with rfl|rfl|rfl<;>simp [AV.one,Value.oneCell']
 have hI: ∀(k:Nat),∀x∈[i (H4 n U x0 k),i (H4 n O A k),rdl (if k<n then m k else 0) (r k) (v k)],Idf x:=by
  intro k x hx;simp only [GM,DL,or_false] at hx;rcases hx with rfl|rfl|rfl;exact .x _;exact .x _;exact VB
 have hL: ∀k,n<=k->k<n+1->qX [i x0,i A,AV.x (.slice none 0 0)] [i (H4 n U x0 k),i (H4 n O A k),rdl (if k<n then m k else 0) (r k) (v k)]:=by
  intro k h _;simp only [H4,if_neg (Nat.not_lt.2 h)];exact ⟨(P9 _).2,(P9 _).2,⟨Ak,rfl⟩,trivial⟩
 have h1:n=0-> ∃r',dT (lst 3 1 (GI 0 (λx=>[]) (U4 3 [i x0,i A,AV.x (.slice none 0 0)]))) r'/\Q r':=by
  intro h0;refine ⟨lst 3 (n+1) (λk=>[i (H4 n U x0 k),i (H4 n O A k),rdl (if k<n then m k else 0) (r k) (v k)]),⟨rfl,VJ,λk hk=>⟨?_,hI k⟩⟩,hQ⟩
  obtain rfl:k=0:=VJ;exact hL 0 VJ VJ
 have h2: ∃r',dT (lst 3 (0+n+1) (GI (0+n) (GI 0 (λx=>[]) λk=>[i (U k),i (O k),lst 2 (m k) λj=>[i (r k j),i (v k j)]]) (U4 3 [i x0,i A,Q9]))) r'/\Q r':=by
  refine ⟨lst 3 (n+1) (λk=>[i (H4 n U x0 k),i (H4 n O A k),rdl (if k<n then m k else 0) (r k) (v k)]),⟨rfl,VJ,λk hk=>⟨?_,hI k⟩⟩,hQ⟩
  show qX (H6 (decide (k<0+n)) (GI 0 (λx=>[]) (λk=>[i (U k),i (O k),lst 2 (m k) λj=>[i (r k j),i (v k j)]]) k) (U4 3 [i x0,i A,Q9] (k-(0+n)))) _
  rw [lV,show k-(0+n)=0 by omega]
  by_cases h:k<n;rw [show decide (k<0+n)=true from decide_eq_true VJ];simp only [H4,if_pos h];exact ⟨(P9 _).2,(P9 _).2,⟨rfl,rfl,λ_ _=>rfl⟩,trivial⟩;rw [show decide (k<0+n)=false from decide_eq_false VJ];exact hL k VJ VJ
 simp only [VM.sat,UB,UH]
 (with_reducible repeat' first|apply Al|intro _)
 all_goals first|exact Ak|omega|exact hA _ (by assumption) _ (by assumption)|exact hB _ (by assumption) _ (by assumption)|exact h2|exact h1 (by assumption)
def Qj8:DD:=λl=>match l with
 |[.lst 3 n1 f1,.agg [.x (.int .i64 x0),.x (.int .i64 A),.x z]]=>some (.need [lst 3 n1 f1= .lst 3 n (λk=>[i (U k),i (O k),rdl (m k) (r k) (v k)]),z= .slice none 0 0,n<=100000] (.leaf (.lst 3 (n+1) (λk=>[i (H4 n U x0 k),i (H4 n O A k),rdl (if k<n then m k else 0) (r k) (v k)]))))
 |_=>none
theorem Xk3:Sx.Enters Tryz.prog 206/\ ∀avs t,Qj8 n U O m r v avs=some t->UN VO 206 avs t:=by
 refine ⟨(UJ Tryz.func206),?_⟩;intro avs t h;unfold Qj8 at h;split at h;cases h;intro Q hQ;obtain ⟨h1,h2⟩:=hQ;have e1:=h1.1;have e2:=h1.2.1;have e3:=h1.2.2;rw [e1,e2];exact Zo3 _ _ _ _ _ _ _ _ e3 Q h2;cases h
end
noncomputable abbrev Qk1(s:HS):DZ:=A1 Tryz.prog [(36,RN)] {R:=[],H:=[],C:=[(206,(Qj8 s.nb s.ql s.qh s.qm s.qr s.qv))] } [(145,RC)] [] Tryz.f177 (U7 Tryz.f177)
theorem Qq9(s:HS):D7 VO 177 (Qk1 s):=
 FR (G:=[(36,RN)]) (X:={R:=[],H:=[],C:=[(206,(Qj8 s.nb s.ql s.qh s.qm s.qr s.qv))] }) (PX:=[(145,RC)]) (L:=[]) (Ae PV Aa) (Aj Ab Ac (Ah (Xk3 s.nb s.ql s.qh s.qm s.qr s.qv) (U8.nil _))) (UT.cons RR (UT.nil _)) VZ (UJ Tryz.func177) Tryz.func177 (UU Tryz.f177) (λj cj _ sp hsp=>by simp at hsp)
theorem Xi3(V:Cf)(n:Nat)(str:ByteArray)(s:HS)(VR:vO str n (U5 (UO 3) V))(UE:s.nb<=6):wJ VO 106 [.ptr 0 0,.x (.string str)] (XA s) 901 [[.ptr 0 0,.row 1,.row 2]] 211 (OS (btS s (U0 (V 0)) (U0 (V 1)))) (OX s) (rsE (fmE (U5 (UO 3) V) n 2 (btE s (U0 (V 0)) (U0 (V 1))))):=by
 refine LJ (PX:=[(145,RC),(146,jD),(177,(Qk1 s))]) (L:=[yY (U5 (UO 3) V) n 2 177 s]) (Ae (LD VR) (Ae wH Aa)) Ad (UT.cons RR (UT.cons wO (UT.cons (Qq9 s) (UT.nil _)))) VZ (UJ Tryz.func106) Tryz.func106 (UU Tryz.f106) (LG (lpE (b:= .loop NA) VU<|gE (U5 (UO 3) V) n 2 177 s VR.2.2.2 (B7 VR))) (N:=[]) (t:=let z0:=(btS s (U0 (V 0)) (U0 (V 1)));let z1:=(U5 (UO 3) V (0:Int).toNat);let z2:=(need [[Q5]=[Q5],HC (hL s) QT,QA s,QB s] (leaf (false,(4:Int))));let z3:=(need [[Q5]=[Q5],HC (hL s) QT,QA s,QB s] (leaf (false,(2:Int))));(need [MZ str str {data:=#[32] }] (need [UI 0 n] (branch (wdO z1) (need [VL (wdM (wdK z1)+1)] (branch (!(n:Int)==wdM (wdK z1)+1) z2 (need [(0:Int)<=1/\(1:Int)<=(n:Int)/\(n:Int)<=(n:Int)] (need [QO,VY (lst 1 n λk=>[HB (U5 (UO 3) V k)]),ZX,W8,(lst 1 (n-(1:Int).toNat) λi=>[AV.x (.string (U5 (UO 3) V ((1:Int).toNat+i)))])=lst 1 (n-1) λj=>[HB (U5 (UO 3) V (1+j))],(↑(n-(1:Int).toNat):Int)=(↑(n-1):Int),(0:Int)=((0:Nat):Int),0=0,∀(i:Nat),i<0->[]=[iI (U0 (U5 (UO 3) V (1+i)))],wdM (wdK z1)=2,VY (AV.fn (Fn.func 177) [] []),XL s,JU s,JV s,Z0 s,XR s,XS s,KR s,∀(i:Nat),i<s.xn->s.xg i=s.xg i,KS s,∀(i:Nat),i<s.yn->s.yg i=s.yg i,QO,K1,K2] (branch (nuB (U5 (UO 3) V) n) (need [UI 0 (↑(n-1):Int)] (need [(0:Int).toNat<n-1] (need [UI 1 (↑(n-1):Int)] (need [(1:Int).toNat<n-1] (branch (bt (0:Int) (U0 (U5 (UO 3) V 1)) (U0 (U5 (UO 3) V 2))) (need [UI 1 (↑(n-1):Int)] (need [(1:Int).toNat<n-1] (branch (!decide (U0 (U5 (UO 3) V 2)<=1000)) z3 (branch (!decide ((↑s.nb:Int)<6)) (need [[Q5]=[Q5],HC (hL s) QT,QA s,QB s] (leaf (false,(3:Int)))) (need [UI 0 (↑(n-1):Int)] (need [(0:Int).toNat<n-1] (need [UI 1 (↑(n-1):Int)] (need [(1:Int).toNat<n-1] (need [(hY s.nb s)=lst 3 s.nb λk=>[iI (s.ql k),iI (s.qh k),lst 2 (s.qm k) λk_1=>[iI (s.qr k k_1),iI (s.qv k k_1)]],JA=JA,s.nb<=100000] (need [[Q5]=[Q5],HC [hR s.nr s,iI s.pl,iI s.ph,lst 3 (s.nb+1) λk=>[iI (H4 s.nb (s.ql) (U0 (U5 (UO 3) V 1)) k),iI (H4 s.nb (s.qh) (U0 (U5 (UO 3) V 2)) k),lst 2 (if k<s.nb then s.qm k else 0) λk_1=>[iI (s.qr k k_1),iI (s.qv k k_1)]],hC s.nc s,hT s.ns s] (hL z0),((23:TypeId),1,s.xn,s.xg)=((23:TypeId),1,z0.xn,z0.xg),((9:TypeId),1,s.yn,s.yg)=((9:TypeId),1,z0.yn,z0.yg)] (leaf (true,(0:Int))))))))))))) z3))))) (need [[Q5]=[Q5],HC QT QT,QA s,QB s] (leaf (false,(4:Int))))))))) z2)))) VU ?_
 have hw:wdO (U5 (UO 3) V (Int.toNat 0))=true:=VU;have hm:wdM (wdK (U5 (UO 3) V (Int.toNat 0)))=2:=VU;have hn1:1<=n:=by have:=VR.2.1;omega
 have hnl:=B7 VR;simp only [VM.sat,UB,UH,hm,hw,true_imp_iff];refine ⟨⟨rfl,rfl⟩,⟨VJ,VJ⟩,⟨by simp only [VL];omega,λh4=>?_,λh4=>?_⟩,λh=>by cases h⟩
 exact V8
 ·have hN:n=2+1:=by
   simp at h4;omega
  refine ⟨⟨VJ,VJ,VJ⟩,?_,λh5=>?_,λh5=>?_⟩
  rotate_left 2
  exact V9
  ·all_goals exact yM
  have hk1:n-1=2:=VJ;have hx0:U0 (U5 (UO 3) V 1)=U0 (V 0):=rfl;have hx1:U0 (U5 (UO 3) V 2)=U0 (V 1):=rfl;rw [hk1];simp only [hx0,hx1,Int.toNat_zero];refine ⟨VJ,VJ,VJ,by decide,λhb=>⟨VJ,by decide,λh6=>⟨DN _ _ _ _ _ _,FA hN h5 ?_ (by decide)⟩,λh6=>⟨λh7=>⟨DN _ _ _ _ _ _,FA hN h5 ?_ (by decide)⟩,λh7=>⟨VJ,VJ,VJ,by decide,VJ,⟨⟨B8 s,zJ _,zJ _,BA (btS s (U0 (V 0)) (U0 (V 1))),B9 s,PB s,trivial⟩,rfl,rfl⟩,uP hN h5 ?_⟩⟩⟩,λhb=>⟨DN _ _ _ _ _ _,FA hN h5 ?_ (by decide)⟩⟩
  simp at h6;exact if_neg λh=>VJ;simp at h6 h7;unfold btE;rw [if_pos ⟨hb,h6⟩,if_neg VJ];simp at h6 h7;unfold btE;rw [if_pos ⟨hb,h6⟩,if_pos VJ];exact if_neg λh=>by
   rw [hb] at h;cases h.1
def thS(s:HS)(x0 A I Z:Int):HS:={s with nr:=s.nr+1,ra:=H4 s.nr s.ra x0,rb:=H4 s.nr s.rb A,ru:=H4 s.nr s.ru I,rv:=H4 s.nr s.rv Z}
def thD(x0 A I Z:Int):Int:=eB 4 100 20 30 1 (λ_=>x0) (λ_=>A) (λ_=>I) (λ_=>Z)
def thE(s:HS)(x0 A I Z:Int):Int:=if (thD x0 A I Z==0||thD x0 A I Z==9)=true then (if s.nr<12 then (if inE (thS s x0 A I Z)=0 then 0 else 9) else 3) else 2
def cR(S:UX):DD:=λl=>match S l with
 |some (ns,r)=>some (.needT ns (.leaf r))
 |none=>none
theorem Qf6{P:Program}{f:FuncId}{S:UX}(h:PI P f S):Sx.Enters P f/\ ∀avs t,cR S avs=some t->UN P f avs t:=by
 refine ⟨h.1,λavs t ht=>?_⟩;unfold cR at ht;split at ht;rename_i ns r hS;cases ht;intro Q hQ e w args h1 h2 h3 h4;obtain ⟨q1,q2⟩:=VM.sat_needT hQ;refine (h.2 _ _ _ hS (GE q1) e w args h1 h2 h3 h4).mono ?_;rintro en w' ⟨v,rfl,g1,g2⟩;exact ⟨v,r,rfl,q2,g1,g2⟩;cases ht
def d8:UX
 |[.agg [.x (.int .i64 c),.x (.int .i64 T),.x (.int .i64 U),.x (.int .i64 O)],.lst 4 n f]=>match f 0 with
  |[.x (.int .i64 a),.x (.int .i64 b),.x (.int .i64 u),.x (.int .i64 v)]=>some ([n=1],.tup [i (dtB c T U O 1 (λ_=>a) (λ_=>b) (λ_=>u) (λ_=>v)),i (eB c T U O 1 (λ_=>a) (λ_=>b) (λ_=>u) (λ_=>v))])
  |_=>none
 |_=>none
theorem Qv2:VP VO 203 d8:=by
 refine ⟨(UJ Tryz.func203),?_⟩;intro avs ns res h hn;unfold d8 at h;split at h;rename_i c T U O n f;split at h;rename_i a b u v hf;cases h;obtain rfl:n=1:=hn _ GD;exact (Xe1 c T U O 1 (λ_=>a) (λ_=>b) (λ_=>u) (λ_=>v)).same (.cons (.refl _) (.cons (.lst 4 1 f _ (λk hk=>by
  obtain rfl:k=0:=VJ;exact hf)) .nil))
 cases h;cases h
theorem bnf{b:Bool}(h:(!b)=false):b=true:=by cases b<;>simp_all
theorem bnt{b:Bool}(h:(!b)=true):b=false:=by cases b<;>simp_all
section
variable {s:HS}{x0 A I Z:Int}
theorem Jb2(h:(thD x0 A I Z==0)=false)(h':(thD x0 A I Z==9)=false):thE s x0 A I Z=2:=by
 unfold thE;rw [h,h'];rfl
theorem Xt8(h:(thD x0 A I Z==0||thD x0 A I Z==9)=true)(h8:(!decide ((s.nr:Int)<12))=true):thE s x0 A I Z=3:=by
 unfold thE;simp at h8;rw [if_pos h,if_neg VJ]
theorem Xt7(h:(thD x0 A I Z==0||thD x0 A I Z==9)=true)(h8:(!decide ((s.nr:Int)<12))=false)(h9:(!inE (thS s x0 A I Z)==0)=true):thE s x0 A I Z=9:=by
 unfold thE;simp at h8 h9;rw [if_pos h,if_pos VJ,if_neg h9]
theorem Xt9(h:(thD x0 A I Z==0||thD x0 A I Z==9)=true)(h8:(!decide ((s.nr:Int)<12))=false)(h9:(!inE (thS s x0 A I Z)==0)=false):thE s x0 A I Z=0:=by
 unfold thE;simp at h8 h9;rw [if_pos h,if_pos VJ,if_pos h9]
end
noncomputable abbrev SG(s:HS):DZ:=A1 Tryz.prog [(203,d8),(17,DW),(204,(Qj6 s.nr s.ra s.rb s.ru s.rv))] {R:=[(44,L8)],H:=[],C:=[(44,(cR L8))] } [(145,RC)] [] Tryz.f174 (U7 Tryz.f174)
theorem iL(s:HS):D7 VO 174 (SG s):=
 FR (G:=[(203,d8),(17,DW),(204,(Qj6 s.nr s.ra s.rb s.ru s.rv))]) (X:={R:=[(44,L8)],H:=[],C:=[(44,(cR L8))] }) (PX:=[(145,RC)]) (L:=[]) (Ae Qv2 (Ae qS (Ae (Xk1 s.nr s.ra s.rb s.ru s.rv) Aa))) (Aj (Af FD Ab) Ac (Ah (Qf6 FD) (U8.nil _))) (UT.cons RR (UT.nil _)) VZ (UJ Tryz.func174) Tryz.func174 (UU Tryz.f174) (λj cj _ sp hsp=>by simp at hsp)
abbrev WD(s:HS)(V:Cf):List AV:=[lst 4 (s.nr+1) λk=>[iI (H4 s.nr (s.ra) (U0 (U5 (UO 0) V 1)) k),iI (H4 s.nr (s.rb) (U0 (U5 (UO 0) V 2)) k),iI (H4 s.nr (s.ru) (U0 (U5 (UO 0) V 3)) k),iI (H4 s.nr (s.rv) (U0 (U5 (UO 0) V 4)) k)],iI s.pl,iI s.ph,hY s.nb s,hC s.nc s,hT s.ns s]
theorem Qo7(V:Cf)(n:Nat)(str:ByteArray)(s:HS)(VR:vO str n (U5 (UO 0) V))(UE:s.nr<=12):wJ VO 106 [.ptr 0 0,.x (.string str)] (XA s) 901 [[.ptr 0 0,.row 1,.row 2]] 211 (OS (thS s (U0 (V 0)) (U0 (V 1)) (U0 (V 2)) (U0 (V 3)))) (OX s) (rsE (fmE (U5 (UO 0) V) n 4 (thE s (U0 (V 0)) (U0 (V 1)) (U0 (V 2)) (U0 (V 3))))):=by
 refine LJ (PX:=[(145,RC),(146,jD),(174,(SG s))]) (L:=[yY (U5 (UO 0) V) n 4 174 s]) (Ae (LD VR) (Ae wH Aa)) Ad (UT.cons RR (UT.cons wO (UT.cons (iL s) (UT.nil _)))) VZ (UJ Tryz.func106) Tryz.func106 (UU Tryz.f106) (LG (lpE (b:= .loop NA) VU<|gE (U5 (UO 0) V) n 4 174 s VR.2.2.2 (B7 VR))) (N:=[]) (t:=let z1:=(thS s (U0 (V 0)) (U0 (V 1)) (U0 (V 2)) (U0 (V 3)));let z0:=(branch (!decide ((↑s.nr:Int)<12)) (need [[Q5]=[Q5],HC (hL s) QT,QA s,QB s] (leaf (false,(3:Int)))) (need [XL s,s.nr<=100000] (need [UF 4 (s.nr+1) λk=>[Bo.i (H4 s.nr (s.ra) (U0 (U5 (UO 0) V 1)) k),Bo.i (H4 s.nr (s.rb) (U0 (U5 (UO 0) V 2)) k),Bo.i (H4 s.nr (s.ru) (U0 (U5 (UO 0) V 3)) k),Bo.i (H4 s.nr (s.rv) (U0 (U5 (UO 0) V 4)) k)],UF 2 3 λk=>[i (tbP k),i (tbQ k)]] (branch (!rdE (4:Int) (100:Int) (20:Int) (30:Int) (s.nr+1) (H4 s.nr (s.ra) (U0 (U5 (UO 0) V 1))) (H4 s.nr (s.rb) (U0 (U5 (UO 0) V 2))) (H4 s.nr (s.ru) (U0 (U5 (UO 0) V 3))) (H4 s.nr (s.rv) (U0 (U5 (UO 0) V 4))) 3 tbP tbQ s.pl s.ph (1:Int) (3:Int)==0) (need [[Q5]=[Q5],HC (WD s V) QT,QA s,QB s] (leaf (false,(9:Int)))) (need [[Q5]=[Q5],HC (WD s V) (hL z1),((23:TypeId),1,s.xn,s.xg)=((23:TypeId),1,z1.xn,z1.xg),((9:TypeId),1,s.yn,s.yg)=((9:TypeId),1,z1.yn,z1.yg)] (leaf (true,(0:Int))))))));let z2:=(eB (4:Int) (100:Int) (20:Int) (30:Int) 1 (λx=>U0 (U5 (UO 0) V 1)) (λx=>U0 (U5 (UO 0) V 2)) (λx=>U0 (U5 (UO 0) V 3)) λx=>U0 (U5 (UO 0) V 4));let z3:=(U5 (UO 0) V (0:Int).toNat);let z4:=(need [[Q5]=[Q5],HC (hL s) QT,QA s,QB s] (leaf (false,(4:Int))));(need [MZ str str {data:=#[32] }] (need [UI 0 n] (branch (wdO z3) (need [VL (wdM (wdK z3)+1)] (branch (!(n:Int)==wdM (wdK z3)+1) z4 (need [(0:Int)<=1/\(1:Int)<=(n:Int)/\(n:Int)<=(n:Int)] (need [QO,VY (lst 1 n λk=>[HB (U5 (UO 0) V k)]),ZX,W8,(lst 1 (n-(1:Int).toNat) λi=>[AV.x (.string (U5 (UO 0) V ((1:Int).toNat+i)))])=lst 1 (n-1) λj=>[HB (U5 (UO 0) V (1+j))],(↑(n-(1:Int).toNat):Int)=(↑(n-1):Int),(0:Int)=((0:Nat):Int),0=0,∀(i:Nat),i<0->[]=[iI (U0 (U5 (UO 0) V (1+i)))],wdM (wdK z3)=4,VY (AV.fn (Fn.func 174) [] []),XL s,JU s,JV s,Z0 s,XR s,XS s,KR s,∀(i:Nat),i<s.xn->s.xg i=s.xg i,KS s,∀(i:Nat),i<s.yn->s.yg i=s.yg i,QO,K1,K2] (branch (nuB (U5 (UO 0) V) n) (need [UI 0 (↑(n-1):Int)] (need [(0:Int).toNat<n-1] (need [UI 1 (↑(n-1):Int)] (need [(1:Int).toNat<n-1] (need [UI 2 (↑(n-1):Int)] (need [(2:Int).toNat<n-1] (need [UI 3 (↑(n-1):Int)] (need [(3:Int).toNat<n-1] (need [1=1] (branch (z2==0) z0 (branch (!z2==9) (need [[Q5]=[Q5],HC (hL s) QT,QA s,QB s] (leaf (false,(2:Int)))) z0))))))))))) (need [[Q5]=[Q5],HC QT QT,QA s,QB s] (leaf (false,(4:Int))))))))) z4)))) VU ?_
 have hw:wdO (U5 (UO 0) V (Int.toNat 0))=true:=VU;have hm:wdM (wdK (U5 (UO 0) V (Int.toNat 0)))=4:=VU;have hn1:1<=n:=by have:=VR.2.1;omega
 have hnl:=B7 VR;simp only [VM.sat,UB,UH,hm,hw,true_imp_iff];refine ⟨⟨rfl,rfl⟩,⟨VJ,VJ⟩,⟨by simp only [VL];omega,λh4=>?_,λh4=>?_⟩,λh=>by cases h⟩
 exact V8
 ·have hN:n=4+1:=by
   simp at h4;omega
  refine ⟨⟨VJ,VJ,VJ⟩,?_,λh5=>?_,λh5=>?_⟩
  rotate_left 2
  exact V9
  ·all_goals exact yM
  have hk1:n-1=4:=VJ;have hx0:U0 (U5 (UO 0) V 1)=U0 (V 0):=rfl;have hx1:U0 (U5 (UO 0) V 2)=U0 (V 1):=rfl;have hx2:U0 (U5 (UO 0) V 3)=U0 (V 2):=rfl;have hx3:U0 (U5 (UO 0) V 4)=U0 (V 3):=rfl;rw [hk1];simp only [hx0,hx1,hx2,hx3];refine ⟨VJ,by decide,VJ,by decide,VJ,by decide,VJ,by decide,λh6=>⟨λh8=>⟨DN _ _ _ _ _ _,FA hN h5 (Xt8 (Bool.or_eq_true_iff.2 (.inl h6)) h8) (by decide)⟩,λh8=>⟨VJ,⟨Bo.isRec4 _ _ _ _ _,Pt.isRec2 _ _ _⟩,λh9=>⟨DN _ _ _ _ _ _,FA hN h5 (Xt7 (Bool.or_eq_true_iff.2 (.inl h6)) h8 h9) (by decide)⟩,λh9=>⟨⟨⟨B8 (thS s (U0 (V 0)) (U0 (V 1)) (U0 (V 2)) (U0 (V 3))),zJ _,zJ _,BA s,B9 s,PB s,trivial⟩,rfl,rfl⟩,uP hN h5 (Xt9 (Bool.or_eq_true_iff.2 (.inl h6)) h8 h9)⟩⟩⟩,λh6=>⟨λh7=>⟨DN _ _ _ _ _ _,FA hN h5 (Jb2 h6 (bnt h7)) (by decide)⟩,λh7=>⟨λh8=>⟨DN _ _ _ _ _ _,FA hN h5 (Xt8 (Bool.or_eq_true_iff.2 (.inr (bnf h7))) h8) (by decide)⟩,λh8=>⟨VJ,⟨Bo.isRec4 _ _ _ _ _,Pt.isRec2 _ _ _⟩,λh9=>⟨DN _ _ _ _ _ _,FA hN h5 (Xt7 (Bool.or_eq_true_iff.2 (.inr (bnf h7))) h8 h9) (by decide)⟩,λh9=>⟨⟨⟨B8 (thS s (U0 (V 0)) (U0 (V 1)) (U0 (V 2)) (U0 (V 3))),zJ _,zJ _,BA s,B9 s,PB s,trivial⟩,rfl,rfl⟩,uP hN h5 (Xt9 (Bool.or_eq_true_iff.2 (.inr (bnf h7))) h8 h9)⟩⟩⟩⟩⟩
section
variable {s:HS}{x0 A I Z:Int}
theorem Jh7(h6:(!asE 4 100 20 30 s.nr s.ra s.rb s.ru s.rv 3 tbP tbQ s.pl s.ph 1 3 x0 A I Z==0)=true):isE s x0 A I Z=2:=by
 unfold isE;simp at h6;rw [if_neg h6]
theorem Jh6(h6:(!asE 4 100 20 30 s.nr s.ra s.rb s.ru s.rv 3 tbP tbQ s.pl s.ph 1 3 x0 A I Z==0)=false)(h7:(!decide ((s.nc:Int)<10))=true):isE s x0 A I Z=3:=by
 unfold isE;simp at h6 h7;rw [if_pos h6,if_neg VJ]
theorem Zn4(h6:(!asE 4 100 20 30 s.nr s.ra s.rb s.ru s.rv 3 tbP tbQ s.pl s.ph 1 3 x0 A I Z==0)=false)(h7:(!decide ((s.nc:Int)<10))=false)(h8:(!kpB 4 100 20 30 s.nr s.ra s.rb s.ru s.rv 3 tbP tbQ s.pl s.ph 1 3 x0 A I Z)=true):isE s x0 A I Z=10:=by
 unfold isE;simp at h6 h7 h8;rw [if_pos h6,if_pos VJ,h8,if_neg (by decide)]
theorem Jh8(h6:(!asE 4 100 20 30 s.nr s.ra s.rb s.ru s.rv 3 tbP tbQ s.pl s.ph 1 3 x0 A I Z==0)=false)(h7:(!decide ((s.nc:Int)<10))=false)(h8:(!kpB 4 100 20 30 s.nr s.ra s.rb s.ru s.rv 3 tbP tbQ s.pl s.ph 1 3 x0 A I Z)=false):isE s x0 A I Z=0:=by
 unfold isE;simp at h6 h7 h8;rw [if_pos h6,if_pos VJ,h8,if_pos rfl]
end
noncomputable abbrev mU(s:HS):DZ:=A1 Tryz.prog [(26,bH),(211,(Qj7 s.nc s.ca s.cb s.cc s.cd s.cv))] {R:=[],H:=[],C:=[(44,(cR L8))] } [(145,RC)] [] Tryz.f179 (U7 Tryz.f179)
theorem pO(s:HS):D7 VO 179 (mU s):=
 FR (G:=[(26,bH),(211,(Qj7 s.nc s.ca s.cb s.cc s.cd s.cv))]) (X:={R:=[],H:=[],C:=[(44,(cR L8))] }) (PX:=[(145,RC)]) (L:=[]) (Ae Qk5 (Ae (Xk2 s.nc s.ca s.cb s.cc s.cd s.cv) Aa)) (Aj Ab Ac (Ah (Qf6 FD) (U8.nil _))) (UT.cons RR (UT.nil _)) VZ (UJ Tryz.func179) Tryz.func179 (UU Tryz.f179) (λj cj _ sp hsp=>by simp at hsp)
theorem Wh5(V:Cf)(n:Nat)(str:ByteArray)(s:HS)(VR:vO str n (U5 (UO 5) V))(UE:s.nc<=10):wJ VO 106 [.ptr 0 0,.x (.string str)] (XA s) 901 [[.ptr 0 0,.row 1,.row 2]] 211 (OS (isS s (U0 (V 0)) (U0 (V 1)) (U0 (V 2)) (U0 (V 3)))) (OX s) (rsE (fmE (U5 (UO 5) V) n 4 (isE s (U0 (V 0)) (U0 (V 1)) (U0 (V 2)) (U0 (V 3))))):=by
 refine LJ (PX:=[(145,RC),(146,jD),(179,(mU s))]) (L:=[yY (U5 (UO 5) V) n 4 179 s]) (Ae (LD VR) (Ae wH Aa)) Ad (UT.cons RR (UT.cons wO (UT.cons (pO s) (UT.nil _)))) VZ (UJ Tryz.func106) Tryz.func106 (UU Tryz.f106) (LG (lpE (b:= .loop NA) VU<|gE (U5 (UO 5) V) n 4 179 s VR.2.2.2 (B7 VR))) (N:=[]) (t:=let z0:=(isS s (U0 (V 0)) (U0 (V 1)) (U0 (V 2)) (U0 (V 3)));let z1:=(U5 (UO 5) V (0:Int).toNat);let z2:=(need [[Q5]=[Q5],HC (hL s) QT,QA s,QB s] (leaf (false,(4:Int))));let z3:=(U0 (U5 (UO 5) V 1));let z4:=(U0 (U5 (UO 5) V 2));let z5:=(U0 (U5 (UO 5) V 3));let z6:=(U0 (U5 (UO 5) V 4));(need [MZ str str {data:=#[32] }] (need [UI 0 n] (branch (wdO z1) (need [VL (wdM (wdK z1)+1)] (branch (!(n:Int)==wdM (wdK z1)+1) z2 (need [(0:Int)<=1/\(1:Int)<=(n:Int)/\(n:Int)<=(n:Int)] (need [QO,VY (lst 1 n λk=>[HB (U5 (UO 5) V k)]),ZX,W8,(lst 1 (n-(1:Int).toNat) λi=>[AV.x (.string (U5 (UO 5) V ((1:Int).toNat+i)))])=lst 1 (n-1) λj=>[HB (U5 (UO 5) V (1+j))],(↑(n-(1:Int).toNat):Int)=(↑(n-1):Int),(0:Int)=((0:Nat):Int),0=0,∀(i:Nat),i<0->[]=[iI (U0 (U5 (UO 5) V (1+i)))],wdM (wdK z1)=4,VY (AV.fn (Fn.func 179) [] []),XL s,JU s,JV s,Z0 s,XR s,XS s,KR s,∀(i:Nat),i<s.xn->s.xg i=s.xg i,KS s,∀(i:Nat),i<s.yn->s.yg i=s.yg i,QO,K1,K2] (branch (nuB (U5 (UO 5) V) n) (need [UI 0 (↑(n-1):Int)] (need [(0:Int).toNat<n-1] (need [UI 1 (↑(n-1):Int)] (need [(1:Int).toNat<n-1] (need [UI 2 (↑(n-1):Int)] (need [(2:Int).toNat<n-1] (need [UI 3 (↑(n-1):Int)] (need [(3:Int).toNat<n-1] (need [UF 4 s.nr λk=>[Bo.i (s.ra k),Bo.i (s.rb k),Bo.i (s.ru k),Bo.i (s.rv k)],UF 2 3 λk=>[i (tbP k),i (tbQ k)]] (branch (!asE (4:Int) (100:Int) (20:Int) (30:Int) s.nr (s.ra) (s.rb) (s.ru) (s.rv) 3 tbP tbQ s.pl s.ph (1:Int) (3:Int) z3 z4 z5 z6==0) (need [[Q5]=[Q5],HC (hL s) QT,QA s,QB s] (leaf (false,(2:Int)))) (branch (!decide ((↑s.nc:Int)<10)) (need [[Q5]=[Q5],HC (hL s) QT,QA s,QB s] (leaf (false,(3:Int)))) (branch (!kpB (4:Int) (100:Int) (20:Int) (30:Int) s.nr (s.ra) (s.rb) (s.ru) (s.rv) 3 tbP tbQ s.pl s.ph (1:Int) (3:Int) z3 z4 z5 z6) (need [[Q5]=[Q5],HC (hL s) QT,QA s,QB s] (leaf (false,(10:Int)))) (need [XR s,s.nc<=100000] (need [[Q5]=[Q5],HC [hR s.nr s,iI s.pl,iI s.ph,hY s.nb s,lst 5 (s.nc+1) λk=>[iI (H4 s.nc (s.ca) z3 k),iI (H4 s.nc (s.cb) z4 k),iI (H4 s.nc (s.cc) z5 k),iI (H4 s.nc (s.cd) z6 k),AV.x (.bool (apB s.nc (s.cv) false k))],hT s.ns s] (hL z0),((23:TypeId),1,s.xn,s.xg)=((23:TypeId),1,z0.xn,z0.xg),((9:TypeId),1,s.yn,s.yg)=((9:TypeId),1,z0.yn,z0.yg)] (leaf (true,(0:Int))))))))))))))))) (need [[Q5]=[Q5],HC QT QT,QA s,QB s] (leaf (false,(4:Int))))))))) z2)))) VU ?_
 have hw:wdO (U5 (UO 5) V (Int.toNat 0))=true:=VU;have hm:wdM (wdK (U5 (UO 5) V (Int.toNat 0)))=4:=VU;have hn1:1<=n:=by have:=VR.2.1;omega
 have hnl:=B7 VR;simp only [VM.sat,UB,UH,hm,hw,true_imp_iff];refine ⟨⟨rfl,rfl⟩,⟨VJ,VJ⟩,⟨by simp only [VL];omega,λh4=>?_,λh4=>?_⟩,λh=>by cases h⟩
 exact V8
 ·have hN:n=4+1:=by
   simp at h4;omega
  refine ⟨⟨VJ,VJ,VJ⟩,?_,λh5=>?_,λh5=>?_⟩
  rotate_left 2
  exact V9
  ·all_goals exact yM
  have hk1:n-1=4:=VJ;have hx0:U0 (U5 (UO 5) V 1)=U0 (V 0):=rfl;have hx1:U0 (U5 (UO 5) V 2)=U0 (V 1):=rfl;have hx2:U0 (U5 (UO 5) V 3)=U0 (V 2):=rfl;have hx3:U0 (U5 (UO 5) V 4)=U0 (V 3):=rfl;rw [hk1];simp only [hx0,hx1,hx2,hx3];refine ⟨VJ,by decide,VJ,by decide,VJ,by decide,VJ,by decide,⟨Bo.isRec4 _ _ _ _ _,Pt.isRec2 _ _ _⟩,λh6=>⟨DN _ _ _ _ _ _,FA hN h5 (Jh7 h6) (by decide)⟩,λh6=>⟨λh7=>⟨DN _ _ _ _ _ _,FA hN h5 (Jh6 h6 h7) (by decide)⟩,λh7=>⟨λh8=>⟨DN _ _ _ _ _ _,FA hN h5 (Zn4 h6 h7 h8) (by decide)⟩,λh8=>⟨VJ,⟨⟨B8 s,zJ _,zJ _,BA s,B9 (isS s (U0 (V 0)) (U0 (V 1)) (U0 (V 2)) (U0 (V 3))),PB s,trivial⟩,rfl,rfl⟩,uP hN h5 (Jh8 h6 h7 h8)⟩⟩⟩⟩
section
variable (s:HS)(x0 A I Z x4:Int)
def slS:HS:={s with ns:=s.ns+1,sa:=H4 s.ns s.sa x0,sb:=H4 s.ns s.sb A,sc:=H4 s.ns s.sc I,sl:=H4 s.ns s.sl Z,sh:=H4 s.ns s.sh x4}
def slE:Int:=if saB x0 A I Z x4=true then (if s.ns<8 then (if orE (s.ns+1) (H4 s.ns s.sa x0) (H4 s.ns s.sb A) (H4 s.ns s.sc I) (H4 s.ns s.sl Z) (H4 s.ns s.sh x4)=0 then 0 else 9) else 3) else 2
end
def yF:UX
 |[.agg [.x (.int .i64 c),.x (.int .i64 t),.lst 5 n f]]=>match f 0 with
  |[.x (.int .i64 x0),.x (.int .i64 A),.x (.int .i64 I),.x (.int .i64 Z),.x (.int .i64 x4)]=>some ([n=1,c=4,t=10],i (if saB x0 A I Z x4=true then 0 else 1))
  |_=>none
 |_=>none
def fI(n:Nat)(a b c U O:Cg):UX:=λl=>some ([sV n a b c U O,l=[.agg [i 4,i 10,sls n a b c U O]]],.tup [.top,.top,i (orE n a b c U O)])
theorem oE:VP VO 83 yF:=by
 refine ⟨(UJ Tryz.func83),?_⟩;intro avs ns res h hn;unfold yF at h;split at h;rename_i c t n f;split at h;rename_i x0 A I Z x4 hf;cases h;obtain rfl:n=1:=hn _ VT;obtain rfl:c=4:=hn (c=4) VT;obtain rfl:t=10:=hn (t=10) VT;have h1:=(NR 1 (λ_=>x0) (λ_=>A) (λ_=>I) (λ_=>Z) (λ_=>x4) VJ).same (.cons (LX.same (.cons (.refl _) (.cons (.refl _) (.cons (.lst 5 1 f _ (λk hk=>by
  obtain rfl:k=0:=VJ;exact hf)) .nil)))) .nil)
 have e:j7 1 (λ_=>x0) (λ_=>A) (λ_=>I) (λ_=>Z) (λ_=>x4)=saB x0 A I Z x4:=by
  unfold j7;cases hb:saB x0 A I Z x4 with
  |true=>exact GC.2 λj _=>hb
  |false=>exact Bool.eq_false_iff.2 λh=>Bool.noConfusion (hb.symm.trans (GC.1 h 0 VJ))
 rw [e] at h1;exact h1;cases h;cases h
theorem oD(n:Nat)(a b c U O:Cg):VP VO 213 (fI n a b c U O):=by
 refine ⟨(UJ Tryz.func213),?_⟩;intro avs ns res h hn;cases h;have e:=hn _ (HL _ GD);subst e;exact Qn5 n a b c U O (hn _ GD)
section
variable {s:HS}{x0 A I Z x4:Int}
theorem Jc1(h:saB x0 A I Z x4=false):slE s x0 A I Z x4=2:=by
 unfold slE;rw [h];rfl
theorem Jc0(h:saB x0 A I Z x4=true)(h7:(!decide ((s.ns:Int)<8))=true):slE s x0 A I Z x4=3:=by
 unfold slE;simp at h7;rw [if_pos h,if_neg VJ]
theorem Jb9(h:saB x0 A I Z x4=true)(h7:(!decide ((s.ns:Int)<8))=false)(h8:(!orE (s.ns+1) (H4 s.ns s.sa x0) (H4 s.ns s.sb A) (H4 s.ns s.sc I) (H4 s.ns s.sl Z) (H4 s.ns s.sh x4)==0)=true):slE s x0 A I Z x4=9:=by
 unfold slE;simp at h7 h8;rw [if_pos h,if_pos VJ,if_neg h8]
theorem Jc2(h:saB x0 A I Z x4=true)(h7:(!decide ((s.ns:Int)<8))=false)(h8:(!orE (s.ns+1) (H4 s.ns s.sa x0) (H4 s.ns s.sb A) (H4 s.ns s.sc I) (H4 s.ns s.sl Z) (H4 s.ns s.sh x4)==0)=false):slE s x0 A I Z x4=0:=by
 unfold slE;simp at h7 h8;rw [if_pos h,if_pos VJ,if_pos h8]
theorem slV(h:saB x0 A I Z x4=true)(h7:(!decide ((s.ns:Int)<8))=false)(hs:sV s.ns s.sa s.sb s.sc s.sl s.sh):sV (s.ns+1) (H4 s.ns s.sa x0) (H4 s.ns s.sb A) (H4 s.ns s.sc I) (H4 s.ns s.sl Z) (H4 s.ns s.sh x4):=by
 simp at h7;refine ⟨VJ,λk hk=>?_⟩;unfold H4;by_cases hk':k<s.ns;simp only [if_pos hk'];exact hs.2 k hk';simp only [if_neg hk'];exact h
end
theorem ifB{b:Bool}(h:(!(if b=true then (0:Int) else 1)==0)=false):b=true:=by cases b<;>simp_all
theorem ifB'{b:Bool}(h:(!(if b=true then (0:Int) else 1)==0)=true):b=false:=by cases b<;>simp_all
noncomputable def MI:D2:=A2 Tryz.prog [] {} [] Tryz.f39 (U7 Tryz.f39)
theorem pU:GB VO 39 MI:=
 RL (G:=[]) (X:=WA) (L:=[]) Aa Ad VZ (UJ Tryz.func39) Tryz.func39 (UU Tryz.f39) U2
section
variable (s:HS)(x0 A I Z x4:Int)
noncomputable abbrev Qk0:DZ:=A1 Tryz.prog [(83,yF),(212,(Qj5 s.ns s.sa s.sb s.sc s.sl s.sh)),(213,(fI (s.ns+1) (H4 s.ns s.sa x0) (H4 s.ns s.sb A) (H4 s.ns s.sc I) (H4 s.ns s.sl Z) (H4 s.ns s.sh x4)))] {R:=[],H:=[(39,MI)] } [(145,RC)] [] Tryz.f181 (U7 Tryz.f181)
theorem Qq2:D7 VO 181 (Qk0 s x0 A I Z x4):=
 FR (G:=[(83,yF),(212,(Qj5 s.ns s.sa s.sb s.sc s.sl s.sh)),(213,(fI (s.ns+1) (H4 s.ns s.sa x0) (H4 s.ns s.sb A) (H4 s.ns s.sc I) (H4 s.ns s.sl Z) (H4 s.ns s.sh x4)))]) (X:={R:=[],H:=[(39,MI)] }) (PX:=[(145,RC)]) (L:=[]) (Ae oE (Ae (Xk0 s.ns s.sa s.sb s.sc s.sl s.sh) (Ae (oD (s.ns+1) (H4 s.ns s.sa x0) (H4 s.ns s.sb A) (H4 s.ns s.sc I) (H4 s.ns s.sl Z) (H4 s.ns s.sh x4)) Aa))) (Ai Ab (Ag pU Ac)) (UT.cons RR (UT.nil _)) VZ (UJ Tryz.func181) Tryz.func181 (UU Tryz.f181) (λj cj _ sp hsp=>by simp at hsp)
end
abbrev ZF(s:HS)(V:Cf):List AV:=[hR s.nr s,iI s.pl,iI s.ph,hY s.nb s,hC s.nc s,lst 5 (s.ns+1) λk=>[iI (H4 s.ns (s.sa) (U0 (U5 (UO 7) V 1)) k),iI (H4 s.ns (s.sb) (U0 (U5 (UO 7) V 2)) k),iI (H4 s.ns (s.sc) (U0 (U5 (UO 7) V 3)) k),iI (H4 s.ns (s.sl) (U0 (U5 (UO 7) V 4)) k),iI (H4 s.ns (s.sh) (U0 (U5 (UO 7) V 5)) k)]]
theorem Xi2(V:Cf)(n:Nat)(str:ByteArray)(s:HS)(VR:vO str n (U5 (UO 7) V))(UE:sV s.ns s.sa s.sb s.sc s.sl s.sh):wJ VO 106 [.ptr 0 0,.x (.string str)] (XA s) 901 [[.ptr 0 0,.row 1,.row 2]] 211 (OS (slS s (U0 (V 0)) (U0 (V 1)) (U0 (V 2)) (U0 (V 3)) (U0 (V 4)))) (OX s) (rsE (fmE (U5 (UO 7) V) n 5 (slE s (U0 (V 0)) (U0 (V 1)) (U0 (V 2)) (U0 (V 3)) (U0 (V 4))))):=by
 refine LJ (PX:=[(145,RC),(146,jD),(181,(Qk0 s (U0 (V 0)) (U0 (V 1)) (U0 (V 2)) (U0 (V 3)) (U0 (V 4))))]) (L:=[yY (U5 (UO 7) V) n 5 181 s]) (Ae (LD VR) (Ae wH Aa)) Ad (UT.cons RR (UT.cons wO (UT.cons (Qq2 s (U0 (V 0)) (U0 (V 1)) (U0 (V 2)) (U0 (V 3)) (U0 (V 4))) (UT.nil _)))) VZ (UJ Tryz.func106) Tryz.func106 (UU Tryz.f106) (LG (lpE (b:= .loop NA) VU<|gE (U5 (UO 7) V) n 5 181 s VR.2.2.2 (B7 VR))) (N:=[]) (t:=let z0:=(slS s (U0 (V 0)) (U0 (V 1)) (U0 (V 2)) (U0 (V 3)) (U0 (V 4)));let z1:=(U5 (UO 7) V (0:Int).toNat);let z2:=(need [[Q5]=[Q5],HC (hL s) QT,QA s,QB s] (leaf (false,(4:Int))));(need [MZ str str {data:=#[32] }] (need [UI 0 n] (branch (wdO z1) (need [VL (wdM (wdK z1)+1)] (branch (!(n:Int)==wdM (wdK z1)+1) z2 (need [(0:Int)<=1/\(1:Int)<=(n:Int)/\(n:Int)<=(n:Int)] (need [QO,VY (lst 1 n λk=>[HB (U5 (UO 7) V k)]),ZX,W8,(lst 1 (n-(1:Int).toNat) λi=>[AV.x (.string (U5 (UO 7) V ((1:Int).toNat+i)))])=lst 1 (n-1) λj=>[HB (U5 (UO 7) V (1+j))],(↑(n-(1:Int).toNat):Int)=(↑(n-1):Int),(0:Int)=((0:Nat):Int),0=0,∀(i:Nat),i<0->[]=[iI (U0 (U5 (UO 7) V (1+i)))],wdM (wdK z1)=5,VY (AV.fn (Fn.func 181) [] []),XL s,JU s,JV s,Z0 s,XR s,XS s,KR s,∀(i:Nat),i<s.xn->s.xg i=s.xg i,KS s,∀(i:Nat),i<s.yn->s.yg i=s.yg i,QO,K1,K2] (branch (nuB (U5 (UO 7) V) n) (need [UI 0 (↑(n-1):Int)] (need [(0:Int).toNat<n-1] (need [UI 1 (↑(n-1):Int)] (need [(1:Int).toNat<n-1] (need [UI 2 (↑(n-1):Int)] (need [(2:Int).toNat<n-1] (need [UI 3 (↑(n-1):Int)] (need [(3:Int).toNat<n-1] (need [UI 4 (↑(n-1):Int)] (need [(4:Int).toNat<n-1] (need [1=1,QY,WE] (branch (!(if saB (U0 (U5 (UO 7) V 1)) (U0 (U5 (UO 7) V 2)) (U0 (U5 (UO 7) V 3)) (U0 (U5 (UO 7) V 4)) (U0 (U5 (UO 7) V 5))=true then (0:Int) else (1:Int))==0) (need [[Q5]=[Q5],HC (hL s) QT,QA s,QB s] (leaf (false,(2:Int)))) (branch (!decide ((↑s.ns:Int)<8)) (need [[Q5]=[Q5],HC (hL s) QT,QA s,QB s] (leaf (false,(3:Int)))) (need [XS s,s.ns<=100000] (need [sV (s.ns+1) (H4 s.ns (s.sa) (U0 (V 0))) (H4 s.ns (s.sb) (U0 (V 1))) (H4 s.ns (s.sc) (U0 (V 2))) (H4 s.ns (s.sl) (U0 (V 3))) (H4 s.ns (s.sh) (U0 (V 4))),[agg [iI 4,iI 10,lst 5 (s.ns+1) λk=>[iI (H4 s.ns (s.sa) (U0 (U5 (UO 7) V 1)) k),iI (H4 s.ns (s.sb) (U0 (U5 (UO 7) V 2)) k),iI (H4 s.ns (s.sc) (U0 (U5 (UO 7) V 3)) k),iI (H4 s.ns (s.sl) (U0 (U5 (UO 7) V 4)) k),iI (H4 s.ns (s.sh) (U0 (U5 (UO 7) V 5)) k)]]]=[agg [iI 4,iI 10,lst 5 (s.ns+1) λk=>[iI (H4 s.ns (s.sa) (U0 (V 0)) k),iI (H4 s.ns (s.sb) (U0 (V 1)) k),iI (H4 s.ns (s.sc) (U0 (V 2)) k),iI (H4 s.ns (s.sl) (U0 (V 3)) k),iI (H4 s.ns (s.sh) (U0 (V 4)) k)]]]] (branch (!orE (s.ns+1) (H4 s.ns (s.sa) (U0 (V 0))) (H4 s.ns (s.sb) (U0 (V 1))) (H4 s.ns (s.sc) (U0 (V 2))) (H4 s.ns (s.sl) (U0 (V 3))) (H4 s.ns (s.sh) (U0 (V 4)))==0) (need [[Q5]=[Q5],HC (ZF s V) QT,QA s,QB s] (leaf (false,(9:Int)))) (need [[Q5]=[Q5],HC (ZF s V) (hL z0),((23:TypeId),1,s.xn,s.xg)=((23:TypeId),1,z0.xn,z0.xg),((9:TypeId),1,s.yn,s.yg)=((9:TypeId),1,z0.yn,z0.yg)] (leaf (true,(0:Int)))))))))))))))))))) (need [[Q5]=[Q5],HC QT QT,QA s,QB s] (leaf (false,(4:Int))))))))) z2)))) VU ?_
 have hw:wdO (U5 (UO 7) V (Int.toNat 0))=true:=VU;have hm:wdM (wdK (U5 (UO 7) V (Int.toNat 0)))=5:=VU;have hn1:1<=n:=by have:=VR.2.1;omega
 have hnl:=B7 VR;simp only [VM.sat,UB,UH,hm,hw,true_imp_iff];refine ⟨⟨rfl,rfl⟩,⟨VJ,VJ⟩,⟨by simp only [VL];omega,λh4=>?_,λh4=>?_⟩,λh=>by cases h⟩
 exact V8
 ·have hN:n=5+1:=by
   simp at h4;omega
  refine ⟨⟨VJ,VJ,VJ⟩,?_,λh5=>?_,λh5=>?_⟩
  rotate_left 2
  exact V9
  ·all_goals exact yM
  have hk1:n-1=5:=VJ;have hx0:U0 (U5 (UO 7) V 1)=U0 (V 0):=rfl;have hx1:U0 (U5 (UO 7) V 2)=U0 (V 1):=rfl;have hx2:U0 (U5 (UO 7) V 3)=U0 (V 2):=rfl;have hx3:U0 (U5 (UO 7) V 4)=U0 (V 3):=rfl;have hx4:U0 (U5 (UO 7) V 5)=U0 (V 4):=rfl;rw [hk1];simp only [hx0,hx1,hx2,hx3,hx4];have hns:=UE.1;refine ⟨VJ,by decide,VJ,by decide,VJ,by decide,VJ,by decide,VJ,by decide,λh6=>⟨DN _ _ _ _ _ _,FA hN h5 (Jc1 (ifB' h6)) (by decide)⟩,λh6=>⟨λh7=>⟨DN _ _ _ _ _ _,FA hN h5 (Jc0 (ifB h6) h7) (by decide)⟩,λh7=>⟨VJ,⟨slV (ifB h6) h7 UE,trivial⟩,λh8=>⟨DN _ _ _ _ _ _,FA hN h5 (Jb9 (ifB h6) h7 h8) (by decide)⟩,λh8=>⟨⟨⟨B8 s,zJ _,zJ _,BA s,B9 s,PB (slS s (U0 (V 0)) (U0 (V 1)) (U0 (V 2)) (U0 (V 3)) (U0 (V 4))),trivial⟩,rfl,rfl⟩,uP hN h5 (Jc2 (ifB h6) h7 h8)⟩⟩⟩⟩
theorem Wo6(r v:Int)(m:Nat)(g:Cg)(VR:1<=m):VX VO 208 [.agg [i r,i v],.ro [.lst 1 m (λk=>[i (g k)])]] (bl (!(r==g 0))):=by
 refine GW Tryz.func208 (t:=need [UI 0 m] (leaf (RV.x (.bool (r != g (0:Int).toNat))))) VU ?_;simp only [VM.sat,UB,G0,UD,UH,Int.toNat_zero];refine ⟨VJ,?_⟩;show (r != g 0)=_;rfl
def Qh8(m:Nat)(g:Cg):UX
 |[.agg [.x (.int .i64 r),.x (.int .i64 v)],b]=>some ([1<=m,[b]=[.ro [.lst 1 m (λk=>[i (g k)])]]],bl (!(r==g 0)))
 |_=>none
theorem Wo5(m:Nat)(g:Cg):VP VO 208 (Qh8 m g):=by
 refine ⟨(UJ Tryz.func208),?_⟩;intro avs ns res h hn;unfold Qh8 at h;split at h;cases h;have e:=hn _ (HL _ GD);injection e with e _
 subst e;exact Wo6 _ _ m g (hn _ GD);cases h
theorem Qr3(r v:Int)(m:Nat)(g:Cg)(VR:1<=m):VX VO 236 [.agg [i r,i v],.ro [.fn (.func 208) [] [.ro [.lst 1 m (λk=>[i (g k)])]]]] (bl (r==g 0)):=by
 refine U1 (L:=[]) (Ae (Wo5 m g) Aa) VZ Tryz.func236 (UU Tryz.f236) U2 (t:=need [1<=m,VY ([AV.ro [lst 1 m λk=>[iI (g k)]]])] (leaf (RV.x (.bool !!r==g 0)))) VU ?_;simp only [VM.sat,UB,G0,UD,UH];refine ⟨VR,?_⟩;show (!!(r==g 0))=_;simp
def mJ(m:Nat)(g:Cg):UX
 |[.agg [.x (.int .i64 r),.x (.int .i64 v)],b]=>some ([1<=m,[b]=[.ro [.fn (.func 208) [] [.ro [.lst 1 m (λk=>[i (g k)])]]]]],bl (r==g 0))
 |_=>none
theorem OJ(m:Nat)(g:Cg):VP VO 236 (mJ m g):=by
 refine ⟨(UJ Tryz.func236),?_⟩;intro avs ns res h hn;unfold mJ at h;split at h;cases h;have e:=hn _ (HL _ GD);injection e with e _
 subst e;exact Qr3 _ _ m g (hn _ GD);cases h
def seJ(r:Cg)(x:Int)(j:Nat):Bool:=r j==x
def seN(n:Nat)(r:Cg)(x:Int):Bool:=D3 (λj=> !(r j==x)) n
abbrev W9(m:Nat)(g:Cg):AV:=AV.fn (Fn.func 236) [] [AV.ro [AV.fn (Fn.func 208) [] [AV.ro [lst 1 m λk=>[iI (g k)]]]]]
section
variable (n:Nat)
abbrev ZQ(r:Cg)(v:Cg):AV:=lst 2 n λk=>[iI (r k),iI (v k)]
def d9(r v:Cg)(m:Nat)(g:Cg):St:={σ:=[ZQ n r v,W9 m g]++HI 5 [iI (n:Int)]++HI 11 [],m:=[],nx:=4}
noncomputable def Ql1:Code:=U9 (VS (U7 Tryz.f252) 0)
def O9(r v:Cg)(m:Nat)(g:Cg)(k:Nat):St:=(upM [(8,i k)] (d9 n r v m g))
def BZ(r v:Cg)(m:Nat)(g:Cg)(k:Nat):G5->Option St
 | .ret=>some (upM [(4,i (GX ((seJ r (g 0))) n))] (d9 n r v m g))
 | .exit 0=>some (upM [] (d9 n r v m g))
 |_=>none
def Qg4(r v:Cg)(m:Nat)(g:Cg):CT:= .branch (decide (GX ((seJ r (g 0))) n<n)) (.leaf (.ret,(BZ n r v m g 0 .ret).getD (d9 n r v m g))) (.leaf (.exit 0,(BZ n r v m g 0 (.exit 0)).getD (d9 n r v m g)))
def mV(r v:Cg)(m:Nat)(g:Cg):UG:=(HF (O9 n r v m g (0)) (Qg4 n r v m g))
end
abbrev K8(m:Nat)(g:Cg):List AV:=[AV.ro [AV.fn (Fn.func 208) [] [AV.ro [lst 1 m λk=>[iI (g k)]]]]]
section
variable (n:Nat)(r v:Cg)(m:Nat)(g:Cg)
theorem Qv7(VR:n<=100000)(UE:1<=m):G6 VO (.loop Ql1) (mV n r v m g):=by
 refine HH (L:=[]) (Ae (OJ m g) Aa) VZ U2 (X:=Nat) (O9 n r v m g) (λk=>k<=n/\ ∀j,j<k->(seJ r (g 0)) j=false) (λk=>n-k) (BZ n r v m g) (x0:=0) ⟨VJ,λj hj=>VJ⟩ ?_ ?_ ?_;rintro k;kernel_rfl;rintro k y E h;unfold BZ at h;split at h;cases h;kernel_rfl;cases h;kernel_rfl;cases h
 ·rintro Q hQ k hx;refine ⟨(k+1),?_⟩;(with_reducible refine D9 (t:=branch (decide ((k:Int)<(n:Int))) (need [UI k n] (need [1<=m,VY (K8 m g)] (branch (r k==g 0) (need [VY (ZQ n r v),VY (W9 m g),(k:Int)=(↑(GX (seJ r (g 0)) n):Int),VY (n:Int)] (leaf G5.ret)) (need [VL ((k:Int)+1)] (need [VY (ZQ n r v),VY (W9 m g),VY (n:Int),(k:Int)+1=(↑(k+1):Int)] (leaf G5.normal)))))) (need [VY (ZQ n r v),VY (W9 m g),VY (n:Int)] (leaf (G5.exit 0)))) VU ?_);simp only [Qg4,BZ,VM.sat,GS,HA] at hQ;simp only [VM.sat,UB,UH,HA,VL,BZ,F4];have Xk8:k<n->((seJ r (g 0))) k=true->GX ((seJ r (g 0))) n=k:=λh hb=>zQ h hb hx.2;have PL: ¬k<n->GX ((seJ r (g 0))) n=n:=λh=>qB (λj hj=>hx.2 j VJ);have hgo:((seJ r (g 0))) k=false-> ∀j,j<k+1->((seJ r (g 0))) j=false:=by
   intro hb j hj;rcases (show j<k\/j=k by omega) with h1|rfl
   exact hx.2 j h1;exact hb
  refine ⟨λh=>⟨VJ,UE,?_⟩,λh=>?_⟩
  rotate_left
  intro E hE;cases hE;exact hQ.2 (by rw [PL VJ];omega)
  have hk:k<n:=VJ;refine ⟨λhb=>?_,λhb=>?_⟩;exact VE;exact ⟨VJ,VJ,⟨VJ,hgo hb⟩,VJ⟩
theorem Xj7(VR:n<=100000)(UE:1<=m):VX VO 252 [rdl n r v,.fn (.func 236) [] [.ro [.fn (.func 208) [] [.ro [.lst 1 m (λk=>[i (g k)])]]]]] (i (if GX ((seJ r (g 0))) n<n then (GX ((seJ r (g 0))) n:Int) else -1)):=by
 refine U1 (L:=[mV n r v m g]) (Ae (OJ m g) Aa) VZ Tryz.func252 (UU Tryz.f252) (G7 (lpE (b:= .loop Ql1) VU<|Qv7 n r v m g VR UE)) (t:=need [VY (ZQ n r v),VY (W9 m g),VY (n:Int),(0:Int)=((0:Nat):Int)] (branch (decide (GX (seJ r (g 0)) n<n)) (leaf (RV.x (.int .i64 (↑(GX (seJ r (g 0)) n):Int)))) (leaf (RV.x (KL))))) VU ?_
 exact VC
def Zs8:UX:=λl=>some ([l=[rdl n r v,.fn (.func 236) [] [.ro [.fn (.func 208) [] [.ro [.lst 1 m (λk=>[i (g k)])]]]]]],i (if GX (seJ r (g 0)) n<n then (GX (seJ r (g 0)) n:Int) else -1))
theorem Wn8(VR:n<=100000)(UE:1<=m):VP VO 252 (Zs8 n r v m g):=by
 refine ⟨(UJ Tryz.func252),?_⟩;intro avs ns res h hn;cases h;have e:=hn _ GD;subst e;exact Xj7 n r v m g VR UE
theorem Xl4(VR:n<=100000)(UE:1<=m):VX VO 235 [rdl n r v,.fn (.func 236) [] [.ro [.fn (.func 208) [] [.ro [.lst 1 m (λk=>[i (g k)])]]]]] (bl (!seN n r (g 0))):=by
 refine U1 (L:=[]) (Ae (Wn8 n r v m g VR UE) Aa) VZ Tryz.func235 (UU Tryz.f235) U2 (t:=need [VY ([ZQ n r v,W9 m g])] (leaf (RV.x (.bool (decide ((if GX (seJ r (g 0)) n<n then (↑(GX (seJ r (g 0)) n):Int) else (-1:Int))>=(0:Int))))))) VU ?_
 simp only [VM.sat,UB,G0,UD,UH];unfold seN;rw [kM];have e:(λk=> !(λj=> !(r j==g 0)) k)=seJ r (g 0):=by
  funext k;simp [seJ]
 rw [e];have:=F6 (seJ r (g 0)) n;show decide ((if GX (seJ r (g 0)) n<n then (GX (seJ r (g 0)) n:Int) else -1)>=0)=_
 split<;>simp<;>omega
def Zt0:UX:=λl=>some ([l=[rdl n r v,.fn (.func 236) [] [.ro [.fn (.func 208) [] [.ro [.lst 1 m (λk=>[i (g k)])]]]]]],bl (!seN n r (g 0)))
theorem Wq5(VR:n<=100000)(UE:1<=m):VP VO 235 (Zt0 n r v m g):=by
 refine ⟨(UJ Tryz.func235),?_⟩;intro avs ns res h hn;cases h;have e:=hn _ GD;subst e;exact Xl4 n r v m g VR UE
theorem Wq8(VR:n<=100000)(UE:1<=m):VX VO 207 [rdl n r v,.fn (.func 208) [] [.ro [.lst 1 m (λk=>[i (g k)])]]] (bl (seN n r (g 0))):=by
 refine U1 (L:=[]) (Ae (Wq5 n r v m g VR UE) Aa) VZ Tryz.func207 (UU Tryz.f207) U2 (t:=need [VY ([ZQ n r v,W9 m g])] (leaf (RV.x (.bool !!seN n r (g 0))))) VU ?_;simp only [VM.sat,UB,G0,UD,UH];show (!!seN n r (g 0))=_;simp
end
section
variable (s:HS)
def laB:Nat:=((s.nb:Int)-1).toNat
def seM(k:Nat):Nat:=if k=laB s then s.qm k+1 else s.qm k
def seR(x0:Int)(k j:Nat):Int:=if k=laB s then H4 (s.qm k) (s.qr k) x0 j else s.qr k j
def seV(A:Int)(k j:Nat):Int:=if k=laB s then H4 (s.qm k) (s.qv k) A j else s.qv k j
def seS(x0 A:Int):HS:={s with qm:=seM s,qr:=seR s x0,qv:=seV s A}
def seE(x0 A:Int):Int:=if 1<=s.nb then (if bt 0 x0 2=true then (if seN (s.qm (laB s)) (s.qr (laB s)) x0=true then (if bt (-1000) A 2000=true then (if boE s.nb s.ql s.qh (seM s) (seR s x0) (seV s A)=0 then 0 else 9) else 2) else 6) else 7) else 8
end
section
variable (N:Nat)(U O:Cg)(m:Ch)(r v:Nat->Cg)
def wI:UX
 |[.agg l']=>some ([bV N U O m r v,HC l' [ofs,i 1,bds N U O m r v]],.tup [.top,i (boE N U O m r v)])
 |_=>none
theorem Qd3:Idf (bds N U O m r v):= .lst _ _ _ λk _ x hx=>by
 simp only [GM,DL,or_false] at hx;rcases hx with rfl|rfl|rfl;exact .x _;exact .x _;exact VB
end
theorem Wh2{e:UL}{w:World}{l l':List AV}{u:Value}(h:HC l l')(r:Rep e w (.agg l) u):Rep e w (.agg l') u:=by
 cases r with
 |agg _ vs h1 h2=>exact Rep.aggL (dS h ⟨h1,h2⟩)
theorem b6(N:Nat)(U O:Cg)(m:Ch)(r v:Nat->Cg):VP VO 19 (wI N U O m r v):=by
 refine ⟨(UJ Tryz.func19),?_⟩;intro avs ns res h hn;unfold wI at h;split at h;rename_i l';cases h;have h1:bV N U O m r v:=hn _ GD;have h2:HC l' [ofs,i 1,bds N U O m r v]:=hn _ (HL _ GD);intro e w args q1 q2 q3 q4;have q5:U3 e w [.agg [ofs,i 1,bds N U O m r v]] args:=by
  obtain ⟨u,us,rfl,g1,g2⟩:=q4.cons_inv;exact .cons (Wh2 h2 g1) g2
 refine (kL N U O m r v h1 e w args q1 q2 (λa ha=>?_) q5).mono ?_;rcases PM.1 ha with rfl;refine .agg _ λx hx=>?_;simp only [GM,DL,or_false] at hx;rcases hx with rfl|rfl|rfl;exact VB;exact .x _;exact Qd3 _ _ _ _ _ _;rintro en w' ⟨u,rfl,g1,g2⟩;have k:DX (tup [.lst 2 (boN N U O m r v) (λk=>[i (boL N U O m r v k),i (boH N U O m r v k)]),i (boE N U O m r v)]) (.tup [.top,i (boE N U O m r v)]):=⟨trivial,(P9 _).2,trivial⟩;exact ⟨u,rfl,g1,L1 k g2⟩;cases h
section
variable {s:HS}
theorem Jd5{x0 A:Int}(h:bV s.nb s.ql s.qh s.qm s.qr s.qv)(h1:1<=s.nb)(h2:bt 0 x0 2=true)(h3:seN (s.qm (laB s)) (s.qr (laB s)) x0=true)(h4:bt (-1000) A 2000=true):bV s.nb s.ql s.qh (seM s) (seR s x0) (seV s A):=by
 rw [bt_iff] at h2 h4;have h3: ∀j,j<s.qm (laB s)->s.qr (laB s) j≠x0:=λj hj=>by simpa using GC.1 h3 j hj
 have hla:laB s<s.nb:=by unfold laB;omega
 obtain ⟨⟨g0,g1⟩,g2⟩:=h;have hq:s.qm (laB s)<=3:=by
  rcases An 3 (s.qm (laB s)) with hq|hq;obtain ⟨_,_,_,_,g3⟩:=g1 _ hla;have a0:=g3 0 VJ;have a1:=g3 1 VJ;have a2:=g3 2 VJ;have a3:=g3 3 VJ;have b01:=g2 _ hla 0 1 VJ VJ;have b02:=g2 _ hla 0 2 VJ VJ;have b03:=g2 _ hla 0 3 VJ VJ;have b12:=g2 _ hla 1 2 VJ VJ;have b13:=g2 _ hla 1 3 VJ VJ;have b23:=g2 _ hla 2 3 VJ VJ;omega;exact hq
 refine ⟨⟨g0,λb hb=>?_⟩,λb hb j k hjk hk=>?_⟩;obtain ⟨k1,k2,k3,k4,k5⟩:=g1 b hb;unfold seM seR seV H4;by_cases e:b=laB s;subst e;simp only [if_true];refine ⟨VJ,k2,k3,k4,λj hj=>?_⟩;by_cases e:j<s.qm (laB s);simp only [if_pos e];exact k5 j e;simp only [if_neg e];omega;simp only [if_neg e];exact ⟨k1,k2,k3,k4,k5⟩;unfold seM at hk;unfold seR H4;by_cases e:b=laB s;subst e;simp only [if_true] at hk ⊢;by_cases e:k<s.qm (laB s);simp only [if_pos e,if_pos (show j<s.qm (laB s) by omega)]
 exact g2 _ hb j k hjk e;simp only [if_neg e,if_pos (show j<s.qm (laB s) by omega)]
 exact h3 j VJ;simp only [if_neg e] at hk ⊢;exact g2 _ hb j k hjk hk
theorem Jc7{k:Nat}(h:k=laB s):seM s k=s.qm (laB s)+1:=by rw [h];exact if_pos rfl
theorem Jc8{k:Nat}(h: ¬k=laB s):seM s k=s.qm k:=if_neg h
theorem Jc5{x:Int}{k j:Nat}(h:k=laB s):seR s x k j=H4 (s.qm (laB s)) (s.qr (laB s)) x j:=by rw [h];exact if_pos rfl
theorem Jc6{x:Int}{k j:Nat}(h: ¬k=laB s):seR s x k j=s.qr k j:=if_neg h
theorem Jc3{x:Int}{k j:Nat}(h:k=laB s):seV s x k j=H4 (s.qm (laB s)) (s.qv (laB s)) x j:=by rw [h];exact if_pos rfl
theorem Jc4{x:Int}{k j:Nat}(h: ¬k=laB s):seV s x k j=s.qv k j:=if_neg h
theorem Jd0{x0 A:Int}(h:(!decide ((s.nb:Int)-1>=0))=true):seE s x0 A=8:=by
 simp at h;exact if_neg VJ
theorem Jd1{x0 A:Int}(h1:1<=s.nb)(h2:bt 0 x0 2=false):seE s x0 A=7:=by
 unfold seE;rw [if_pos h1,h2];rfl
theorem Jd2{x0 A:Int}(h1:1<=s.nb)(h2:bt 0 x0 2=true)(h3:seN (s.qm (laB s)) (s.qr (laB s)) x0=false):seE s x0 A=6:=by
 unfold seE;rw [if_pos h1,if_pos h2,h3];rfl
theorem Jd3{x0 A:Int}(h1:1<=s.nb)(h2:bt 0 x0 2=true)(h3:seN (s.qm (laB s)) (s.qr (laB s)) x0=true)(h4:bt (-1000) A 2000=false):seE s x0 A=2:=by
 unfold seE;rw [if_pos h1,if_pos h2,if_pos h3,h4];rfl
theorem Jc9{x0 A:Int}(h1:1<=s.nb)(h2:bt 0 x0 2=true)(h3:seN (s.qm (laB s)) (s.qr (laB s)) x0=true)(h4:bt (-1000) A 2000=true)(h5:(!boE s.nb s.ql s.qh (seM s) (seR s x0) (seV s A)==0)=true):seE s x0 A=9:=by
 unfold seE;simp at h5;rw [if_pos h1,if_pos h2,if_pos h3,if_pos h4,if_neg h5]
theorem Jd4{x0 A:Int}(h1:1<=s.nb)(h2:bt 0 x0 2=true)(h3:seN (s.qm (laB s)) (s.qr (laB s)) x0=true)(h4:bt (-1000) A 2000=true)(h5:(!boE s.nb s.ql s.qh (seM s) (seR s x0) (seV s A)==0)=false):seE s x0 A=0:=by
 unfold seE;simp at h5;rw [if_pos h1,if_pos h2,if_pos h3,if_pos h4,if_pos h5]
end
theorem Zn8(s:HS)(k:Nat): ∀x∈[i (s.ql k),i (s.qh k),bts (s.qm k) (s.qr k) (s.qv k)],Idf x:=λx hx=>by
 simp only [GM,DL,or_false] at hx;rcases hx with rfl|rfl|rfl;exact .x _;exact .x _;exact VB
noncomputable def fM:D2:=A2 Tryz.prog [] {} [] Tryz.f46 (U7 Tryz.f46)
theorem iQ:GB VO 46 fM:=
 RL (G:=[]) (X:=WA) (L:=[]) Aa Ad VZ (UJ Tryz.func46) Tryz.func46 (UU Tryz.f46) U2
section
variable (n:Nat)(r v:Cg)(m:Nat)(g:Cg)
def MC:UX:=λl=>some ([n<=100000,1<=m,l=[rdl n r v,.fn (.func 208) [] [.ro [.lst 1 m (λk=>[i (g k)])]]]],bl (seN n r (g 0)))
theorem Qr2:VP VO 207 (MC n r v m g):=by
 refine ⟨(UJ Tryz.func207),?_⟩;intro avs ns res h hn;cases h;have e:=hn _ (HL _ (HL _ GD));subst e;exact Wq8 n r v m g (hn _ GD) (hn _ (HL _ GD))
end
section
variable (s:HS)(x0 A:Int)(m:Nat)(g:Cg)
noncomputable abbrev Xa2:DZ:=A1 Tryz.prog [(36,RN),(207,(MC (s.qm (laB s)) (s.qr (laB s)) (s.qv (laB s)) m g)),(210,(Qj4 (s.qm (laB s)) (s.qr (laB s)) (s.qv (laB s)))),(19,(wI s.nb s.ql s.qh (seM s) (seR s x0) (seV s A)))] {R:=[],H:=[(209,fO),(46,fM)],C:=[(46,(cR xW))] } [(145,RC)] [] Tryz.f178 (U7 Tryz.f178)
theorem Wo4:D7 VO 178 (Xa2 s x0 A m g):=
 FR (G:=[(36,RN),(207,(MC (s.qm (laB s)) (s.qr (laB s)) (s.qv (laB s)) m g)),(210,(Qj4 (s.qm (laB s)) (s.qr (laB s)) (s.qv (laB s)))),(19,(wI s.nb s.ql s.qh (seM s) (seR s x0) (seV s A)))]) (X:={R:=[],H:=[(209,fO),(46,fM)],C:=[(46,(cR xW))] }) (PX:=[(145,RC)]) (L:=[]) (Ae PV (Ae (Qr2 (s.qm (laB s)) (s.qr (laB s)) (s.qv (laB s)) m g) (Ae (Xj9 (s.qm (laB s)) (s.qr (laB s)) (s.qv (laB s))) (Ae (b6 s.nb s.ql s.qh (seM s) (seR s x0) (seV s A)) Aa)))) (Aj Ab (Ag l9 (Ag iQ Ac)) (Ah (Qf6 RE) (U8.nil _))) (UT.cons RR (UT.nil _)) VZ (UJ Tryz.func178) Tryz.func178 (UU Tryz.f178) (λj cj _ sp hsp=>by simp at hsp)
end
theorem V4{p:Prop}(h:p:=by
 refine ⟨rfl,Ap _,λk hk=>⟨?_,Zn8 (seS s (U0 (V 0)) (U0 (V 1))) k⟩⟩
 dsimp only
 by_cases h:k=laB s;rw [show decide (k=((s.nb:Int)-1).toNat)=true from decide_eq_true h];refine ⟨(P9 _).2,(P9 _).2,⟨rfl,(Jc7 h).symm,λj hj=>?_⟩,trivial⟩;show _=[i (seR s (U0 (V 0)) k j),i (seV s (U0 (V 1)) k j)];rw [Jc5 h,Jc3 h];rfl;rw [show decide (k=((s.nb:Int)-1).toNat)=false from decide_eq_false h];refine ⟨(P9 _).2,(P9 _).2,⟨rfl,(Jc8 h).symm,λj hj=>?_⟩,trivial⟩;show _=[i (seR s (U0 (V 0)) k j),i (seV s (U0 (V 1)) k j)];rw [Jc6 h,Jc4 h];rfl):p:=h
theorem Zm8(V:Cf)(n:Nat)(str:ByteArray)(s:HS)(VR:vO str n (U5 (UO 4) V))(UE:bV s.nb s.ql s.qh s.qm s.qr s.qv):wJ VO 106 [.ptr 0 0,.x (.string str)] (XA s) 901 [[.ptr 0 0,.row 1,.row 2]] 211 (OS (seS s (U0 (V 0)) (U0 (V 1)))) (OX s) (rsE (fmE (U5 (UO 4) V) n 2 (seE s (U0 (V 0)) (U0 (V 1))))):=by
 refine LJ (PX:=[(145,RC),(146,jD),(178,(Xa2 s (U0 (V 0)) (U0 (V 1)) (n-1) (λk=>U0 (U5 (UO 4) V (k+1)))))]) (L:=[yY (U5 (UO 4) V) n 2 178 s]) (Ae (LD VR) (Ae wH Aa)) Ad (UT.cons RR (UT.cons wO (UT.cons (Wo4 s (U0 (V 0)) (U0 (V 1)) (n-1) (λk=>U0 (U5 (UO 4) V (k+1)))) (UT.nil _)))) VZ (UJ Tryz.func106) Tryz.func106 (UU Tryz.f106) (LG (lpE (b:= .loop NA) VU<|gE (U5 (UO 4) V) n 2 178 s VR.2.2.2 (B7 VR))) (N:=[(.cell 0 3,0,0,0)]) (t:=let z5:=(U0 (U5 (UO 4) V (1+(0:Int).toNat)));let z6:=(U0 (U5 (UO 4) V (1+(1:Int).toNat)));let z0:=([hR s.nr s,iI s.pl,iI s.ph,lst 3 (0+s.nb) λk=>iI (if decide (k=((↑s.nb:Int)-1).toNat)=true then s.ql (k-0) else s.ql (k-0))::iI (if decide (k=((↑s.nb:Int)-1).toNat)=true then s.qh (k-0) else s.qh (k-0))::Bool.rec (bts (s.qm (k-0)) (s.qr (k-0)) (s.qv (k-0))) (lst 2 (s.qm (laB s)+1) λk=>[i (H4 (s.qm (laB s)) (s.qr (laB s)) z5 k),i (H4 (s.qm (laB s)) (s.qv (laB s)) z6 k)]) (decide (k=((↑s.nb:Int)-1).toNat))::Bool.rec ([]) ([]) (decide (k=((↑s.nb:Int)-1).toNat)),hC s.nc s,hT s.ns s]);let z1:=(seS s (U0 (V 0)) (U0 (V 1)));let z2:=(U5 (UO 4) V (0:Int).toNat);let z3:=((↑s.nb:Int)-1).toNat;let z4:=(need [[Q5]=[Q5],HC (hL s) QT,QA s,QB s] (leaf (false,(4:Int))));(need [MZ str str {data:=#[32] }] (need [UI 0 n] (branch (wdO z2) (need [VL (wdM (wdK z2)+1)] (branch (!(n:Int)==wdM (wdK z2)+1) z4 (need [(0:Int)<=1/\(1:Int)<=(n:Int)/\(n:Int)<=(n:Int)] (need [QO,VY (lst 1 n λk=>[HB (U5 (UO 4) V k)]),ZX,W8,(lst 1 (n-(1:Int).toNat) λi=>[AV.x (.string (U5 (UO 4) V ((1:Int).toNat+i)))])=lst 1 (n-1) λj=>[HB (U5 (UO 4) V (1+j))],(↑(n-(1:Int).toNat):Int)=(↑(n-1):Int),(0:Int)=((0:Nat):Int),0=0,∀(i:Nat),i<0->[]=[iI (U0 (U5 (UO 4) V (1+i)))],wdM (wdK z2)=2,VY (AV.fn (Fn.func 178) [] []),XL s,JU s,JV s,Z0 s,XR s,XS s,KR s,∀(i:Nat),i<s.xn->s.xg i=s.xg i,KS s,∀(i:Nat),i<s.yn->s.yg i=s.yg i,QO,K1,K2] (branch (nuB (U5 (UO 4) V) n) (need [VL ((↑s.nb:Int)-1)] (branch (!decide ((↑s.nb:Int)-1>=(0:Int))) (need [[Q5]=[Q5],HC (hL s) QT,QA s,QB s] (leaf (false,(8:Int)))) (need [UI 0 (↑(n-1):Int)] (need [(0:Int).toNat<n-1] (need [VL (((3:Nat):Int)-1)] (branch (!bt (0:Int) (U0 (U5 (UO 4) V 1)) (((3:Nat):Int)-1)) (need [[Q5]=[Q5],HC (hL s) QT,QA s,QB s] (leaf (false,(7:Int)))) (need [UI ((↑s.nb:Int)-1) s.nb] (need [s.qm (laB s)<=100000,1<=n-1,[lst 2 (s.qm z3) λj=>[iI (s.qr z3 j),iI (s.qv z3 j)],AV.fn (Fn.func 208) [] [AV.ro [lst 1 (n-1) λj=>[iI (U0 (U5 (UO 4) V (1+j)))]]]]=[lst 2 (s.qm (laB s)) λk=>[iI (s.qr (laB s) k),iI (s.qv (laB s) k)],AV.fn (Fn.func 208) [] [AV.ro [lst 1 (n-1) λk=>[iI (U0 (U5 (UO 4) V (k+1)))]]]]] (branch (!seN (s.qm (laB s)) (s.qr (laB s)) (U0 (U5 (UO 4) V 1))) (need [[Q5]=[Q5],HC (hL s) QT,QA s,QB s] (leaf (false,(6:Int)))) (need [UI 1 (↑(n-1):Int)] (need [(1:Int).toNat<n-1] (branch (!bt (-1000:Int) (U0 (U5 (UO 4) V 2)) (2000:Int)) (need [[Q5]=[Q5],HC (hL s) QT,QA s,QB s] (leaf (false,(2:Int)))) (VM.may (s.nb=0) VM.fail (need [(0+s.nb)*40<=140737488355328,∀(i:Nat),i<s.nb-> ∀(a:AV),a∈[iI (s.ql i),iI (s.qh i),bts (s.qm i) (s.qr i) (s.qv i)]->AV.one a=true] (need [UI ((↑s.nb:Int)-1) (↑(0+s.nb):Int)] (need [((↑s.nb:Int)-1).toNat<0+s.nb] (need [UI 0 (↑(n-1):Int)] (need [(0:Int).toNat<n-1] (need [UI 1 (↑(n-1):Int)] (need [(1:Int).toNat<n-1] (need [(lst 2 (s.qm (((↑s.nb:Int)-1).toNat-0)) λj=>[iI (s.qr (((↑s.nb:Int)-1).toNat-0) j),iI (s.qv (((↑s.nb:Int)-1).toNat-0) j)])=lst 2 (s.qm (laB s)) λk=>[iI (s.qr (laB s) k),iI (s.qv (laB s) k)],s.qm (laB s)<=100000] (need [UI ((↑s.nb:Int)-1) (↑(0+s.nb):Int)] (need [((↑s.nb:Int)-1).toNat<0+s.nb] (need [bV s.nb (s.ql) (s.qh) (seM s) (seR s (U0 (V 0))) (seV s (U0 (V 1))),HC [Y2,iI 1,lst 3 (0+s.nb) λk=>iI (if decide (k=((↑s.nb:Int)-1).toNat)=true then s.ql (k-0) else s.ql (k-0))::iI (if decide (k=((↑s.nb:Int)-1).toNat)=true then s.qh (k-0) else s.qh (k-0))::Bool.rec (bts (s.qm (k-0)) (s.qr (k-0)) (s.qv (k-0))) (lst 2 (s.qm (laB s)+1) λk=>[i (H4 (s.qm (laB s)) (s.qr (laB s)) z5 k),i (H4 (s.qm (laB s)) (s.qv (laB s)) z6 k)]) (decide (k=((↑s.nb:Int)-1).toNat))::Bool.rec ([]) ([]) (decide (k=((↑s.nb:Int)-1).toNat))] [lst 2 3 λk=>[iI (oL k),iI (oH k)],iI 1,lst 3 s.nb λk=>[iI (s.ql k),iI (s.qh k),lst 2 (seM s k) λj=>[iI (seR s (U0 (V 0)) k j),iI (seV s (U0 (V 1)) k j)]]]] (branch (!boE s.nb (s.ql) (s.qh) (seM s) (seR s (U0 (V 0))) (seV s (U0 (V 1)))==0) (need [[Q5]=[Q5],HC z0 QT,QA s,QB s] (leaf (false,(9:Int)))) (need [[Q5]=[Q5],HC z0 (hL z1),((23:TypeId),1,s.xn,s.xg)=((23:TypeId),1,z1.xn,z1.xg),((9:TypeId),1,s.yn,s.yg)=((9:TypeId),1,z1.yn,z1.yg)] (leaf (true,(0:Int))))))))))))))))))))))))))))) (need [[Q5]=[Q5],HC QT QT,QA s,QB s] (leaf (false,(4:Int))))))))) z4)))) VU ?_
 have hw:wdO (U5 (UO 4) V (Int.toNat 0))=true:=VU;have hm:wdM (wdK (U5 (UO 4) V (Int.toNat 0)))=2:=VU;have hn1:1<=n:=by have:=VR.2.1;omega
 have hnl:=B7 VR;simp only [VM.sat,UB,UH,hm,hw,true_imp_iff];refine ⟨⟨rfl,rfl⟩,⟨VJ,VJ⟩,⟨by simp only [VL];omega,λh4=>?_,λh4=>?_⟩,λh=>by cases h⟩
 exact V8
 ·have hN:n=2+1:=by
   simp at h4;omega
  refine ⟨⟨VJ,VJ,VJ⟩,?_,λh5=>?_,λh5=>?_⟩
  rotate_left 2
  exact V9
  ·all_goals exact yM
  have hk1:n-1=2:=VJ;have hx0:U0 (U5 (UO 4) V 1)=U0 (V 0):=rfl;have hx1:U0 (U5 (UO 4) V 2)=U0 (V 1):=rfl;have hq:s.nb<=6:=UE.1.1;rw [hk1];refine ⟨by simp only [VL];omega,λh6=>⟨DN _ _ _ _ _ _,FA hN h5 (Jd0 h6) (by decide)⟩,λh6=>?_⟩
  have h6:1<=s.nb:=by simp at h6;omega
  have hla:laB s<s.nb:=by unfold laB;omega
  have hm10:=(UE.1.2 _ hla).1;refine ⟨VJ,by decide,by simp only [VL];omega,λh7=>⟨DN _ _ _ _ _ _,FA hN h5 (Jd1 h6 (bnt h7)) (by decide)⟩,λh7=>?_⟩
  have h7:bt 0 (U0 (V 0)) 2=true:=bnf h7;refine ⟨VJ,⟨VJ,VJ,by simp only [Bh 1];rfl⟩,λh8=>⟨DN _ _ _ _ _ _,FA hN h5 (Jd2 h6 h7 (bnt h8)) (by decide)⟩,λh8=>?_⟩
  have h8:seN (s.qm (laB s)) (s.qr (laB s)) (U0 (V 0))=true:=bnf h8;refine ⟨VJ,by decide,λh9=>⟨DN _ _ _ _ _ _,FA hN h5 (Jd3 h6 h7 h8 (bnt h9)) (by decide)⟩,λh9=>?_⟩
  have h9:bt (-1000) (U0 (V 1)) 2000=true:=bnf h9;refine ⟨λh=>VJ,⟨VJ,λk hk a ha=>?_⟩,VJ,VJ,VJ,by decide,VJ,by decide,⟨rfl,VJ⟩,VJ,VJ,⟨Jd5 UE h6 h7 h8 h9,?_⟩,λh=>⟨DN _ _ _ _ _ _,FA hN h5 (Jc9 h6 h7 h8 h9 h) (by decide)⟩,λh=>⟨⟨⟨B8 s,zJ _,zJ _,?_,B9 s,PB s,trivial⟩,rfl,rfl⟩,uP hN h5 (Jd4 h6 h7 h8 h9 h)⟩⟩
  simp only [GM,DL,or_false] at ha;rcases ha with rfl|rfl|rfl<;>simp [AV.one,Value.oneCell'];refine ⟨⟨rfl,rfl,λk hk=>⟨?_,?_⟩⟩,zJ _,?_,trivial⟩;rcases (show k=0\/k=1\/k=2 by omega) with rfl|rfl|rfl<;>exact ⟨(P9 _).2,(P9 _).2,trivial⟩
  intro x hx;simp only [GM,DL,or_false] at hx;rcases hx with rfl|rfl<;>exact .x _;exact V4;exact V4
open Go Go.Shelf
def iA:Go.Shelf.Ren:=⟨λ| 4=>234|n=>n,λ| 22=>36| 25=>145|n=>n,λn=>n⟩
theorem Qc6:Go.Proofs.Lays8.n4 Tryz.prog iA:=by
 constructor
 case f4=>exact ⟨Tryz.f234.name,(of_decide_eq_true (by kernel_rfl)),Tryz.func234.trans (congrArg some (by kernel_rfl))⟩
 all_goals first|(intro _;kernel_rfl)|kernel_rfl
theorem Zn5: ∃i0 z,Tryz.prog.info? 145=some i0/\i0.zero=some z/\i0.size=4/\i0.bytes=32/\z.cells.size=4:=by
 have h:((Tryz.prog.info? 145).bind λi=>i.zero.map λz=>(i.size,i.bytes,z.cells.size))=some (4,32,4):=VU;cases O:Tryz.prog.info? 145 with
 |none=>rw [O] at h;cases h
 |some i0=>
  rw [O] at h;cases hz:i0.zero with
  |none=>
   have h:(i0.zero.map λz=>(i0.size,i0.bytes,z.cells.size))=some (4,32,4):=h;rw [hz] at h;cases h
  |some z=>
   have h:(i0.zero.map λz=>(i0.size,i0.bytes,z.cells.size))=some (4,32,4):=h;rw [hz] at h;simp only [Bt,HE,FF] at h;exact ⟨i0,z,rfl,hz,h.1,h.2.1,h.2.2⟩
theorem pV(k:Nat)(hk:k<=100000)(w:World):Calls Tryz.prog 234 #[.slice none 0 0,.int .i64 k] w λen w'=> ∃v,en= .returned v/\Below w.heap.size w w'/\w'.ownsRow 0 145 4 v 0 []/\ ∀b,v.ownBlock=some b->w.heap.size<=b/\b<w'.heap.size:=by
 rcases Nat.eq_zero_or_pos k with rfl|h0;refine Calls.mono (Any8.slices_Grow_room Qc6 none 0 0 0 w VJ VJ VJ VJ) ?_;rintro en w' ⟨rfl,rfl⟩;exact ⟨_,rfl,Below.refl _ _,⟨rfl,.inl ⟨rfl,rfl⟩⟩,λb h=>by cases h⟩
 obtain ⟨i0,z,e0,e1,e2,e3,e4⟩:=Zn5;refine Calls.mono (Any8.slices_Grow_grow Qc6 i0 z e0 e1 VJ none 0 0 k [] w VJ VJ (by rw [e3];omega) VJ VT (λ_=>rfl) (λa h=>by cases h)) ?_
 rintro en w' ⟨rfl,rfl⟩;have g1:k<=grownCap w (0+k) 0 145:=by have:=grownCap_ge w (0+k) 0 145;omega
 refine ⟨_,rfl,((Below.refl _ _).drew).alloc (Am _) _,⟨rfl,.inr ⟨w.heap.size,grownCap w (0+k) 0 145,#[]++Builtin.zeroCells z.cells (0+k-0)++Builtin.zeroCells z.cells (grownCap w (0+k) 0 145-(0+k)),rfl,Ao _,?_,Ao _,grownCap_le_maxLen w (0+k) 0 145 (by unfold maxLen;omega),?_,VT⟩⟩,?_⟩
 show (w.drew.heap.push _)[w.heap.size]? =_;exact Array.getElem?_push_size ..;rw [Ap] at g1 ⊢;simp [Builtin.zeroCells,e4];omega;intro b h;cases h;exact ⟨Am _,by show w.heap.size<(w.drew.heap.push _).size;rw [Array.size_push];exact Bk _⟩
def bK:BM:=λl=>match l with
 |[.x (.slice none 0 0),.x (.int .i64 k)]=>some ([0<=k/\k<=100000],145,4,0,λ_=>[])
 |_=>none
theorem Wr4:Sx.Enters Tryz.prog 234/\ ∀avs ns T sz n g,bK avs=some (ns,T,sz,n,g)->(∀q∈ns,q)->DO VO 234 avs T sz n g:=by
 refine ⟨(UJ Tryz.func234),?_⟩;intro avs ns T sz n g h Z;unfold bK at h;split at h;rename_i k;cases h;obtain ⟨h1,h2⟩:0<=k/\k<=100000:=Z _ GD;intro e w args q1 q2 q3 q4;obtain ⟨u,us,rfl,r1,q5⟩:=q4.cons_inv;obtain ⟨u',us',rfl,r2,q6⟩:=q5.cons_inv;obtain rfl:=q6.nil_inv;cases r1;cases r2;obtain ⟨k',rfl⟩:=Int.eq_ofNat_of_zero_le h1;refine (pV k' VJ w).mono ?_;rintro en w' ⟨v,rfl,g1,g2,g3⟩;exact ⟨v,[],rfl,g1,g2,g3,λi O=>VJ,λi j a u O=>VJ⟩;cases h
theorem Wr3:GB VO 234 (Wr0 bK):=C3 Wr4
theorem yZ{S:Code->UG->Prop}{c:Code}{s0 s1:UG}(h0: ∀cj,VS c 0=some cj->S cj s0)(h1: ∀cj,VS c 1=some cj->S cj s1):
  ∀j cj,VS c j=some cj-> ∀sp,[s0,s1][j]? =some sp->S cj sp:=by
 intro j cj hj sp hsp
 match j with
 | 0=>simp at hsp;subst hsp;exact h0 cj hj
 | 1=>simp at hsp;subst hsp;exact h1 cj hj
 |j+2=>simp at hsp
def ctI(p:Nat)(a b:Cg)(k:Nat):Int:=if k<p then a k else b (k-p)
def AL:UX
 |[.lst 1 n F]=>match F 0,F 1 with
  |[.lst 4 p f],[.lst 4 q g]=>some ([n=2,UF 4 p f,UF 4 q g,p<=10000,q<=10000],.lst 4 (p+q) (λk=>[i (ctI p (col 0 f) (col 0 g) k),i (ctI p (col 1 f) (col 1 g) k),i (ctI p (col 2 f) (col 2 g) k),i (ctI p (col 3 f) (col 3 g) k)]))
  |_,_=>none
 |_=>none
theorem Wr2(p:Nat)(a b u v:Cg)(q:Nat)(a1 b1 u1 v1:Cg)(VR:p<=10000)(UE:q<=10000):VX VO 205 [.lst 1 2 (U4 1 [rds p a b u v,rds q a1 b1 u1 v1])] (.lst 4 (p+q) (λk=>[i (ctI p a a1 k),i (ctI p b b1 k),i (ctI p u u1 k),i (ctI p v v1 k)])):=by
 refine GA (X:={R:=[],H:=[(234,(Wr0 bK))] }) (L:=[(λs=>some (xZ Tryz.prog [] [] (U9 (VS (U7 Tryz.f205) 0)) 3 s)),(λs=>some (xZ Tryz.prog [] [] (U9 (VS (U7 Tryz.f205) 1)) 3 s))]) Aa (Ai Ab (Ag Wr3 Ac)) VZ Tryz.func205 (UU Tryz.f205) (yZ (lpE (b:= .loop (U9 (VS (U7 Tryz.f205) 0))) VU<|(LC Aa VZ U2 _).N) (lpE (b:= .loop (U9 (VS (U7 Tryz.f205) 1))) VU<|(LC Aa VZ U2 _).N)) (t:=let z1:=(need [(0:Int)<=0+1+1/\(0:Int)+1+1<((2:Nat):Int)] VM.fail);let z2:=(GI 0 (λx=>[]) (rq4 a b u v));let z0:=(branch (decide ((0:Int)<((2:Nat):Int))) (need [UI 0 2] (need [(0+p)*32<=140737488355328,∀(i:Nat),i<p-> ∀(a_2:AV),a_2∈[Bo.i (a i),Bo.i (b i),Bo.i (u i),Bo.i (v i)]->AV.one a_2=true] (need [VL ((0:Int)+1)] (branch (decide ((0:Int)+1<((2:Nat):Int))) (need [(0:Int)<=0+1/\(0:Int)+1<((2:Nat):Int)] (need [(0+p+q)*32<=140737488355328,∀(i:Nat),i<q-> ∀(a:AV),a∈[Bo.i (a1 i),Bo.i (b1 i),Bo.i (u1 i),Bo.i (v1 i)]->AV.one a=true] (need [VL ((0:Int)+1+1)] (branch (decide ((0:Int)+1+1<((2:Nat):Int))) z1 (leaf (RV.lst 4 (0+p+q) (GI (0+p) z2 (rq4 a1 b1 u1 v1)))))))) (leaf (RV.lst 4 (0+p) z2)))))) (leaf (RV.lst 4 0 λx=>[])));(branch (decide ((0:Int)<((2:Nat):Int))) (need [UI 0 2] (need [VL ((0:Int)+(p:Int))] (branch (decide ((0:Int)+(p:Int)<0)) VM.fail (need [VL ((0:Int)+1)] (branch (decide ((0:Int)+1<((2:Nat):Int))) (need [(0:Int)<=0+1/\(0:Int)+1<((2:Nat):Int)] (need [VL ((0:Int)+(p:Int)+(q:Int))] (branch (decide ((0:Int)+(p:Int)+(q:Int)<0)) VM.fail (need [VL ((0:Int)+1+1)] (branch (decide ((0:Int)+1+1<((2:Nat):Int))) z1 (need [(0:Int)<=0+(p:Int)+(q:Int)/\(0:Int)+(p:Int)+(q:Int)<=100000] z0)))))) (need [(0:Int)<=0+(p:Int)/\(0:Int)+(p:Int)<=100000] z0)))))) (need [(0:Int)<=0/\(0:Int)<=100000] z0))) VU ?_
 have hX: ∀(k:Nat),k<p+q->GI (0+p) (GI 0 (λ_=>[]) λk=>[i (a k),i (b k),i (u k),i (v k)]) (λk=>[i (a1 k),i (b1 k),i (u1 k),i (v1 k)]) k=[i (ctI p a a1 k),i (ctI p b b1 k),i (ctI p u u1 k),i (ctI p v v1 k)]/\ ∀x∈[i (ctI p a a1 k),i (ctI p b b1 k),i (ctI p u u1 k),i (ctI p v v1 k)],isX x:=by
  intro k hk;refine ⟨?_,λx hx=>?_⟩;show H6 (decide (k<0+p)) (GI 0 (λ_=>[]) (λk=>[i (a k),i (b k),i (u k),i (v k)]) k) [i (a1 (k-(0+p))),i (b1 (k-(0+p))),i (u1 (k-(0+p))),i (v1 (k-(0+p)))]=_
  rw [lV,Ap];unfold ctI;by_cases h:k<p;rw [decide_eq_true h];simp only [if_pos h];rfl;rw [decide_eq_false h];simp only [if_neg h];rfl;simp only [GM,DL,or_false] at hx;rcases hx with rfl|rfl|rfl|rfl<;>exact Ak
 have hA: ∀(a b u v:Cg) (n k:Nat),k<n-> ∀(x:AV),x∈[i (a k),i (b k),i (u k),i (v k)]->x.one=true:=by
  intro a b u v n k hk x hx;simp only [GM,DL,or_false] at hx;rcases hx with rfl|rfl|rfl|rfl<;>simp [AV.one,Value.oneCell']
 simp only [VM.sat,UB,G0,GL,UD,true_and,HA,VL]
 (repeat' first|exact hA _ _ _ _ _|exact hX|with_reducible apply Al|with_reducible intro _)
 all_goals omega
theorem Wr1:VP VO 205 AL:=by
 refine ⟨(UJ Tryz.func205),?_⟩;intro avs ns res h Z;unfold AL at h;split at h;rename_i n F;split at h;rename_i p f q g h0 h1;cases h;obtain rfl:n=2:=Z _ VT;have r0:UF 4 p f:=Z (UF 4 p f) VT;have r1:UF 4 q g:=Z (UF 4 q g) VT;have hp:p<=10000:=Z (p<=10000) VT;have hq:q<=10000:=Z (q<=10000) VT;refine (Wr2 p (col 0 f) (col 1 f) (col 2 f) (col 3 f) q (col 0 g) (col 1 g) (col 2 g) (col 3 g) hp hq).same (.cons (.deep 1 2 F _ (λk hk=>?_) (λk j a b hk A hb=>?_)) .nil);rcases (show k=0\/k=1 by omega) with rfl|rfl
 rw [h0];rfl;rw [h1];rfl;rcases (show k=0\/k=1 by omega) with rfl|rfl
 rw [h0] at A;have hb:[rds p (col 0 f) (col 1 f) (col 2 f) (col 3 f)][j]? =some b:=hb;cases j with
 |zero=>
  cases A;cases hb;exact .lst 4 p f _ r0
 |succ j=>simp at A
 rw [h1] at A;have hb:[rds q (col 0 g) (col 1 g) (col 2 g) (col 3 g)][j]? =some b:=hb;cases j with
 |zero=>
  cases A;cases hb;exact .lst 4 q g _ r1
 |succ j=>simp at A
 cases h;cases h
def skF(x0:Int)(a:Cg)(k:Nat):Int:=if k<x0.toNat then a k else a (k+1)
def stS(s:HS)(x0:Int):HS:={s with nr:=s.nr-1,ra:=skF x0 s.ra,rb:=skF x0 s.rb,ru:=skF x0 s.ru,rv:=skF x0 s.rv}
def stE(s:HS)(x0:Int):Int:=if bt 0 x0 ((s.nr:Int)-1)=true then 0 else 7
theorem SW{x:Int}(h:0<=x)(a:Cg)(k:Nat):ctI (x.toNat-Int.toNat 0) (λi=>a (Int.toNat 0+i)) (λi=>a ((x+1).toNat+i)) k=skF x a k:=by
 unfold ctI skF;by_cases h':k<x.toNat;rw [if_pos (show k<x.toNat-Int.toNat 0 by simpa using h'),if_pos h']
 exact congrArg a VT;rw [if_neg (show ¬k<x.toNat-Int.toNat 0 by simpa using h'),if_neg h']
 exact congrArg a (by simp;omega)
noncomputable abbrev SH(s:HS):DZ:=A1 Tryz.prog [(205,AL),(36,RN)] {} [(145,RC)] [] Tryz.f175 (U7 Tryz.f175)
theorem iO(s:HS):D7 VO 175 (SH s):=
 FR (G:=[(205,AL),(36,RN)]) (X:=WA) (PX:=[(145,RC)]) (L:=[]) (Ae Wr1 (Ae PV Aa)) Ad (UT.cons RR (UT.nil _)) VZ (UJ Tryz.func175) Tryz.func175 (UU Tryz.f175) (λj cj _ sp hsp=>by simp at hsp)
theorem Qo8(V:Cf)(n:Nat)(str:ByteArray)(s:HS)(VR:vO str n (U5 (UO 1) V))(UE:s.nr<=12):wJ VO 106 [.ptr 0 0,.x (.string str)] (XA s) 901 [[.ptr 0 0,.row 1,.row 2]] 211 (OS (stS s (U0 (V 0)))) (OX s) (rsE (fmE (U5 (UO 1) V) n 1 (stE s (U0 (V 0))))):=by
 refine LJ (PX:=[(145,RC),(146,jD),(175,(SH s))]) (L:=[yY (U5 (UO 1) V) n 1 175 s]) (Ae (LD VR) (Ae wH Aa)) Ad (UT.cons RR (UT.cons wO (UT.cons (iO s) (UT.nil _)))) VZ (UJ Tryz.func106) Tryz.func106 (UU Tryz.f106) (LG (lpE (b:= .loop NA) VU<|gE (U5 (UO 1) V) n 1 175 s VR.2.2.2 (B7 VR))) (N:=[]) (t:=let z0:=(U0 (U5 (UO 1) V 1));let z1:=(U5 (UO 1) V (0:Int).toNat);let z2:=(need [[Q5]=[Q5],HC (hL s) QT,QA s,QB s] (leaf (false,(4:Int))));(need [MZ str str {data:=#[32] }] (need [UI 0 n] (branch (wdO z1) (need [VL (wdM (wdK z1)+1)] (branch (!(n:Int)==wdM (wdK z1)+1) z2 (need [(0:Int)<=1/\(1:Int)<=(n:Int)/\(n:Int)<=(n:Int)] (need [QO,VY (lst 1 n λk=>[HB (U5 (UO 1) V k)]),ZX,W8,(lst 1 (n-(1:Int).toNat) λi=>[AV.x (.string (U5 (UO 1) V ((1:Int).toNat+i)))])=lst 1 (n-1) λj=>[HB (U5 (UO 1) V (1+j))],(↑(n-(1:Int).toNat):Int)=(↑(n-1):Int),(0:Int)=((0:Nat):Int),0=0,∀(i:Nat),i<0->[]=[iI (U0 (U5 (UO 1) V (1+i)))],wdM (wdK z1)=1,VY (AV.fn (Fn.func 175) [] []),XL s,JU s,JV s,Z0 s,XR s,XS s,KR s,∀(i:Nat),i<s.xn->s.xg i=s.xg i,KS s,∀(i:Nat),i<s.yn->s.yg i=s.yg i,QO,K1,K2] (branch (nuB (U5 (UO 1) V) n) (need [UI 0 (↑(n-1):Int)] (need [(0:Int).toNat<n-1] (need [VL ((↑s.nr:Int)-1)] (branch (!bt (0:Int) z0 ((↑s.nr:Int)-1)) (need [[Q5]=[Q5],HC (hL s) QT,QA s,QB s] (leaf (false,(7:Int)))) (need [UI 0 (↑(n-1):Int)] (need [(0:Int).toNat<n-1] (need [(0:Int)<=0/\(0:Int)<=U0 (U5 (UO 1) V 1)/\U0 (U5 (UO 1) V 1)<=(↑s.nr:Int)] (need [UI 0 (↑(n-1):Int)] (need [(0:Int).toNat<n-1] (need [VL (U0 (U5 (UO 1) V 1)+1)] (need [(0:Int)<=U0 (U5 (UO 1) V 1)+1/\U0 (U5 (UO 1) V 1)+1<=(↑s.nr:Int)/\(↑s.nr:Int)<=(↑s.nr:Int)] (need [2=2,UF 4 (Int.toNat z0-(0:Int).toNat) λi=>[Bo.i (s.ra ((0:Int).toNat+i)),Bo.i (s.rb ((0:Int).toNat+i)),Bo.i (s.ru ((0:Int).toNat+i)),Bo.i (s.rv ((0:Int).toNat+i))],UF 4 (s.nr-(U0 (U5 (UO 1) V 1)+1).toNat) λi=>[Bo.i (s.ra ((U0 (U5 (UO 1) V 1)+1).toNat+i)),Bo.i (s.rb ((U0 (U5 (UO 1) V 1)+1).toNat+i)),Bo.i (s.ru ((U0 (U5 (UO 1) V 1)+1).toNat+i)),Bo.i (s.rv ((U0 (U5 (UO 1) V 1)+1).toNat+i))],Int.toNat z0-(0:Int).toNat<=10000,s.nr-(U0 (U5 (UO 1) V 1)+1).toNat<=10000] (need [[Q5]=[Q5],HC [lst 4 (Int.toNat z0-(0:Int).toNat+(s.nr-(U0 (U5 (UO 1) V 1)+1).toNat)) λk=>[iI (ctI (Int.toNat z0-(0:Int).toNat) (λi=>s.ra ((0:Int).toNat+i)) (λi=>s.ra ((U0 (U5 (UO 1) V 1)+1).toNat+i)) k),iI (ctI (Int.toNat z0-(0:Int).toNat) (λi=>s.rb ((0:Int).toNat+i)) (λi=>s.rb ((U0 (U5 (UO 1) V 1)+1).toNat+i)) k),iI (ctI (Int.toNat z0-(0:Int).toNat) (λi=>s.ru ((0:Int).toNat+i)) (λi=>s.ru ((U0 (U5 (UO 1) V 1)+1).toNat+i)) k),iI (ctI (Int.toNat z0-(0:Int).toNat) (λi=>s.rv ((0:Int).toNat+i)) (λi=>s.rv ((U0 (U5 (UO 1) V 1)+1).toNat+i)) k)],iI s.pl,iI s.ph,hY s.nb s,hC s.nc s,hT s.ns s] (hL (stS s (U0 (V 0)))),((23:TypeId),1,s.xn,s.xg)=((23:TypeId),1,(stS s (U0 (V 0))).xn,(stS s (U0 (V 0))).xg),((9:TypeId),1,s.yn,s.yg)=((9:TypeId),1,(stS s (U0 (V 0))).yn,(stS s (U0 (V 0))).yg)] (leaf (true,(0:Int)))))))))))))))) (need [[Q5]=[Q5],HC QT QT,QA s,QB s] (leaf (false,(4:Int))))))))) z2)))) VU ?_
 have hw:wdO (U5 (UO 1) V (Int.toNat 0))=true:=VU;have hm:wdM (wdK (U5 (UO 1) V (Int.toNat 0)))=1:=VU;have hn1:1<=n:=by have:=VR.2.1;omega
 have hnl:=B7 VR;simp only [VM.sat,UB,UH,hm,hw,true_imp_iff];refine ⟨⟨rfl,rfl⟩,⟨VJ,VJ⟩,⟨by simp only [VL];omega,λh4=>?_,λh4=>?_⟩,λh=>by cases h⟩
 exact V8
 ·have hN:n=1+1:=by
   simp at h4;omega
  refine ⟨⟨VJ,VJ,VJ⟩,?_,λh5=>?_,λh5=>?_⟩
  rotate_left 2
  exact V9
  ·all_goals exact yM
  have hk1:n-1=1:=VJ;have hx0:U0 (U5 (UO 1) V 1)=U0 (V 0):=rfl;rw [hk1];simp only [hx0];refine ⟨VJ,by decide,by simp only [VL];omega,λh6=>⟨DN _ _ _ _ _ _,FA hN h5 ?_ (by decide)⟩,λh6=>?_⟩
  unfold stE;rw [bnt h6];rfl;have h7:=bnf h6;have h8:=(bt_iff _ _ _).1 h7;refine ⟨VJ,by decide,VJ,VJ,by decide,by simp only [VL];omega,VJ,⟨Bo.isRec4 _ _ _ _ _,Bo.isRec4 _ _ _ _ _,VJ,VJ⟩,⟨⟨⟨rfl,?_,λk hk=>⟨?_,?_⟩⟩,zJ _,zJ _,BA s,B9 s,PB s,trivial⟩,rfl,rfl⟩,uP hN h5 ?_⟩
  show _=s.nr-1;have e0:Int.toNat 0=0:=rfl;omega
  dsimp only
  rw [SW h8.1 s.ra k,SW h8.1 s.rb k,SW h8.1 s.ru k,SW h8.1 s.rv k];exact ⟨(P9 _).2,(P9 _).2,(P9 _).2,(P9 _).2,trivial⟩;intro x hx;simp only [GM,DL,or_false] at hx;rcases hx with rfl|rfl|rfl|rfl<;>exact .x _;unfold stE;rw [h7];rfl
def Qi9:UX
 |[]=>some ([],.mpr (λ_=>[.any1,.any1]) wdO)
 |_=>none
theorem Wx7:VX VO 144 [] (.mpr (λ_=>[.any1,.any1]) wdO):=by
 intro e w args hro hgl FP hr;obtain rfl:=hr.nil_inv;refine (M5 w).mono ?_;rintro en w' ⟨rfl,rfl⟩;have hsz:(w.alloc (.map wdE.toArray 8)).heap.size=w.heap.size+1:=VT;refine ⟨_,rfl,(Below.refl _ _).alloc (Am _) _,?_⟩;refine .mpr _ wdO wdV w.heap.size wdE.toArray 8 (show w.heap.size<=w.heap.size/\w.heap.size<(w.alloc (.map wdE.toArray 8)).heap.size by omega) VJ (λs a A=>?_) (World.alloc_heap_new w _) (λs hs=>by simpa using lL hs) (λs hs=>⟨by simpa using Qe3 hs,λa A=>?_⟩) (λs hs=>rfl) (λs k a v hs A I=>?_)
 simp only [GM,DL,or_false,or_self] at A;subst A;exact .any1;exact .inr (by simpa using A)
 match k,A,I with
 | 0,A,I=>
  simp only [wdV,List.getElem?_cons_zero,HE] at A I;subst A I;exact .any1 _ rfl
 | 1,A,I=>
  simp only [wdV,List.getElem?_cons_succ,List.getElem?_cons_zero,HE] at A I;subst A I;exact .any1 _ rfl
 |k+2,A,I=>simp at A
theorem Wx6:VP VO 144 Qi9:=by
 refine ⟨(UJ Tryz.func144),?_⟩;intro avs ns res h Z;unfold Qi9 at h;split at h;cases h;exact Wx7;cases h
theorem Jg5(W:Cf)(n:Nat)(str:ByteArray)(s:HS)(VR:vO str n W)(UE:wdO (W 0)=false):wJ VO 106 [.ptr 0 0,.x (.string str)] (XA s) 901 [[.ptr 0 0,.row 1,.row 2]] 211 (OS s) (OX s) (rsE 4):=by
 refine LJ (PX:=[(145,RC),(146,jD)]) (L:=[yY W n 0 0 s]) (Ae (LD VR) (Ae Wx6 Aa)) Ad (UT.cons RR (UT.cons wO (UT.nil _))) VZ (UJ Tryz.func106) Tryz.func106 (UU Tryz.f106) (LG (lpE (b:= .loop NA) VU<|gE W n 0 0 s VR.2.2.2 (B7 VR))) (N:=[]) (t:=need [MZ str str {data:=#[32] }] (need [UI 0 n] (branch (wdO (W (0:Int).toNat)) VM.fail (need [[Q5]=[Q5],HC (hL s) QT,QA s,QB s] (leaf (false,(4:Int))))))) VU ?_
 have hn1:1<=n:=by have:=VR.2.1;omega
 have h0:wdO (W (Int.toNat 0))=false:=UE;simp only [VM.sat,UB,UH,h0];exact ⟨⟨rfl,rfl⟩,⟨VJ,VJ⟩,(λh=>by cases h),λ_=>⟨DN _ _ _ _ _ _,rfl⟩⟩
abbrev lns(n:Nat)(L:Cf):AV:= .lst 1 n (λk=>[.x (.string (L k))])
def lgB(L:Cf)(mx:Int)(j:Nat):Bool:= !decide (((L j).size:Int)<=mx)
section
variable (n:Nat)(L:Cf)
def shB(mx:Int):Bool:=D3 (λj=>decide (((L j).size:Int)<=mx)) n
def ckE:Int:=if n<=50/\shB n L 200=true then 0 else 3
end
def mI:UX
 |[.x (.int .i64 mx),.x (.string s)]=>some ([],bl (decide ((s.size:Int)<=mx)))
 |_=>none
theorem Qq0(s:ByteArray)(mx:Int):VX VO 65 [i mx,.x (.string s)] (bl (decide ((s.size:Int)<=mx))):=by
 refine GW Tryz.func65 (t:=leaf (RV.x (.bool (decide ((ByteArray.size s:Int)<=mx))))) VU ?_;exact V1
theorem Qp9:VP VO 65 mI:=by
 refine ⟨(UJ Tryz.func65),?_⟩;intro avs ns res h Z;unfold mI at h;split at h;cases h;exact Qq0 _ _;cases h
def mK:UX
 |[.x (.string s),.ro [.fn (.func 65) [.x (.int .i64 mx)] []]]=>some ([],bl (!decide ((s.size:Int)<=mx)))
 |_=>none
theorem Qr5(s:ByteArray)(mx:Int):VX VO 110 [.x (.string s),.ro [.fn (.func 65) [i mx] []]] (bl (!decide ((s.size:Int)<=mx))):=by
 refine U1 (L:=[]) (Ae Qp9 Aa) VZ Tryz.func110 (UU Tryz.f110) U2 (t:=leaf (RV.x (.bool !decide ((ByteArray.size s:Int)<=mx)))) VU ?_;exact V1
theorem OK:VP VO 110 mK:=by
 refine ⟨(UJ Tryz.func110),?_⟩;intro avs ns res h Z;unfold mK at h;split at h;cases h;exact Qr5 _ _;cases h
abbrev Q6(n:Nat)(L:Cf):AV:=lst 1 n λk=>[HB (L k)]
abbrev WQ(mx:Int):AV:=AV.fn (Fn.func 110) [] [AV.ro [AV.fn (Fn.func 65) [iI mx] []]]
section
variable (n:Nat)(L:Cf)(mx:Int)
def dA:St:={σ:=[Q6 n L,WQ mx]++HI 5 [iI (n:Int)]++HI 11 [],m:=[],nx:=4}
noncomputable def Ql2:Code:=U9 (VS (U7 Tryz.f148) 0)
def OA(k:Nat):St:=(upM [(8,i k)] (dA n L mx))
def qA(k:Nat):G5->Option St
 | .ret=>some (upM [(4,i (GX ((lgB L mx)) n))] (dA n L mx))
 | .exit 0=>some (upM [] (dA n L mx))
 |_=>none
def Qg5:CT:= .branch (decide (GX ((lgB L mx)) n<n)) (.leaf (.ret,(qA n L mx 0 .ret).getD (dA n L mx))) (.leaf (.exit 0,(qA n L mx 0 (.exit 0)).getD (dA n L mx)))
def mW:UG:=(HF (OA n L mx (0)) (Qg5 n L mx))
theorem Qv8(VR:n<=100000):G6 VO (.loop Ql2) (mW n L mx):=by
 refine HH (L:=[]) (Ae OK Aa) VZ U2 (X:=Nat) (OA n L mx) (λk=>k<=n/\ ∀j,j<k->(lgB L mx) j=false) (λk=>n-k) (qA n L mx) (x0:=0) ⟨VJ,λj hj=>VJ⟩ ?_ ?_ ?_;rintro k;kernel_rfl;rintro k y E h;unfold qA at h;split at h;cases h;kernel_rfl;cases h;kernel_rfl;cases h
 ·rintro Q hQ k hx;refine ⟨(k+1),?_⟩;(with_reducible refine D9 (t:=branch (decide ((k:Int)<(n:Int))) (need [UI k n] (branch (!decide ((↑(ByteArray.size (L k)):Int)<=mx)) (need [VY (Q6 n L),WQ mx=WQ mx,(k:Int)=(↑(GX (lgB L mx) n):Int),VY (n:Int)] (leaf G5.ret)) (need [VL ((k:Int)+1)] (need [VY (Q6 n L),WQ mx=WQ mx,VY (n:Int),(k:Int)+1=(↑(k+1):Int)] (leaf G5.normal))))) (need [VY (Q6 n L),WQ mx=WQ mx,VY (n:Int)] (leaf (G5.exit 0)))) VU ?_);simp only [Qg5,qA,VM.sat,GS,HA] at hQ;simp only [VM.sat,UB,UH,HA,VL,qA,F4];have Xk8:k<n->((lgB L mx)) k=true->GX ((lgB L mx)) n=k:=λh hb=>zQ h hb hx.2;have PL: ¬k<n->GX ((lgB L mx)) n=n:=λh=>qB (λj hj=>hx.2 j VJ);have hgo:((lgB L mx)) k=false-> ∀j,j<k+1->((lgB L mx)) j=false:=by
   intro hb j hj;rcases (show j<k\/j=k by omega) with h1|rfl
   exact hx.2 j h1;exact hb
  refine ⟨λh=>⟨VJ,?_⟩,λh=>?_⟩
  rotate_left
  intro E hE;cases hE;exact hQ.2 (by rw [PL VJ];omega)
  have hk:k<n:=VJ;refine ⟨λhb=>?_,λhb=>?_⟩;exact VE;exact ⟨VJ,VJ,⟨VJ,hgo hb⟩,VJ⟩
theorem Xj8(VR:n<=100000):VX VO 148 [lns n L,.fn (.func 110) [] [.ro [.fn (.func 65) [i mx] []]]] (i (if GX ((lgB L mx)) n<n then (GX ((lgB L mx)) n:Int) else -1)):=by
 refine U1 (L:=[mW n L mx]) (Ae OK Aa) VZ Tryz.func148 (UU Tryz.f148) (G7 (lpE (b:= .loop Ql2) VU<|Qv8 n L mx VR)) (t:=need [VY (Q6 n L),WQ mx=WQ mx,VY (n:Int),(0:Int)=((0:Nat):Int)] (branch (decide (GX (lgB L mx) n<n)) (leaf (RV.x (.int .i64 (↑(GX (lgB L mx) n):Int)))) (leaf (RV.x (KL))))) VU ?_
 exact VC
def Zs9:UX:=λl=>some ([l=[lns n L,.fn (.func 110) [] [.ro [.fn (.func 65) [i mx] []]]]],i (if GX (lgB L mx) n<n then (GX (lgB L mx) n:Int) else -1))
theorem Wn9(VR:n<=100000):VP VO 148 (Zs9 n L mx):=by
 refine ⟨(UJ Tryz.func148),?_⟩;intro avs ns res h Z;cases h;have e:=Z _ GD;subst e;exact Xj8 n L mx VR
theorem Xl5(VR:n<=100000):VX VO 109 [lns n L,.fn (.func 110) [] [.ro [.fn (.func 65) [i mx] []]]] (bl (!shB n L mx)):=by
 refine U1 (L:=[]) (Ae (Wn9 n L mx VR) Aa) VZ Tryz.func109 (UU Tryz.f109) U2 (t:=need [VY ([Q6 n L,WQ mx])] (leaf (RV.x (.bool (decide ((if GX (lgB L mx) n<n then (↑(GX (lgB L mx) n):Int) else (-1:Int))>=(0:Int))))))) VU ?_
 simp only [VM.sat,UB,G0,UD,UH];unfold shB;rw [kM];have:=F6 (lgB L mx) n;have e:(λk=> !(λj=>decide (((L j).size:Int)<=mx)) k)=lgB L mx:=rfl;rw [e];show decide ((if GX (lgB L mx) n<n then (GX (lgB L mx) n:Int) else -1)>=0)=_
 split<;>simp<;>omega
def Zt1:UX:=λl=>some ([l=[lns n L,.fn (.func 110) [] [.ro [.fn (.func 65) [i mx] []]]]],bl (!shB n L mx))
theorem Wq6(VR:n<=100000):VP VO 109 (Zt1 n L mx):=by
 refine ⟨(UJ Tryz.func109),?_⟩;intro avs ns res h Z;cases h;have e:=Z _ GD;subst e;exact Xl5 n L mx VR
theorem Wq9(VR:n<=100000):VX VO 66 [lns n L,.fn (.func 65) [i mx] []] (bl (shB n L mx)):=by
 refine U1 (L:=[]) (Ae (Wq6 n L mx VR) Aa) VZ Tryz.func66 (UU Tryz.f66) U2 (t:=need [VY ([Q6 n L,WQ mx])] (leaf (RV.x (.bool !!shB n L mx)))) VU ?_;simp only [VM.sat,UB,G0,UD,UH];show (!!shB n L mx)=_;simp
def Xq1:UX:=λl=>some ([l=[lns n L,.fn (.func 65) [i mx] []]],bl (shB n L mx))
theorem Qr4(VR:n<=100000):VP VO 66 (Xq1 n L mx):=by
 refine ⟨(UJ Tryz.func66),?_⟩;intro avs ns res h Z;cases h;have e:=Z _ GD;subst e;exact Wq9 n L mx VR
end
section
variable (n:Nat)(L:Cf)
abbrev YM:List AV:=[Q6 n L,AV.fn (Fn.func 65) [iI 200] []]
theorem OH(VR:n<=100000):VX VO 35 [lns n L] (i (ckE n L)):=by
 refine U1 (L:=[]) (Ae (Qr4 n L 200 VR) Aa) VZ Tryz.func35 (UU Tryz.f35) U2 (t:=branch (decide ((n:Int)>50)) (leaf (RV.x (KN))) (need [VY (YM n L)] (branch (!shB n L (200:Int)) (leaf (RV.x (KN))) (leaf (RV.x (WC)))))) VU ?_;simp only [VM.sat,UB,G0,UD,UH,HA];have hc: ∀b:Bool,shB n L 200=b->ckE n L=if n<=50/\b=true then 0 else 3:=λb h=>by unfold ckE;rw [h]
 cases hs:shB n L 200
 all_goals
  rw [hc _ hs];simp
  try omega
def Xa8:UX:=λl=>some ([l=[lns n L]],i (ckE n L))
theorem PW(VR:n<=100000):VP VO 35 (Xa8 n L):=by
 refine ⟨(UJ Tryz.func35),?_⟩;intro avs ns res h Z;cases h;have e:=Z _ GD;subst e;exact OH n L VR
end
def sY:UX
 |[.lst 4 n f]=>some ([n<=100000,gdX 4 n f],.lst 4 n f)
 |_=>none
theorem V5{p:Prop}(h:p:=by
 simp only [VM.sat,UB,G0,true_and];refine ⟨λh=>⟨Ak,h⟩,⟨VJ,λk hk x hm=>((UE k hk).2 x hm).2⟩,Ap n,?_⟩;exact λk hk=>⟨lV f k,λx hm=>((UE k hk).2 x hm).1⟩):p:=h
theorem Xl2(n:Nat)(f:Ci)(VR:n<=100000)(UE:gdX 4 n f):VX VO 99 [.lst 4 n f] (.lst 4 n f):=by
 refine GA (L:=[]) Aa Ad VZ Tryz.func99 (UU Tryz.f99) G8 (t:=VM.may (n=0) (leaf (RV.x (JA))) (need [(0+n)*32<=140737488355328,∀(i:Nat),i<n-> ∀(a:AV),a∈f i->AV.one a=true] (leaf (RV.lst 4 (0+n) (GI 0 (λx=>[]) λa=>f a))))) VU ?_;exact V5
theorem Qd9:VP VO 99 sY:=by
 refine ⟨(UJ Tryz.func99),?_⟩;intro avs ns res h Z;unfold sY at h;split at h;cases h;exact Xl2 _ _ (Z _ VT) (Z _ VT);cases h
def sZ:UX
 |[.lst 5 n f]=>some ([n<=100000,gdX 5 n f],.lst 5 n f)
 |_=>none
theorem Xl3(n:Nat)(f:Ci)(VR:n<=100000)(UE:gdX 5 n f):VX VO 100 [.lst 5 n f] (.lst 5 n f):=by
 refine GA (L:=[]) Aa Ad VZ Tryz.func100 (UU Tryz.f100) G8 (t:=VM.may (n=0) (leaf (RV.x (JA))) (need [(0+n)*40<=140737488355328,∀(i:Nat),i<n-> ∀(a:AV),a∈f i->AV.one a=true] (leaf (RV.lst 5 (0+n) (GI 0 (λx=>[]) λa=>f a))))) VU ?_;exact V5
theorem Qe0:VP VO 100 sZ:=by
 refine ⟨(UJ Tryz.func100),?_⟩;intro avs ns res h Z;unfold sZ at h;split at h;cases h;exact Xl3 _ _ (Z _ VT) (Z _ VT);cases h
def sX:UX
 |[.lst 5 n f]=>some ([n<=100000,gdX 5 n f],.lst 5 n f)
 |_=>none
theorem Xl1(n:Nat)(f:Ci)(VR:n<=100000)(UE:gdX 5 n f):VX VO 101 [.lst 5 n f] (.lst 5 n f):=by
 refine GA (L:=[]) Aa Ad VZ Tryz.func101 (UU Tryz.f101) G8 (t:=VM.may (n=0) (leaf (RV.x (JA))) (need [(0+n)*40<=140737488355328,∀(i:Nat),i<n-> ∀(a:AV),a∈f i->AV.one a=true] (leaf (RV.lst 5 (0+n) (GI 0 (λx=>[]) λa=>f a))))) VU ?_;exact V5
theorem Qd8:VP VO 101 sX:=by
 refine ⟨(UJ Tryz.func101),?_⟩;intro avs ns res h Z;unfold sX at h;split at h;cases h;exact Xl1 _ _ (Z _ VT) (Z _ VT);cases h
def sW:UX
 |[.lst 2 n f]=>some ([n<=100000,gdX 2 n f],.lst 2 n f)
 |_=>none
theorem Xl0(n:Nat)(f:Ci)(VR:n<=100000)(UE:gdX 2 n f):VX VO 102 [.lst 2 n f] (.lst 2 n f):=by
 refine GA (L:=[]) Aa Ad VZ Tryz.func102 (UU Tryz.f102) G8 (t:=VM.may (n=0) (leaf (RV.x (JA))) (need [(0+n)*16<=140737488355328,∀(i:Nat),i<n-> ∀(a:AV),a∈f i->AV.one a=true] (leaf (RV.lst 2 (0+n) (GI 0 (λx=>[]) λa=>f a))))) VU ?_;exact V5
theorem Qd7:VP VO 102 sW:=by
 refine ⟨(UJ Tryz.func102),?_⟩;intro avs ns res h Z;unfold sW at h;split at h;cases h;exact Xl0 _ _ (Z _ VT) (Z _ VT);cases h
open Go Go.Sx Go.RowKit
def D1(W:Cf)(s:HS):HS:=match wdK (W 0) with
 | 0=>thS s (U0 (W 1)) (U0 (W 2)) (U0 (W 3)) (U0 (W 4))
 | 1=>stS s (U0 (W 1))
 | 2=>baS s (U0 (W 1)) (U0 (W 2))
 | 3=>btS s (U0 (W 1)) (U0 (W 2))
 | 4=>seS s (U0 (W 1)) (U0 (W 2))
 | 5=>isS s (U0 (W 1)) (U0 (W 2)) (U0 (W 3)) (U0 (W 4))
 | 6=>voS s (U0 (W 1))
 | 7=>slS s (U0 (W 1)) (U0 (W 2)) (U0 (W 3)) (U0 (W 4)) (U0 (W 5))
 |_=>s
def FT(W:Cf)(n:Nat)(s:HS):Int:=match wdK (W 0) with
 | 0=>fmE W n 4 (thE s (U0 (W 1)) (U0 (W 2)) (U0 (W 3)) (U0 (W 4)))
 | 1=>fmE W n 1 (stE s (U0 (W 1)))
 | 2=>fmE W n 2 (baE s (U0 (W 1)) (U0 (W 2)))
 | 3=>fmE W n 2 (btE s (U0 (W 1)) (U0 (W 2)))
 | 4=>fmE W n 2 (seE s (U0 (W 1)) (U0 (W 2)))
 | 5=>fmE W n 4 (isE s (U0 (W 1)) (U0 (W 2)) (U0 (W 3)) (U0 (W 4)))
 | 6=>fmE W n 1 (voE s (U0 (W 1)))
 | 7=>fmE W n 5 (slE s (U0 (W 1)) (U0 (W 2)) (U0 (W 3)) (U0 (W 4)) (U0 (W 5)))
 |_=>4
structure fP (s:HS):Prop where
 nr:s.nr<=12
 bV:bV s.nb s.ql s.qh s.qm s.qr s.qv
 nc:s.nc<=10
 sV:sV s.ns s.sa s.sb s.sc s.sl s.sh
abbrev hsM(s:HS):H2:=[(0,.cells 99 (hsL s)),(1,.row 23 1 s.xn s.xg),(2,.row 9 1 s.yn s.yg)]
theorem Qo9{str:ByteArray}{n:Nat}{W:Cf}{s:HS}(h:vO str n W)(hs:fP s):
  wJ VO 106 [.ptr 0 0,.x (.string str)] (hsM s) 901 [[.ptr 0 0,.row 1,.row 2]] 211 (OS (D1 W s)) (OX s) (rsE (FT W n s)):=by
 rcases jI (W 0) with ⟨h1,h2⟩|⟨h1,_⟩
 ·have hV: ∀q,wdL[q]? =some (W 0)->U5 (UO q) (λk=>W (k+1))=W:=by
   intro q hq;funext k;cases k with
   |zero=>
    show UO q=W 0;unfold UO;rw [List.getD_eq_getElem?_getD,hq];rfl
   |succ k=>rfl
  unfold D1 FT;rcases (show wdK (W 0)=0\/wdK (W 0)=1\/wdK (W 0)=2\/wdK (W 0)=3\/wdK (W 0)=4\/wdK (W 0)=5\/wdK (W 0)=6\/wdK (W 0)=7 by omega) with h3|h3|h3|h3|h3|h3|h3|h3
  all_goals
   rw [h3] at h2 ⊢;have e:=hV _ h2;have h':=h;rw [←e] at h'
  have k:=Qo7 (λk=>W (k+1)) n str s h' hs.nr;rw [e] at k;exact k;have k:=Qo8 (λk=>W (k+1)) n str s h' hs.nr;rw [e] at k;exact k;have k:=Xi4 (λk=>W (k+1)) n str s h';rw [e] at k;exact k;have k:=Xi3 (λk=>W (k+1)) n str s h' hs.bV.1.1;rw [e] at k;exact k;have k:=Zm8 (λk=>W (k+1)) n str s h' hs.bV;rw [e] at k;exact k;have k:=Wh5 (λk=>W (k+1)) n str s h' hs.nc;rw [e] at k;exact k;have k:=Xi1 (λk=>W (k+1)) n str s h' hs.nc;rw [e] at k;exact k;have k:=Xi2 (λk=>W (k+1)) n str s h' hs.sV;rw [e] at k;exact k
 have h0:wdO (W 0)=false:=by
  unfold wdO;rw [h1];rfl
 have k:=Jg5 W n str s h h0;unfold FT;rw [h1];show wJ _ _ _ _ _ _ _ (OS (D1 W s)) _ _;have e:D1 W s=s:=by
  unfold D1;rw [h1];rfl
 rw [e];exact k
theorem fm0{W:Cf}{n many:Nat}{e:Int}(h:fmE W n many e=0):e=0:=by
 unfold fmE at h;split at h;exact h;exact absurd h (by decide)
theorem Xf8{W:Cf}{n:Nat}{s:HS}(hs:fP s)(h0:FT W n s=0):fP (D1 W s):=by
 unfold FT at h0;unfold D1;split at h0;have h:=fm0 h0;unfold thE at h;split at h;split at h;exact ⟨by show s.nr+1<=12;omega,hs.bV,hs.nc,hs.sV⟩
 exact absurd h (by decide)
 exact absurd h (by decide)
 exact ⟨by show s.nr-1<=12;have:=hs.nr;omega,hs.bV,hs.nc,hs.sV⟩
 exact ⟨hs.nr,hs.bV,hs.nc,hs.sV⟩;have h:=fm0 h0;unfold btE at h;split at h;rename_i hb;split at h;rename_i h6;have hx:=(bt_iff _ _ _).1 hb.1;refine ⟨hs.nr,⟨⟨by show s.nb+1<=6;omega,λb hb'=>?_⟩,λb hb' j k hjk hk=>?_⟩,hs.nc,hs.sV⟩
 have hb':b<s.nb+1:=hb';show (if b<s.nb then s.qm b else 0)<=10/\0<=H4 s.nb s.ql _ b/\H4 s.nb s.ql _ b<=H4 s.nb s.qh _ b/\H4 s.nb s.qh _ b<=1000/\ ∀j,j<(if b<s.nb then s.qm b else 0)->0<=s.qr b j/\s.qr b j<=2/\ -1000<=s.qv b j/\s.qv b j<=2000
 unfold H4;by_cases e:b<s.nb;simp only [if_pos e];exact hs.bV.1.2 b e;simp only [if_neg e];exact ⟨VJ,hx.1,hx.2,hb.2,λj hj=>VJ⟩;have hk:k<(if b<s.nb then s.qm b else 0):=hk
 by_cases e:b<s.nb;rw [if_pos e] at hk;exact hs.bV.2 b e j k hjk hk;rw [if_neg e] at hk;omega;exact absurd h (by decide)
 exact absurd h (by decide)
 have h:=fm0 h0;unfold seE at h;split at h;rename_i g1;split at h;rename_i g2;split at h;rename_i g3;split at h;rename_i g4;exact ⟨hs.nr,Jd5 hs.bV g1 g2 g3 g4,hs.nc,hs.sV⟩;exact absurd h (by decide)
 exact absurd h (by decide)
 exact absurd h (by decide)
 exact absurd h (by decide)
 have h:=fm0 h0;unfold isE at h;split at h;split at h;exact ⟨hs.nr,hs.bV,by show s.nc+1<=10;omega,hs.sV⟩
 exact absurd h (by decide)
 exact absurd h (by decide)
 exact ⟨hs.nr,hs.bV,hs.nc,hs.sV⟩;have h:=fm0 h0;unfold slE at h;split at h;rename_i g1;split at h;rename_i g2;exact ⟨hs.nr,hs.bV,hs.nc,slV g1 (by simp;omega) hs.sV⟩
 exact absurd h (by decide)
 exact absurd h (by decide)
 exact absurd h0 (by decide)
def LP(e:UL)(q r t:Nat)(x:Nat):Option Nat:=if x=e.blk q then some q else if (e.val r).ownBlock=some x then some r else if (e.val t).ownBlock=some x then some t else none
theorem Qd2(s:HS): ∀a∈hsL s,Idf a:=by
 intro a A;simp only [GM,DL,or_false] at A;rcases A with rfl|rfl|rfl|rfl|rfl|rfl;exact .lst _ _ _ λk _ x hx=>by
  simp only [GM,DL,or_false] at hx;rcases hx with rfl|rfl|rfl|rfl<;>exact .x _
 exact .x _;exact .x _;exact Qd3 _ _ _ _ _ _;exact VI;exact VI
theorem Zn0{str:ByteArray}{s s':HS}{er:Int}(hE:wJ VO 106 [.ptr 0 0,.x (.string str)] (hsM s) 901 [[.ptr 0 0,.row 1,.row 2]] 211 (OS s') (OX s) (rsE er))(hx:s'.xn=s.xn/\s'.xg=s.xg/\s'.yn=s.yn/\s'.yg=s.yg)
  {e:UL}{w0 w:World}{T:Nat->Prop}{q r t:Nat}(hEv:UY e w0.heap.size w)(hB:Below w0.heap.size w0 w)(hT: ∀b,T b->b<w0.heap.size/\ ¬e.ro b)
  (hq:GH e w q (.cells 99 (hsL s)))(hr:GH e w r (.row 23 1 s.xn s.xg))(ht:GH e w t (.row 9 1 s.yn s.yg))(hqr:q≠r)(hqt:q≠t)(hrt:r≠t)(hrv: ∃a b c,e.val r= .slice a b c)(htv: ∃a b c,e.val t= .slice a b c):
  Calls Tryz.prog 106 #[.pointer (some ⟨e.blk q,0,none⟩),.string str] w λen w1=>en=Xm6 211 (rsE er)/\Below w0.heap.size w0 w1/\w.heap.size<=w1.heap.size/\
   (∀x,(e.ro x\/(w0.heap.size<=x/\x<w.heap.size/\e.own x≠some q/\e.own x≠some r/\e.own x≠some t))->w1.heap[x]? =w.heap[x]?)/\
   ∃ro1:Nat->Prop,(∀x,e.ro x->ro1 x)/\(∀x,T x-> ¬ro1 x)/\UY {e with ro:=ro1,own:=LP e q r t} w0.heap.size w1/\
    GH {e with ro:=ro1,own:=LP e q r t} w1 q (.cells 99 (cond (rsE er).1 (hsL s') [.top,.top,.top,.top,.top,.top]))/\
    GH {e with ro:=ro1,own:=LP e q r t} w1 r (.row 23 1 s.xn s.xg)/\GH {e with ro:=ro1,own:=LP e q r t} w1 t (.row 9 1 s.yn s.yg):=by
 let e0:UL:={ro:=λx=>e.ro x\/(w0.heap.size<=x/\x<w.heap.size/\e.own x≠some q/\e.own x≠some r/\e.own x≠some t),own:=λx=>if e.own x=some q then some 0 else if e.own x=some r then some 1 else if e.own x=some t then some 2 else none,live:=λk=>k<901,blk:=λ_=>e.blk q,val:=λk=>if k=1 then e.val r else e.val t}
 obtain ⟨ql,qo,vs,qh,qv⟩:=hq;obtain ⟨rl,ro,rf,rxs,rh,rv⟩:=hr;obtain ⟨tl,to,tf,txs,th,tv⟩:=ht;have oq: ∀{x},e.own x=some q->e0.own x=some 0:=λh=>if_pos h;have or_: ∀{x},e.own x=some r->e0.own x=some 1:=λh=>by simp [e0,h,hqr.symm]
 have ot: ∀{x},e.own x=some t->e0.own x=some 2:=λh=>by simp [e0,h,hqt.symm,hrt.symm]
 have hE0:UY e0 w0.heap.size w:=by
  refine ⟨λx hx=>?_,λx k hk=>?_,λg p hp=>⟨.inl (hEv.glob g p hp).1,(hEv.glob g p hp).2⟩⟩;rcases hx with hx|⟨_,h2,h3,h4,h5⟩;obtain ⟨h1,h2⟩:=hEv.apart x hx;exact ⟨by simp [e0,h1],h2⟩
  exact ⟨by simp [e0,h3,h4,h5],h2⟩
  have hk:(if e.own x=some q then some 0 else if e.own x=some r then some 1 else if e.own x=some t then some 2 else none)=some k:=hk
  split at hk;rename_i h;exact hEv.owned x _ h;split at hk;rename_i h;exact hEv.owned x _ h;split at hk;rename_i h;exact hEv.owned x _ h;cases hk
 have sub0: ∀b,e.ro b->e0.ro b:=λb h=> .inl h;have idfL:=Qd2 s;have hM:UV e0 (hsM s) w:=by
  intro p hp;simp only [GM,DL,or_false] at hp;rcases hp with rfl|rfl|rfl;exact ⟨show 0<901 by omega,oq qo,vs,qh,⟨qv.1,λi a v A I=>Rep.idf sub0 (qv.2 i a v A I) (idfL a (F5 A))⟩⟩
  exact ⟨show 1<901 by omega,λb hb=>or_ (ro b hb),rf,rxs,rh,λi j a v O A I=>Rep.idf sub0 (rv i j a v O A I) ((rf i O).2 a (F5 A))⟩
  exact ⟨show 2<901 by omega,λb hb=>ot (to b hb),tf,txs,th,λi j a v O A I=>Rep.idf sub0 (tv i j a v O A I) ((tf i O).2 a (F5 A))⟩
 let c0:Cx:={M:=λ_=>False,Φ:=λ_ _ _=>True,K:=λx o=>e0.ro x/\w.heap[x]? =some o,saved:=[[.pointer (some ⟨e.blk q,0,none⟩),e.val r,e.val t]],sz:=w.heap.size}
 have hS:U3 e0 w [.ptr 0 0,.row 1,.row 2] [.pointer (some ⟨e.blk q,0,none⟩),e.val r,e.val t]:=by
  obtain ⟨a1,b1,d1,h1⟩:=hrv;obtain ⟨a2,b2,d2,h2⟩:=htv;refine .cons (.ptr 0 0 (show 0<901 by omega)) (.cons ?_ (.cons ?_ (.nil _ _)))
  rw [h1];exact .row 1 _ _ _ (show 1<901 by omega) h1
  rw [h2];exact .row 2 _ _ _ (show 2<901 by omega) h2
 have hX:Xt c0 e0 [[.ptr 0 0,.row 1,.row 2]] [] w:=
  ⟨⟨λd hd=>(by cases hd),By⟩,λx o hk=>⟨hk.1,(hE0.apart x hk.1).2,hk.2⟩,L9.cons hS ⟨rfl,λi a v h=>by simp at h⟩,Am _⟩
 have hT0: ∀b,T b->b<w0.heap.size/\ ¬e0.ro b:=λb hb=>⟨(hT b hb).1,λh=>by
  rcases h with h|⟨h,_⟩;exact (hT b hb).2 h;have:=(hT b hb).1;omega⟩
 have hA:U3 e0 w [.ptr 0 0,.x (.string str)] [.pointer (some ⟨e.blk q,0,none⟩),.string str]:= .cons (.ptr 0 0 (show 0<901 by omega)) (.cons (.x _) (.nil _ _))
 refine (hE c0 w0 T e0 [] _ w hE0 hB hM (λk hk=>hk) hT0 hX hA).mono ?_;rintro en w1 ⟨hen,e1,g1,g2,g3,g4,g5,g6⟩;have OG: ∀x,e0.ro x->e1.ro x/\w1.heap[x]? =w.heap[x]? :=by
  intro x hx;have hlt:=(hE0.apart x hx).2;have hk:=g6.kept x w.heap[x] ⟨hx,by simp [hlt]⟩
  exact ⟨hk.1,by rw [hk.2.2];simp [hlt]⟩
 have hsv:(cond (rsE er).1 (OS s') (OX s)).sv=[[.ptr 0 0,.row 1,.row 2]]:=by
  cases (rsE er).1<;>rfl
 have hsd:=g6.saved;rw [hsv] at hsd;have hs1:=hsd.2 0 _ _ rfl rfl;obtain ⟨v0,l0,q0,r0,hs1⟩:=hs1.cons_inv;obtain ⟨rfl,rfl⟩:=List.cons.inj q0;obtain ⟨v1,l1,q1,r1,hs1⟩:=hs1.cons_inv;obtain ⟨rfl,rfl⟩:=List.cons.inj q1;obtain ⟨v2,l2,q2,r2,_⟩:=hs1.cons_inv;obtain ⟨rfl,rfl⟩:=List.cons.inj q2;have b0:e1.blk 0=e.blk q:=by
  generalize I:Value.pointer (some ⟨e.blk q,0,none⟩)=v at r0;cases r0;injection I with I
  injection I with I
  injection I with I _
  exact I.symm
 have u1:e1.val 1=e.val r:=by
  generalize I:e.val r=v at r1;cases r1;assumption
 have u2:e1.val 2=e.val t:=by
  generalize I:e.val t=v at r2;cases r2;assumption
 have m0:GH e1 w1 0 (.cells 99 (cond (rsE er).1 (hsL s') [.top,.top,.top,.top,.top,.top])):=by
  cases hb:(rsE er).1;rw [hb] at g3;exact g3 (0,.cells 99 [.top,.top,.top,.top,.top,.top]) (by simp [OX])
  rw [hb] at g3;exact g3 (0,.cells 99 (hsL s')) (by simp [OS])
 have m1:GH e1 w1 1 (.row 23 1 s.xn s.xg):=by
  cases hb:(rsE er).1;rw [hb] at g3;exact g3 (1,.row 23 1 s.xn s.xg) (by simp [OX])
  rw [hb] at g3;have:=g3 (1,.row 23 1 s'.xn s'.xg) (by simp [OS]);rw [hx.1,hx.2.1] at this;exact this
 have m2:GH e1 w1 2 (.row 9 1 s.yn s.yg):=by
  cases hb:(rsE er).1;rw [hb] at g3;exact g3 (2,.row 9 1 s.yn s.yg) (by simp [OX])
  rw [hb] at g3;have:=g3 (2,.row 9 1 s'.yn s'.yg) (by simp [OS]);rw [hx.2.2.1,hx.2.2.2] at this;exact this
 have hsz:w.heap.size<=w1.heap.size:=g6.size;obtain ⟨_,n0,vs1,k0,k1⟩:=m0;obtain ⟨_,n1,f1,xs1,p1,p2⟩:=m1;obtain ⟨_,n2,f2,xs2,y1,y2⟩:=m2;rw [b0] at n0 k0;rw [u1] at n1 p1;rw [u2] at n2 y1;have idfC: ∀a∈(cond (rsE er).1 (hsL s') [.top,.top,.top,.top,.top,.top]),Idf a:=by
  cases (rsE er).1;intro a A;simp only [cond_false,GM,DL,or_false,or_self] at A;subst A;exact .top;exact Qd2 s'
 have oq1:LP e q r t (e.blk q)=some q:=if_pos rfl;have or1: ∀b,(e.val r).ownBlock=some b->LP e q r t b=some r:=by
  intro b hb;have:b≠e.blk q:=by
   rintro rfl;have:=n1 _ hb;rw [n0] at this;cases this
  unfold LP;rw [if_neg this,if_pos hb]
 have ot1: ∀b,(e.val t).ownBlock=some b->LP e q r t b=some t:=by
  intro b hb;have h1:b≠e.blk q:=by
   rintro rfl;have:=n2 _ hb;rw [n0] at this;cases this
  have h2:(e.val r).ownBlock≠some b:=by
   intro h;have h3:=n1 _ h;rw [n2 _ hb] at h3;cases h3
  unfold LP;rw [if_neg h1,if_neg h2,if_pos hb]
 have cv: ∀{a:AV} {v:Value},Rep e1 w1 a v->Idf a->Rep {e with ro:=e1.ro,own:=LP e q r t} w1 a v:=λh k=>Rep.idf (e:=e1) (e':={e with ro:=e1.ro,own:=LP e q r t}) (λ_ h=>h) h k
 refine ⟨hen,g2,hsz,λx hx=>(OG x hx).2,e1.ro,λx hx=>(OG x (sub0 x hx)).1,λx hx=>(g5 x hx).2,⟨λx hx=>⟨?_,(g1.apart x hx).2⟩,λx k hk=>?_,λg p hp=>g1.glob g p hp⟩,⟨ql,oq1,vs1,k0,⟨k1.1,λi a v A I=>cv (k1.2 i a v A I) (idfC a (F5 A))⟩⟩,⟨rl,or1,f1,xs1,p1,λi j a v O A I=>cv (p2 i j a v O A I) ((f1 i O).2 a (F5 A))⟩,⟨tl,ot1,f2,xs2,y1,λi j a v O A I=>cv (y2 i j a v O A I) ((f2 i O).2 a (F5 A))⟩⟩;have h0:=(g1.apart x hx).1;have c1:x≠e.blk q:=by
  rintro rfl;rw [n0] at h0;cases h0
 have c2:(e.val r).ownBlock≠some x:=λh=>by
  rw [n1 _ h] at h0;cases h0
 have c3:(e.val t).ownBlock≠some x:=λh=>by
  rw [n2 _ h] at h0;cases h0
 show LP e q r t x=none;unfold LP;rw [if_neg c1,if_neg c2,if_neg c3];have up: ∀{x j},e.own x=some j->w0.heap.size<=x/\x<w1.heap.size:=λh=>⟨(hEv.owned _ _ h).1,xV (hEv.owned _ _ h).2 hsz⟩;have hk:LP e q r t x=some k:=hk;unfold LP at hk;split at hk;rename_i h;rw [h];exact up qo;split at hk;rename_i h;exact up (ro _ h);split at hk;rename_i h;exact up (to _ h);cases hk
open Go Go.RowKit
section
variable (w:World)
theorem M2(o:Obj)(y:Nat)(hy:y<w.heap.size):(w.alloc o).drew.heap[y]? =w.heap[y]? :=Go.RowKit.Below.heap_alloc w o y hy
theorem Qn9(o:Obj):(w.alloc o).output=w.output:=rfl
theorem We6:w.drew.output=w.output:=rfl
theorem Xh6(a:Addr)(v:Value):(w.setCell a v).output=w.output:=rfl
theorem Zq4:(binOp .eql 20 .nilIface .nilIface).run Tryz.prog w= .ok (.bool true) w:=run_eql_nil_nil w 20 (by kernel_rfl)
end
theorem Xm4(k:Int)(w:World):(binOp .eql 20 (.iface 211 (.agg #[.int .i64 k])) .nilIface).run Tryz.prog w= .ok (.bool false) w:=run_eql_held_nil w 20 211 _ (by kernel_rfl)
theorem sN(v:Value)(w:World):(Instr.typeAssert (.iface 211 v) 20 211 true).run Tryz.prog w= .ok (.tuple #[v,.bool true]) w:=by kernel_rfl
set_option maxHeartbeats 2000000 in
theorem Qo2(p5 p2 W:Addr)(w:World):
  CallsD Tryz.prog 105 #[.pointer (some p5),.pointer (some p2),.pointer (some W)] .returning w λe u' w'=>e= .returned (.tuple #[])/\u'= .returning/\w'=w:=by
 refine callsD_of_wpS Tryz.func105 rfl λc₀ cs hu=>?_;apply wpS_seq;apply wpS_region;simp [wpOpsS,go_sem,recoverD,hu,Tryz.ntmps105,Exit.thenS];rw [show (#[.pointer (some p5),.pointer (some p2),.pointer (some W)]++(Array.replicate 15 undef).setIfInBounds 3 (.nilIface):Array Value)=#[.pointer (some p5),.pointer (some p2),.pointer (some W),undef,undef,undef,.nilIface,undef,undef,undef,undef,undef,undef,undef,undef,undef,undef,undef] from rfl];refine wpS_of_wp ?_;have q1:=Zq4
 go_wp2
 all_goals (cases c₀;simp_all [bodyPostS,results,Tryz.results105])
set_option maxHeartbeats 2000000 in
theorem oT(b p2 W p5:Nat)(k x:Int)(S a3 a4 a5:Option Addr)(I A l3 Z l4 q4 l5 q5:Nat)(i1 i2:Int)(c0 c1 c2 c3 c4 c5:Value)(older:List PanicEntry)(w:World)(h2:w.heap[p2]? =some (.cells #[.pointer (some ⟨b,0,none⟩)] 95 (0,0)))(h5:w.heap[p5]? =some (.cells #[.slice S I A,.int .i64 i1,.int .i64 i2,.slice a3 l3 Z,.slice a4 l4 q4,.slice a5 l5 q5] 43 (0,0)))(h4:w.heap[W]? =some (.cells #[.int .i64 x] 23 (0,0)))(hb:w.heap[b]? =some (.cells #[c0,c1,c2,c3,c4,c5] 99 (0,0)))(h4b:W≠b):
  CallsD Tryz.prog 105 #[.pointer (some ⟨p5,0,none⟩),.pointer (some ⟨p2,0,none⟩),.pointer (some ⟨W,0,none⟩)] (.panicking ({v:= .iface 211 (.agg #[.int .i64 k]),recovered:=false}::older)) w λe u' w'=>e= .returned (.tuple #[])/\u'= .panicking ({v:= .iface 211 (.agg #[.int .i64 k]),recovered:=true}::older)/\w.heap.size<=w'.heap.size/\w'.heap[b]? =some (.cells #[.slice S I A,.int .i64 i1,.int .i64 i2,.slice a3 l3 Z,.slice a4 l4 q4,.slice a5 l5 q5] 99 (0,0))/\w'.heap[W]? =some (.cells #[.int .i64 k] 23 (0,0))/\(w'.os=w.os/\w'.tape=w.tape/\w'.output=w.output)/\ ∀y,y<w.heap.size->y≠b->y≠W->w'.heap[y]? =w.heap[y]? :=by
 refine callsD_of_wpS Tryz.func105 rfl λc₀ cs hu=>?_;apply wpS_seq;apply wpS_region;simp [wpOpsS,go_sem,recoverD,hu,Tryz.ntmps105,Exit.thenS];rw [show (#[.pointer (some ⟨p5,0,none⟩),.pointer (some ⟨p2,0,none⟩),.pointer (some ⟨W,0,none⟩)]++(Array.replicate 15 undef).setIfInBounds 3 (.iface 211 (.agg #[.int .i64 k])):Array Value)=#[.pointer (some ⟨p5,0,none⟩),.pointer (some ⟨p2,0,none⟩),.pointer (some ⟨W,0,none⟩),undef,undef,undef,.iface 211 (.agg #[.int .i64 k]),undef,undef,undef,undef,undef,undef,undef,undef,undef,undef,undef] from rfl];refine wpS_of_wp ?_;have q1:=Xm4 k;have q2:=sN;have lt: ∀{y o},w.heap[y]? =some o->y<w.heap.size:=λh=>(Array.getElem?_eq_some_iff.1 h).1;have hW: ∀y,y<w.heap.size->(w.alloc (Obj.cells #[Value.int IntKind.i64 k] 211)).drew.heap[y]? =w.heap[y]? :=λy hy=>M2 w _ y hy;have hN:(w.alloc (Obj.cells #[Value.int IntKind.i64 k] 211)).drew.heap[w.heap.size]? =some (.cells #[.int .i64 k] 211 (0,0)):=World.alloc_heap_new w _;have k2:=(hW _ (lt h2)).trans h2;have k4:=(hW _ (lt h4)).trans h4;have k5:=(hW _ (lt h5)).trans h5;have kb:=(hW _ (lt hb)).trans hb;have nb: ¬w.heap.size=b:=λh=>by have:=lt hb;omega
 have nb': ¬b=w.heap.size:=λh=>by have:=lt hb;omega
 have n4: ¬w.heap.size=W:=λh=>by have:=lt h4;omega
 have nbp: ¬b=W:=λh=>h4b h.symm;have cN:(w.alloc (Obj.cells #[Value.int IntKind.i64 k] 211)).drew.cell? ⟨w.heap.size,0,none⟩=some (.int .i64 k):=by simp only [World.cell?,hN];rfl
 have c_p2_0:w.cell? ⟨p2,0,none⟩=some (.pointer (some ⟨b,0,none⟩)):=by simp only [World.cell?,h2];rfl
 have c_p4_0:w.cell? ⟨W,0,none⟩=some (.int .i64 x):=by simp only [World.cell?,h4];rfl
 have f_p4_0:w.frozen? ⟨W,0,none⟩=false:=by simp only [World.frozen?,h4];rfl
 have c_p5_0:w.cell? ⟨p5,0,none⟩=some (.slice S I A):=by simp only [World.cell?,h5];rfl
 have c_p5_1:w.cell? ⟨p5,1,none⟩=some (.int .i64 i1):=by simp only [World.cell?,h5];rfl
 have c_p5_2:w.cell? ⟨p5,2,none⟩=some (.int .i64 i2):=by simp only [World.cell?,h5];rfl
 have c_p5_3:w.cell? ⟨p5,3,none⟩=some (.slice a3 l3 Z):=by simp only [World.cell?,h5];rfl
 have c_p5_4:w.cell? ⟨p5,4,none⟩=some (.slice a4 l4 q4):=by simp only [World.cell?,h5];rfl
 have c_p5_5:w.cell? ⟨p5,5,none⟩=some (.slice a5 l5 q5):=by simp only [World.cell?,h5];rfl
 have c_b_0:w.cell? ⟨b,0,none⟩=some (c0):=by simp only [World.cell?,hb];rfl
 have f_b_0:w.frozen? ⟨b,0,none⟩=false:=by simp only [World.frozen?,hb];rfl
 have c_b_1:w.cell? ⟨b,1,none⟩=some (c1):=by simp only [World.cell?,hb];rfl
 have f_b_1:w.frozen? ⟨b,1,none⟩=false:=by simp only [World.frozen?,hb];rfl
 have c_b_2:w.cell? ⟨b,2,none⟩=some (c2):=by simp only [World.cell?,hb];rfl
 have f_b_2:w.frozen? ⟨b,2,none⟩=false:=by simp only [World.frozen?,hb];rfl
 have c_b_3:w.cell? ⟨b,3,none⟩=some (c3):=by simp only [World.cell?,hb];rfl
 have f_b_3:w.frozen? ⟨b,3,none⟩=false:=by simp only [World.frozen?,hb];rfl
 have c_b_4:w.cell? ⟨b,4,none⟩=some (c4):=by simp only [World.cell?,hb];rfl
 have f_b_4:w.frozen? ⟨b,4,none⟩=false:=by simp only [World.frozen?,hb];rfl
 have c_b_5:w.cell? ⟨b,5,none⟩=some (c5):=by simp only [World.cell?,hb];rfl
 have f_b_5:w.frozen? ⟨b,5,none⟩=false:=by simp only [World.frozen?,hb];rfl
 clear hW hN k2 k4 k5 kb cN
 go_wp2
 go_region
 all_goals go_wp2;have e0:(w.setCell ⟨b,0,none⟩ (.slice S I A)).heap[b]? =some (.cells #[.slice S I A,c1,c2,c3,c4,c5] 99 (0,0)):=(heap_setCell_same w b 0 _ _ (.slice S I A) hb).trans rfl;have e1:((w.setCell ⟨b,0,none⟩ (.slice S I A)).setCell ⟨b,1,none⟩ (.int .i64 i1)).heap[b]? =some (.cells #[.slice S I A,.int .i64 i1,c2,c3,c4,c5] 99 (0,0)):=(heap_setCell_same (w.setCell ⟨b,0,none⟩ (.slice S I A)) b 1 _ _ (.int .i64 i1) e0).trans rfl;have e2:(((w.setCell ⟨b,0,none⟩ (.slice S I A)).setCell ⟨b,1,none⟩ (.int .i64 i1)).setCell ⟨b,2,none⟩ (.int .i64 i2)).heap[b]? =some (.cells #[.slice S I A,.int .i64 i1,.int .i64 i2,c3,c4,c5] 99 (0,0)):=(heap_setCell_same ((w.setCell ⟨b,0,none⟩ (.slice S I A)).setCell ⟨b,1,none⟩ (.int .i64 i1)) b 2 _ _ (.int .i64 i2) e1).trans rfl;have e3:((((w.setCell ⟨b,0,none⟩ (.slice S I A)).setCell ⟨b,1,none⟩ (.int .i64 i1)).setCell ⟨b,2,none⟩ (.int .i64 i2)).setCell ⟨b,3,none⟩ (.slice a3 l3 Z)).heap[b]? =some (.cells #[.slice S I A,.int .i64 i1,.int .i64 i2,.slice a3 l3 Z,c4,c5] 99 (0,0)):=(heap_setCell_same (((w.setCell ⟨b,0,none⟩ (.slice S I A)).setCell ⟨b,1,none⟩ (.int .i64 i1)).setCell ⟨b,2,none⟩ (.int .i64 i2)) b 3 _ _ (.slice a3 l3 Z) e2).trans rfl;have e4:(((((w.setCell ⟨b,0,none⟩ (.slice S I A)).setCell ⟨b,1,none⟩ (.int .i64 i1)).setCell ⟨b,2,none⟩ (.int .i64 i2)).setCell ⟨b,3,none⟩ (.slice a3 l3 Z)).setCell ⟨b,4,none⟩ (.slice a4 l4 q4)).heap[b]? =some (.cells #[.slice S I A,.int .i64 i1,.int .i64 i2,.slice a3 l3 Z,.slice a4 l4 q4,c5] 99 (0,0)):=(heap_setCell_same ((((w.setCell ⟨b,0,none⟩ (.slice S I A)).setCell ⟨b,1,none⟩ (.int .i64 i1)).setCell ⟨b,2,none⟩ (.int .i64 i2)).setCell ⟨b,3,none⟩ (.slice a3 l3 Z)) b 4 _ _ (.slice a4 l4 q4) e3).trans rfl;have e5:((((((w.setCell ⟨b,0,none⟩ (.slice S I A)).setCell ⟨b,1,none⟩ (.int .i64 i1)).setCell ⟨b,2,none⟩ (.int .i64 i2)).setCell ⟨b,3,none⟩ (.slice a3 l3 Z)).setCell ⟨b,4,none⟩ (.slice a4 l4 q4)).setCell ⟨b,5,none⟩ (.slice a5 l5 q5)).heap[b]? =some (.cells #[.slice S I A,.int .i64 i1,.int .i64 i2,.slice a3 l3 Z,.slice a4 l4 q4,.slice a5 l5 q5] 99 (0,0)):=(heap_setCell_same (((((w.setCell ⟨b,0,none⟩ (.slice S I A)).setCell ⟨b,1,none⟩ (.int .i64 i1)).setCell ⟨b,2,none⟩ (.int .i64 i2)).setCell ⟨b,3,none⟩ (.slice a3 l3 Z)).setCell ⟨b,4,none⟩ (.slice a4 l4 q4)) b 5 _ _ (.slice a5 l5 q5) e4).trans rfl;have oth: ∀y,y≠b->((((((w.setCell ⟨b,0,none⟩ (.slice S I A)).setCell ⟨b,1,none⟩ (.int .i64 i1)).setCell ⟨b,2,none⟩ (.int .i64 i2)).setCell ⟨b,3,none⟩ (.slice a3 l3 Z)).setCell ⟨b,4,none⟩ (.slice a4 l4 q4)).setCell ⟨b,5,none⟩ (.slice a5 l5 q5)).heap[y]? =w.heap[y]? :=λy hy=>by simp only [heap_setCell_other _ _ _ _ (show y≠(⟨b,_,none⟩:Addr).block from hy)]
 have e6:(((((((w.setCell ⟨b,0,none⟩ (.slice S I A)).setCell ⟨b,1,none⟩ (.int .i64 i1)).setCell ⟨b,2,none⟩ (.int .i64 i2)).setCell ⟨b,3,none⟩ (.slice a3 l3 Z)).setCell ⟨b,4,none⟩ (.slice a4 l4 q4)).setCell ⟨b,5,none⟩ (.slice a5 l5 q5)).setCell ⟨W,0,none⟩ (.int .i64 k)).heap[W]? =some (.cells #[.int .i64 k] 23 (0,0)):=(heap_setCell_same ((((((w.setCell ⟨b,0,none⟩ (.slice S I A)).setCell ⟨b,1,none⟩ (.int .i64 i1)).setCell ⟨b,2,none⟩ (.int .i64 i2)).setCell ⟨b,3,none⟩ (.slice a3 l3 Z)).setCell ⟨b,4,none⟩ (.slice a4 l4 q4)).setCell ⟨b,5,none⟩ (.slice a5 l5 q5)) W 0 _ _ (.int .i64 k) ((oth W h4b).trans h4)).trans rfl;have sz:(((((((w.setCell ⟨b,0,none⟩ (.slice S I A)).setCell ⟨b,1,none⟩ (.int .i64 i1)).setCell ⟨b,2,none⟩ (.int .i64 i2)).setCell ⟨b,3,none⟩ (.slice a3 l3 Z)).setCell ⟨b,4,none⟩ (.slice a4 l4 q4)).setCell ⟨b,5,none⟩ (.slice a5 l5 q5)).setCell ⟨W,0,none⟩ (.int .i64 k)).heap.size=w.heap.size:=by simp
 have al: ∀y,y<w.heap.size->((((((((w.setCell ⟨b,0,none⟩ (.slice S I A)).setCell ⟨b,1,none⟩ (.int .i64 i1)).setCell ⟨b,2,none⟩ (.int .i64 i2)).setCell ⟨b,3,none⟩ (.slice a3 l3 Z)).setCell ⟨b,4,none⟩ (.slice a4 l4 q4)).setCell ⟨b,5,none⟩ (.slice a5 l5 q5)).setCell ⟨W,0,none⟩ (.int .i64 k)).alloc (.cells #[.int .i64 k] 211)).drew.heap[y]? =(((((((w.setCell ⟨b,0,none⟩ (.slice S I A)).setCell ⟨b,1,none⟩ (.int .i64 i1)).setCell ⟨b,2,none⟩ (.int .i64 i2)).setCell ⟨b,3,none⟩ (.slice a3 l3 Z)).setCell ⟨b,4,none⟩ (.slice a4 l4 q4)).setCell ⟨b,5,none⟩ (.slice a5 l5 q5)).setCell ⟨W,0,none⟩ (.int .i64 k)).heap[y]? :=λy hy=>M2 _ _ y (by rw [sz];exact hy)
 all_goals
  cases c₀;simp [bodyPostS,results,Tryz.results105];refine ⟨?_,?_,?_,λy hy h1 h2=>?_⟩;rw [al b (lt hb),heap_setCell_other _ _ _ _ (show b≠W from Ne.symm h4b)];exact e5;rw [al W (lt h4)];exact e6;simp only [We6,Qn9,Xh6];rw [al y hy,heap_setCell_other _ _ _ _ (show y≠W from h2)];exact oth y h1
structure bI (w w':World):Prop where
 size:w.heap.size<=w'.heap.size
 os:w'.os=w.os
 tape:w'.tape=w.tape
 output:w'.output=w.output
theorem Zg7{w:World}{p:Nat}{v:Value}{T:TypeId}(h:w.heap[p]? =some (.cells #[v] T (0,0)))(y:Nat):(w.setCell ⟨p,0,none⟩ v).heap[y]? =w.heap[y]? :=by
 by_cases hy:y=p;subst hy;rw [heap_setCell_same w y 0 _ _ v h,h];rfl;exact heap_setCell_other _ _ _ _ hy
abbrev Z1(b:Nat):Value:=Value.pointer (some ⟨b,0,none⟩)
abbrev KC:Value:=Value.int IntKind.i64 0
set_option maxHeartbeats 2000000 in
theorem Zm1(b:Nat)(str:ByteArray)(a0 a3 a4 a5:Option Addr)(l0 q0 l3 q3 l4 q4 l5 q5:Nat)(i1 i2:Int)(w:World)(hb:w.heap[b]? =some (.cells #[.slice a0 l0 q0,.int .i64 i1,.int .i64 i2,.slice a3 l3 q3,.slice a4 l4 q4,.slice a5 l5 q5] 99 (0,0)))
  (e:Int)(touched:Nat->Prop)(ht: ∀y,touched y->y<w.heap.size)(P:World->World->Prop)
  (hl: ∀w2,bI w w2->(∀y,y<w.heap.size->w2.heap[y]? =w.heap[y]?)->Calls Tryz.prog 106 #[.pointer (some ⟨b,0,none⟩),.string str] w2 λen w3=>en=(if e=0 then .returned (.tuple #[]) else .panicked [{v:= .iface 211 (.agg #[.int .i64 e]),recovered:=false}])/\bI w2 w3/\(∀y,y<w2.heap.size-> ¬touched y->w3.heap[y]? =w2.heap[y]?)/\(∃c0 c1 c2 c3 c4 c5,w3.heap[b]? =some (.cells #[c0,c1,c2,c3,c4,c5] 99 (0,0)))/\P w2 w3):
  Calls Tryz.prog 63 #[.pointer (some ⟨b,0,none⟩),.string str] w λen w'=>en= .returned (.int .i64 e)/\ ∃w2 w3,bI w w2/\(∀y,y<w.heap.size->w2.heap[y]? =w.heap[y]?)/\P w2 w3/\bI w2 w3/\bI w3 w'/\(∀y,y<w3.heap.size->y≠b->y≠w.heap.size+1->w'.heap[y]? =w3.heap[y]?)/\w'.heap[b]? =(if e=0 then w3.heap[b]? else w.heap[b]?)/\(e=0-> ∀y:Nat,w'.heap[y]? =w3.heap[y]?):=by
 have hmf: ∀(fn:Fn) (first cap:Array Value) (w:World),(Instr.makeFunc fn first cap).run Tryz.prog w= .ok (.func fn first cap) w:=λ_ _ _ _=>rfl
 have lt: ∀{y o},w.heap[y]? =some o->y<w.heap.size:=λh=>(Array.getElem?_eq_some_iff.1 h).1;have cb0:w.cell? ⟨b,0,none⟩=some (.slice a0 l0 q0):=by simp only [World.cell?,hb];rfl
 have cb1:w.cell? ⟨b,1,none⟩=some (.int .i64 i1):=by simp only [World.cell?,hb];rfl
 have cb2:w.cell? ⟨b,2,none⟩=some (.int .i64 i2):=by simp only [World.cell?,hb];rfl
 have cb3:w.cell? ⟨b,3,none⟩=some (.slice a3 l3 q3):=by simp only [World.cell?,hb];rfl
 have cb4:w.cell? ⟨b,4,none⟩=some (.slice a4 l4 q4):=by simp only [World.cell?,hb];rfl
 have cb5:w.cell? ⟨b,5,none⟩=some (.slice a5 l5 q5):=by simp only [World.cell?,hb];rfl
 have nb: ¬w.heap.size=b:=λh=>by have:=lt hb;omega
 have nb': ¬b=w.heap.size:=λh=>by have:=lt hb;omega
 have nb1: ¬b=w.heap.size+1:=λh=>by have:=lt hb;omega
 have nb2: ¬b=w.heap.size+1+1:=λh=>by have:=lt hb;omega
 have nb1': ¬w.heap.size+1=b:=λh=>by have:=lt hb;omega
 have nb2': ¬w.heap.size+1+1=b:=λh=>by have:=lt hb;omega
 have hA: ∀y,y<w.heap.size->((w.alloc (Obj.cells #[Z1 b] 95)).alloc (Obj.cells #[KC] 23)).heap[y]? =w.heap[y]? :=λy hy=>(Go.RowKit.Below.heap_alloc _ _ y (Nat.lt_succ_of_lt hy |> λh=>by simpa using h)).trans (Go.RowKit.Below.heap_alloc w _ y hy)
 have hAb:=(hA b (lt hb)).trans hb;have d0:((w.alloc (Obj.cells #[Z1 b] 95)).alloc (Obj.cells #[Value.int IntKind.i64 0] 23)).cell? ⟨b,0,none⟩=some (.slice a0 l0 q0):=by simp only [World.cell?,hAb];rfl
 have d1:((w.alloc (Obj.cells #[Z1 b] 95)).alloc (Obj.cells #[Value.int IntKind.i64 0] 23)).cell? ⟨b,1,none⟩=some (.int .i64 i1):=by simp only [World.cell?,hAb];rfl
 have d2:((w.alloc (Obj.cells #[Z1 b] 95)).alloc (Obj.cells #[Value.int IntKind.i64 0] 23)).cell? ⟨b,2,none⟩=some (.int .i64 i2):=by simp only [World.cell?,hAb];rfl
 have d3:((w.alloc (Obj.cells #[Z1 b] 95)).alloc (Obj.cells #[Value.int IntKind.i64 0] 23)).cell? ⟨b,3,none⟩=some (.slice a3 l3 q3):=by simp only [World.cell?,hAb];rfl
 have d4:((w.alloc (Obj.cells #[Z1 b] 95)).alloc (Obj.cells #[Value.int IntKind.i64 0] 23)).cell? ⟨b,4,none⟩=some (.slice a4 l4 q4):=by simp only [World.cell?,hAb];rfl
 have d5:((w.alloc (Obj.cells #[Z1 b] 95)).alloc (Obj.cells #[Value.int IntKind.i64 0] 23)).cell? ⟨b,5,none⟩=some (.slice a5 l5 q5):=by simp only [World.cell?,hAb];rfl
 have s1:(w.alloc (Obj.cells #[Value.pointer (some ⟨b,0,none⟩)] 95)).heap.size=w.heap.size+1:=by simp
 have s2:((w.alloc (Obj.cells #[Value.pointer (some ⟨b,0,none⟩)] 95)).alloc (Obj.cells #[Value.int IntKind.i64 0] 23)).heap.size=w.heap.size+2:=by simp
 have s3:(((w.alloc (Obj.cells #[Z1 b] 95)).alloc (Obj.cells #[KC] 23)).alloc (Obj.cells #[.slice a0 l0 q0,.int .i64 i1,.int .i64 i2,.slice a3 l3 q3,.slice a4 l4 q4,.slice a5 l5 q5] 43)).heap.size=w.heap.size+3:=by simp
 have hB: ∀y,y<w.heap.size->(((w.alloc (Obj.cells #[Z1 b] 95)).alloc (Obj.cells #[KC] 23)).alloc (Obj.cells #[.slice a0 l0 q0,.int .i64 i1,.int .i64 i2,.slice a3 l3 q3,.slice a4 l4 q4,.slice a5 l5 q5] 43)).heap[y]? =w.heap[y]? :=λy hy=>(Go.RowKit.Below.heap_alloc _ _ y (by rw [s2];omega)).trans (hA y hy)
 have b5:(((w.alloc (Obj.cells #[Z1 b] 95)).alloc (Obj.cells #[KC] 23)).alloc (Obj.cells #[.slice a0 l0 q0,.int .i64 i1,.int .i64 i2,.slice a3 l3 q3,.slice a4 l4 q4,.slice a5 l5 q5] 43)).heap[w.heap.size+2]? =some (.cells #[.slice a0 l0 q0,.int .i64 i1,.int .i64 i2,.slice a3 l3 q3,.slice a4 l4 q4,.slice a5 l5 q5] 43 (0,0)):=by
  have:=World.alloc_heap_new ((w.alloc (Obj.cells #[Z1 b] 95)).alloc (Obj.cells #[KC] 23)) (Obj.cells #[.slice a0 l0 q0,.int .i64 i1,.int .i64 i2,.slice a3 l3 q3,.slice a4 l4 q4,.slice a5 l5 q5] 43);rw [s2] at this;exact this
 have b4:(((w.alloc (Obj.cells #[Z1 b] 95)).alloc (Obj.cells #[KC] 23)).alloc (Obj.cells #[.slice a0 l0 q0,.int .i64 i1,.int .i64 i2,.slice a3 l3 q3,.slice a4 l4 q4,.slice a5 l5 q5] 43)).heap[w.heap.size+1]? =some (.cells #[.int .i64 0] 23 (0,0)):=by
  have:=World.alloc_heap_new (w.alloc (Obj.cells #[Value.pointer (some ⟨b,0,none⟩)] 95)) (Obj.cells #[Value.int IntKind.i64 0] 23);rw [s1] at this;exact (Go.RowKit.Below.heap_alloc _ _ _ (by rw [s2];omega)).trans this
 have b2:(((w.alloc (Obj.cells #[Z1 b] 95)).alloc (Obj.cells #[KC] 23)).alloc (Obj.cells #[.slice a0 l0 q0,.int .i64 i1,.int .i64 i2,.slice a3 l3 q3,.slice a4 l4 q4,.slice a5 l5 q5] 43)).heap[w.heap.size]? =some (.cells #[.pointer (some ⟨b,0,none⟩)] 95 (0,0)):=by
  have:=World.alloc_heap_new w (Obj.cells #[Value.pointer (some ⟨b,0,none⟩)] 95);exact (Go.RowKit.Below.heap_alloc _ _ _ (by rw [s2];omega)).trans ((Go.RowKit.Below.heap_alloc _ _ _ (by rw [s1];omega)).trans this)
 have hG:bI w (((w.alloc (Obj.cells #[Z1 b] 95)).alloc (Obj.cells #[KC] 23)).alloc (Obj.cells #[.slice a0 l0 q0,.int .i64 i1,.int .i64 i2,.slice a3 l3 q3,.slice a4 l4 q4,.slice a5 l5 q5] 43)):=⟨by rw [s3];omega,rfl,rfl,rfl⟩
 have FJ:=hl _ hG hB;by_cases he:e=0
 ·subst he;simp only [if_pos rfl] at FJ ⊢
  go_enter_defers Tryz.func63,Tryz.ntmps63
  go_wp2_with (go_at_call 106;refine FJ.mono ?_;rintro en w3 ⟨rfl,g1,g2,g3,g4⟩;have h4:=(g2 (w.heap.size+1) (by rw [s3];omega) (λh=>by have:=ht _ h;omega)).trans b4;have k4:w3.cell? ⟨w.heap.size+1,0,none⟩=some (.int .i64 0):=(by simp only [World.cell?,h4];rfl);have f4:w3.frozen? ⟨w.heap.size+1,0,none⟩=false:=(by simp only [World.frozen?,h4];rfl))
  refine leaves_cons (f:=105) (args:=#[.pointer (some ⟨w.heap.size+2,0,none⟩),.pointer (some ⟨w.heap.size,0,none⟩),.pointer (some ⟨w.heap.size+1,0,none⟩)]) (by simp) (by simp [go_sem]) ?_
  refine (Qo2 _ _ _ _).mono ?_;rintro e' u' w'' ⟨rfl,rfl,rfl⟩;have kc:(w3.setCell ⟨w.heap.size+1,0,none⟩ (.int .i64 0)).cell? ⟨w.heap.size+1,0,none⟩=some (.int .i64 0):=by simp only [World.cell?,heap_setCell_same w3 _ 0 _ _ (.int .i64 0) h4];rfl
  simp [Leaves,settle,results,Tryz.results63,go_sem,kc];exact ⟨_,hG,hB,w3,g4,g1,⟨by simp,rfl,rfl,rfl⟩,λy _ _ h2=>heap_setCell_other _ _ _ _ h2,heap_setCell_other _ _ _ _ nb1,λy=>Zg7 h4 y⟩
 ·simp only [if_neg he] at FJ ⊢
  go_enter_defers Tryz.func63,Tryz.ntmps63
  go_wp2_with (go_at_call 106;refine FJ.mono ?_;rintro en w3 ⟨rfl,g1,g2,g3,g4⟩;have h4:=(g2 (w.heap.size+1) (by rw [s3];omega) (λh=>by have:=ht _ h;omega)).trans b4;have k4:w3.cell? ⟨w.heap.size+1,0,none⟩=some (.int .i64 0):=(by simp only [World.cell?,h4];rfl);have f4:w3.frozen? ⟨w.heap.size+1,0,none⟩=false:=(by simp only [World.frozen?,h4];rfl))
  refine leaves_cons (f:=105) (args:=#[.pointer (some ⟨w.heap.size+2,0,none⟩),.pointer (some ⟨w.heap.size,0,none⟩),.pointer (some ⟨w.heap.size+1,0,none⟩)]) (by simp) (by simp [go_sem]) ?_
  obtain ⟨c0,c1,c2,c3,c4,c5,g3⟩:=g3;have h2:=(g2 w.heap.size (by rw [s3];omega) (λh=>by have:=ht _ h;omega)).trans b2
  have h5:=(g2 (w.heap.size+2) (by rw [s3];omega) (λh=>by have:=ht _ h;omega)).trans b5
  refine (oT b w.heap.size (w.heap.size+1) (w.heap.size+2) e 0 a0 a3 a4 a5 l0 q0 l3 q3 l4 q4 l5 q5 i1 i2 c0 c1 c2 c3 c4 c5 [] w3 h2 h5 h4 g3 (λh=>nb1 h.symm)).mono ?_;rintro e' u' w'' ⟨rfl,rfl,m1,m2,m3,m4,m5⟩;have kc:w''.cell? ⟨w.heap.size+1,0,none⟩=some (.int .i64 e):=by simp only [World.cell?,m3];rfl
  simp [Leaves,settle,results,Tryz.results63,go_sem,kc];exact ⟨_,hG,hB,w3,g4,g1,⟨m1,m4.1,m4.2.1,m4.2.2⟩,m5,m2.trans hb.symm,λh=>absurd h he⟩
theorem y7{e:UL}{w:World}{sz n:Nat}{f:Ci}{v:Value}(h:Rep e w (.lst sz n f) v): ∃a l c,v= .slice a l c:=by
 cases h with
 |lstNil=>exact ⟨_,_,_,rfl⟩
 |lst=>exact ⟨_,_,_,rfl⟩
theorem Zg4(W:Cf)(s:HS):(D1 W s).xn=s.xn/\(D1 W s).xg=s.xg/\(D1 W s).yn=s.yn/\(D1 W s).yg=s.yg:=by
 unfold D1;split<;>exact ⟨rfl,rfl,rfl,rfl⟩
theorem Xm5(e:Int):Xm6 211 (rsE e)=(if e=0 then .returned (.tuple #[]) else .panicked [{v:= .iface 211 (.agg #[.int .i64 e]),recovered:=false}]):=by
 unfold rsE Xm6;by_cases h:e=0;simp [h];simp [h]
def Xv4(e:UL)(w0:World)(T:Nat->Prop)(q r t:Nat)(s s':HS)(er:Int)(w2 w3:World):Prop:=
 Below w0.heap.size w0 w3/\(∀x,(e.ro x\/(w0.heap.size<=x/\x<w2.heap.size/\e.own x≠some q/\e.own x≠some r/\e.own x≠some t))->w3.heap[x]? =w2.heap[x]?)/\
 ∃ro1:Nat->Prop,(∀x,e.ro x->ro1 x)/\(∀x,T x-> ¬ro1 x)/\UY {e with ro:=ro1,own:=LP e q r t} w0.heap.size w3/\
  GH {e with ro:=ro1,own:=LP e q r t} w3 q (.cells 99 (cond (rsE er).1 (hsL s') [.top,.top,.top,.top,.top,.top]))/\
  GH {e with ro:=ro1,own:=LP e q r t} w3 r (.row 23 1 s.xn s.xg)/\GH {e with ro:=ro1,own:=LP e q r t} w3 t (.row 9 1 s.yn s.yg)
theorem Zm3{str:ByteArray}{n:Nat}{W:Cf}{s:HS}(h:vO str n W)(hs:fP s)
  {e:UL}{w0 w:World}{T:Nat->Prop}{q r t:Nat}(hEv:UY e w0.heap.size w)(hB:Below w0.heap.size w0 w)(hT: ∀b,T b->b<w0.heap.size/\ ¬e.ro b)
  (hq:GH e w q (.cells 99 (hsL s)))(hr:GH e w r (.row 23 1 s.xn s.xg))(ht:GH e w t (.row 9 1 s.yn s.yg))(hqr:q≠r)(hqt:q≠t)(hrt:r≠t)(hrv: ∃a b c,e.val r= .slice a b c)(htv: ∃a b c,e.val t= .slice a b c):
  Calls Tryz.prog 63 #[.pointer (some ⟨e.blk q,0,none⟩),.string str] w λen w'=>en= .returned (.int .i64 (FT W n s))/\ ∃w2 w3,bI w w2/\(∀y,y<w.heap.size->w2.heap[y]? =w.heap[y]?)/\Xv4 e w0 T q r t s (D1 W s) (FT W n s) w2 w3/\bI w2 w3/\bI w3 w'/\(∀y,y<w3.heap.size->y≠e.blk q->y≠w.heap.size+1->w'.heap[y]? =w3.heap[y]?)/\w'.heap[e.blk q]? =(if FT W n s=0 then w3.heap[e.blk q]? else w.heap[e.blk q]?)/\(FT W n s=0-> ∀y:Nat,w'.heap[y]? =w3.heap[y]?):=by
 have hq0:=hq;obtain ⟨ql,qo,vs,qh,qv⟩:=hq;obtain ⟨u0,us,rfl,r0,qv⟩:=qv.cons_inv;obtain ⟨u1,us,rfl,r1,qv⟩:=qv.cons_inv;obtain ⟨u2,us,rfl,r2,qv⟩:=qv.cons_inv;obtain ⟨u3,us,rfl,r3,qv⟩:=qv.cons_inv;obtain ⟨u4,us,rfl,r4,qv⟩:=qv.cons_inv;obtain ⟨u5,us,rfl,r5,qv⟩:=qv.cons_inv;obtain rfl:=qv.nil_inv;obtain ⟨a0,l0,q0,rfl⟩:=y7 r0;obtain rfl:=r1.x_inv;obtain rfl:=r2.x_inv;obtain ⟨a3,l3,q3,rfl⟩:=y7 r3;obtain ⟨a4,l4,q4,rfl⟩:=y7 r4;obtain ⟨a5,l5,q5,rfl⟩:=y7 r5;refine Zm1 (e.blk q) str a0 a3 a4 a5 l0 q0 l3 q3 l4 q4 l5 q5 s.pl s.ph w qh (FT W n s) (λy=>e.own y=some q\/e.own y=some r\/e.own y=some t) (λy hy=>by rcases hy with hy|hy|hy<;>exact (hEv.owned _ _ hy).2) (Xv4 e w0 T q r t s (D1 W s) (FT W n s)) ?_
 intro w2 hG jA;have st:Step e e w w2:=⟨λb hb hro=>⟨hro,jA b hb⟩,λk hk=>⟨hk,rfl,rfl⟩,hG.size⟩;have hE2:UY e w0.heap.size w2:=⟨λx hx=>⟨(hEv.apart x hx).1,xV (hEv.apart x hx).2 hG.size⟩,λx k hk=>⟨(hEv.owned x k hk).1,xV (hEv.owned x k hk).2 hG.size⟩,hEv.glob.step st⟩;have hB2:Below w0.heap.size w0 w2:=⟨hG.os.trans hB.os,hG.tape.trans hB.tape,hG.output.trans hB.output,Ar hB.size hG.size,λx hx=>(jA x (xV hx hB.size)).trans (hB.block x hx)⟩;have same: ∀{k:Nat} {R:GO},Xj4 R=false->GH e w k R->GH e w2 k R:=λha hh=>LK st (λx hx=>⟨hx,jA x (hEv.owned _ _ hx).2⟩) ha hh;have hx:=Zg4 W s;refine (Zn0 (Qo9 h hs) hx hE2 hB2 hT (same rfl hq0) (same rfl hr) (same rfl ht) hqr hqt hrt hrv htv).mono ?_;rintro en w3 ⟨rfl,g2,g3,g4,g5⟩;refine ⟨Xm5 _,⟨g3,g2.os.trans hB2.os.symm,g2.tape.trans hB2.tape.symm,g2.output.trans hB2.output.symm⟩,λy hy hn=>?_,?_,g2,g4,g5⟩;rcases An y w0.heap.size with h1|h1;exact (g2.block y h1).trans (hB2.block y h1).symm;exact g4 y (.inr ⟨h1,hy,λh=>hn (.inl h),λh=>hn (.inr (.inl h)),λh=>hn (.inr (.inr h))⟩);obtain ⟨ro1,_,_,_,⟨_,_,vs1,k0,k1⟩,_⟩:=g5;have hl:vs1.length=6:=by
  rw [←k1.1];cases (rsE (FT W n s)).1<;>rfl
 match vs1,hl,k0 with
 |[c0,c1,c2,c3,c4,c5],_,k0=>exact ⟨c0,c1,c2,c3,c4,c5,k0⟩
theorem Qb4{w w':World}{T sz n:Nat}{v:Value}{xs:List Value}(h:w.ownsRow 0 T sz v n xs)(k: ∀b,v.ownBlock=some b->w'.heap[b]? =w.heap[b]?):w'.ownsRow 0 T sz v n xs:=by
 refine ⟨h.1,?_⟩;rcases h.2 with h2|⟨g,cap,cur,rfl,h3,h4,h5⟩;exact .inl h2;exact .inr ⟨g,cap,cur,rfl,h3,(k g rfl).trans h4,h5⟩
theorem Zm2{str:ByteArray}{n:Nat}{W:Cf}{s:HS}(h:vO str n W)(hs:fP s)
  {e:UL}{w0 w:World}{T:Nat->Prop}{q r t:Nat}(hEv:UY e w0.heap.size w)(hB:Below w0.heap.size w0 w)(hT: ∀b,T b->b<w0.heap.size/\ ¬e.ro b)
  (hq:GH e w q (.cells 99 (hsL s)))(hr:GH e w r (.row 23 1 s.xn s.xg))(ht:GH e w t (.row 9 1 s.yn s.yg))(hqr:q≠r)(hqt:q≠t)(hrt:r≠t)(hrv: ∃a b c,e.val r= .slice a b c)(htv: ∃a b c,e.val t= .slice a b c)
  (hxx: ∀i,i<s.xn-> ∀a∈s.xg i,∃u,a= .x u)(hyy: ∀i,i<s.yn-> ∀a∈s.yg i,∃u,a= .x u):
  Calls Tryz.prog 63 #[.pointer (some ⟨e.blk q,0,none⟩),.string str] w λen w'=>en= .returned (.int .i64 (FT W n s))/\Below w0.heap.size w0 w'/\w.heap.size<=w'.heap.size/\(∀x,e.ro x->w'.heap[x]? =w.heap[x]?)/\
   ∃ro1:Nat->Prop,(∀x,e.ro x->ro1 x)/\(∀x,T x-> ¬ro1 x)/\UY {e with ro:=ro1,own:=LP e q r t} w0.heap.size w'/\
    GH {e with ro:=ro1,own:=LP e q r t} w' q (.cells 99 (hsL (if FT W n s=0 then D1 W s else s)))/\GH {e with ro:=ro1,own:=LP e q r t} w' r (.row 23 1 s.xn s.xg)/\GH {e with ro:=ro1,own:=LP e q r t} w' t (.row 9 1 s.yn s.yg):=by
 refine (Zm3 h hs hEv hB hT hq hr ht hqr hqt hrt hrv htv).mono ?_;rintro en w' ⟨rfl,w2,w3,G1,e1,⟨B3,K3,ro1,R1,R2,R3,R4,R5,R6⟩,G2,G3,O1,O2,O3⟩;have hro: ∀x,e.ro x->x<w.heap.size/\x≠e.blk q:=λx hx=>⟨(hEv.apart x hx).2,λh=>by
  have h1:=(hEv.apart x hx).1;rw [h,hq.2.1] at h1;cases h1⟩
 have hqlt:e.blk q<w.heap.size:=(hEv.owned _ _ hq.2.1).2;have lt3: ∀{x},x<w.heap.size->x<w3.heap.size:=λh=>xV h (Ar G1.size G2.size);have hsz:w.heap.size<=w'.heap.size:=Ar (Ar G1.size G2.size) G3.size;have keep: ∀x,e.ro x->w'.heap[x]? =w.heap[x]? :=λx hx=>by
  rw [O1 x (lt3 (hro x hx).1) (hro x hx).2 (by have:=(hro x hx).1;omega),K3 x (.inl hx)]
  exact e1 x (hro x hx).1
 have b0:w0.heap.size<=e.blk q:=(hEv.owned _ _ hq.2.1).1;have hBel:Below w0.heap.size w0 w':=⟨G3.os.trans B3.os,G3.tape.trans B3.tape,G3.output.trans B3.output,Ar B3.size G3.size,λx hx=>by
  rw [O1 x (lt3 (xV hx hB.size)) VJ (by have:=hB.size;omega)]
  exact B3.block x hx⟩
 refine ⟨rfl,hBel,hsz,keep,?_⟩;by_cases he:FT W n s=0;have HZ:=O3 he;have hb:(rsE (FT W n s)).1=true:=by rw [he];rfl
 rw [hb] at R4;rw [if_pos he];have st:Step {e with ro:=ro1,own:=LP e q r t} {e with ro:=ro1,own:=LP e q r t} w3 w':=⟨λb _ hr=>⟨hr,HZ b⟩,λk hk=>⟨hk,rfl,rfl⟩,G3.size⟩
 exact ⟨ro1,R1,R2,⟨λx hx=>⟨(R3.apart x hx).1,xV (R3.apart x hx).2 G3.size⟩,λx k hk=>⟨(R3.owned x k hk).1,xV (R3.owned x k hk).2 G3.size⟩,R3.glob.step st⟩,LK st (λx hx=>⟨hx,HZ x⟩) rfl R4,LK st (λx hx=>⟨hx,HZ x⟩) rfl R5,LK st (λx hx=>⟨hx,HZ x⟩) rfl R6⟩;rw [if_neg he] at O2;rw [if_neg he];have st:Step e {e with own:=LP e q r t} w w':=⟨λb _ hr=>⟨hr,keep b hr⟩,λk hk=>⟨hk,rfl,rfl⟩,hsz⟩
 obtain ⟨ql,qo,vs,qh,qv⟩:=hq;have H9: ∀{x j},LP e q r t x=some j->w0.heap.size<=x/\x<w.heap.size:=by
  intro x j hj;unfold LP at hj;split at hj;rename_i h;rw [h];exact hEv.owned _ _ qo;split at hj;rename_i h;exact hEv.owned _ _ (hr.2.1 x h);split at hj;rename_i h;exact hEv.owned _ _ (ht.2.1 x h);cases hj
 have I5: ∀{k:Nat},k≠q->(∀b,(e.val k).ownBlock=some b->e.own b=some k)-> ∀b,(e.val k).ownBlock=some b->w'.heap[b]? =w3.heap[b]? :=by
  intro k hk ho b hb;have h1:=hEv.owned _ _ (ho b hb);refine O1 b (lt3 h1.2) (λh=>?_) (by have:=h1.2;omega)
  have h2:=ho b hb;rw [h,qo] at h2;exact hk (Bb h2).symm
 refine ⟨e.ro,λ_ h=>h,λx hx=>(hT x hx).2,⟨λx hx=>⟨?_,xV (hEv.apart x hx).2 hsz⟩,λx k hk=>⟨(H9 hk).1,xV (H9 hk).2 hsz⟩,hEv.glob.step st⟩,⟨ql,if_pos rfl,vs,O2.trans qh,qv.step st⟩,?_,?_⟩;have h0:=(hEv.apart x hx).1;show LP e q r t x=none;unfold LP;rw [if_neg (hro x hx).2,if_neg (λh=>by rw [hr.2.1 x h] at h0;cases h0),if_neg (λh=>by rw [ht.2.1 x h] at h0;cases h0)]
 obtain ⟨l5,o5,f5,xs5,p5,r5⟩:=R5;refine ⟨l5,o5,f5,xs5,Qb4 p5 (I5 hqr.symm hr.2.1),λi j a v O ha hv=>?_⟩;obtain ⟨u,rfl⟩:=hxx i O a (F5 ha);rw [(r5 i j _ v O ha hv).x_inv];exact .x _;obtain ⟨l6,o6,f6,xs6,p6,r6⟩:=R6;refine ⟨l6,o6,f6,xs6,Qb4 p6 (I5 hqt.symm ht.2.1),λi j a v O ha hv=>?_⟩;obtain ⟨u,rfl⟩:=hyy i O a (F5 ha);rw [(r6 i j _ v O ha hv).x_inv];exact .x _
def UL.nilAt(e:UL)(nx:Nat):UL:={ro:=e.ro,own:=e.own,live:=λk=>k=nx\/e.live k,blk:=e.blk,val:=λk=>if k=nx then .slice none 0 0 else e.val k}
theorem EP{e:UL}{nx:Nat}{w:World}(h: ¬e.live nx):Step e (UL.nilAt e nx) w w:=⟨λ_ _ h=>⟨h,rfl⟩,λk hk=>⟨.inr hk,rfl,by
 have:k≠nx:=λh'=>h (h'▸hk);simp [UL.nilAt,this]⟩,Am _⟩
theorem Wg6{e:UL}{nx B:Nat}{w:World}(h: ¬e.live nx)(hE:UY e B w):UY (UL.nilAt e nx) B w:=⟨hE.apart,hE.owned,hE.glob.step (EP h)⟩
theorem Qo1(e:UL)(nx:Nat)(w:World)(T n:Nat)(f:Ci)(h:n=0):GH (UL.nilAt e nx) w nx (.row T 1 n f):=by
 subst h;refine ⟨.inl rfl,λb hb=>?_,λi O=>absurd O (Aq i),[],?_,λi j a v O=>absurd O (Aq i)⟩;simp [UL.nilAt,Value.ownBlock] at hb;have:(UL.nilAt e nx).val nx= .slice none 0 0:=by simp [UL.nilAt]
 rw [this];exact World.ownsRow_nil w 0 T 1
theorem NO{e:UL}{w:World}{k T sz n:Nat}{f:Ci}(h:GH e w k (.row T sz n f)): ∃a b c,e.val k= .slice a b c:=by
 obtain ⟨_,_,_,xs,h4,_⟩:=h;rcases h4.2 with ⟨h5,_⟩|⟨g,cap,cur,h5,_⟩;exact ⟨_,_,_,h5⟩;exact ⟨_,_,_,h5⟩
def HW(s:ByteArray)(k:Nat):ByteArray:=(spl s ⟨#[32]⟩).getD k ByteArray.empty
def lnN(s:ByteArray):Nat:=Lib.countB s ⟨#[32]⟩+1
theorem fX(sep:ByteArray): ∀(k:Nat) (s:ByteArray),∀x∈Lib.splitB sep 0 k s,x.size<=s.size
 | 0,s,x,hx=>by
  simp only [Lib.splitB,GM,DL,or_false] at hx;rw [hx];exact Am _
 |k+1,s,x,hx=>by
  unfold Lib.splitB at hx;split at hx;simp only [GM,DL,or_false] at hx;rw [hx];exact Am _;rcases GM.1 hx with rfl|hx;rw [ByteArray.size_extract];omega;have:=fX sep k _ x hx;rw [ByteArray.size_extract] at this;omega
section
variable (s:ByteArray)
theorem O7(h:s.size<100000):vO s (lnN s) (HW s):=by
 refine ⟨h,rfl,λk _=>rfl,λk=>?_⟩;unfold HW;rw [List.getD_eq_getElem?_getD];cases he:(spl s ⟨#[32]⟩)[k]? with
 |none=>exact Ao _
 |some x=>
  have:=fX _ _ _ x (F5 he);show x.size<=100000;omega
def lnE(x:HS):Int:=FT (HW s) (lnN s) x
def lnS(x:HS):HS:=if lnE s x=0 then D1 (HW s) x else x
end
def hsX(s:HS)(n:Nat)(g:Ci)(n':Nat)(g':Ci):HS:={s with xn:=n,xg:=g,yn:=n',yg:=g'}
theorem tZ(W:Cf)(n:Nat)(s:HS)(k k':Nat)(g g':Ci):FT W n (hsX s k g k' g')=FT W n s:=by
 unfold FT;split<;>rfl
theorem Xf9(W:Cf)(s:HS)(k k':Nat)(g g':Ci):D1 W (hsX s k g k' g')=hsX (D1 W s) k g k' g':=by
 unfold D1;split<;>rfl
theorem Zo5{s:HS}(h:fP s)(k k':Nat)(g g':Ci):fP (hsX s k g k' g'):=⟨h.nr,h.bV,h.nc,h.sV⟩
theorem Zm9{s:HS}(h:fP s)(str:ByteArray):fP (lnS str s):=by
 unfold lnS;split;rename_i h0;exact Xf8 h h0;exact h
def hs0:HS:={nr:=0,ra:=λ_=>0,rb:=λ_=>0,ru:=λ_=>0,rv:=λ_=>0,pl:=760,ph:=760,nb:=0,ql:=λ_=>0,qh:=λ_=>0,qm:=λ_=>0,qr:=λ_ _=>0,qv:=λ_ _=>0,nc:=0,ca:=λ_=>0,cb:=λ_=>0,cc:=λ_=>0,cd:=λ_=>0,cv:=λ_=>false,ns:=0,sa:=λ_=>0,sb:=λ_=>0,sc:=λ_=>0,sl:=λ_=>0,sh:=λ_=>0,xn:=0,xg:=λ_=>[],yn:=0,yg:=λ_=>[] }
def sK(L:Cf):Nat->HS
 | 0=>hs0
 |k+1=>lnS (L k) (sK L k)
def eK(L:Cf)(k:Nat):Int:=lnE (L k) (sK L k)
def exG(L:Cf)(j:Nat):List AV:=[.x (.int .i64 (eK L j))]
theorem Zo7:fP hs0:=⟨Ao _,⟨⟨Ao _,λb hb=>absurd hb (Aq b)⟩,λb hb=>absurd hb (Aq b)⟩,Ao _,⟨Ao _,λk hk=>absurd hk (Aq k)⟩⟩
theorem jN(L:Cf): ∀k,fP (sK L k)
 | 0=>Zo7
 |k+1=>Zm9 (jN L k) (L k)
def AM(L:Cf)(N r:Nat):D2:=λavs m nx sv=>match avs with
 |[.ptr q 0,.x (.string str')]=>match DG m q with
  |some (.cells T l)=>match DG m r with
   |some (.row T1 sz1 n1 f1)=>match Nat.beq T 99&&Nat.beq T1 23&& !Nat.beq q r with
    |true=>some (.needT [n1<N,l=hsL (sK L n1),HB str'= .x (.string (L n1)),sz1=1,f1=exG L] (.leaf (.x (.int .i64 (eK L n1)),[(q,.cells 99 (hsL (sK L (n1+1)))),(r,.row 23 1 n1 (exG L))],nx+1,sv)))
    |false=>none
   |_=>none
  |_=>none
 |_=>none
theorem Wg7{L:Cf}{N r:Nat}(hL: ∀k,k<N->(L k).size<100000):
  GB VO 63 (AM L N r):=by
 refine ⟨(UJ Tryz.func63),?_⟩;intro avs m nx sv tr ht Q hQ cx w0 T e ds args w hE hB hm hlv LQ hxt hr;unfold AM at ht;split at ht;rename_i q str';split at ht;rename_i T l h1;split at ht;rename_i T1 sz1 n1 f1 h2;split at ht;rename_i hb;rw [GU,GU] at hb;obtain ⟨⟨hb1,hb2⟩,hb3⟩:=hb;obtain rfl:=GZ hb1;obtain rfl:=GZ hb2;have hqr:q≠r:=by
  rintro rfl;simp at hb3
 cases ht;obtain ⟨hn,hq⟩:=VM.sat_needT hQ;have hn:=GE hn;have e0:n1<N:=hn _ VT;have e1:l=hsL (sK L n1):=hn _ VT;have e2:HB str'= .x (.string (L n1)):=hn _ VT;have e3:sz1=1:=hn _ VT;have e5:f1=exG L:=hn _ VT;have e2:str'=L n1:=by
  injection e2 with e2
  injection e2
 subst e1 e2 e3 e5;obtain ⟨v0,l1,rfl,r1,hr⟩:=hr.cons_inv;obtain ⟨v1,l2,rfl,r2,hr⟩:=hr.cons_inv;obtain rfl:=hr.nil_inv;obtain rfl:=r2.x_inv;have hv0:v0= .pointer (some ⟨e.blk q,0,none⟩):=by cases r1;rfl
 subst hv0;have hid: ¬e.live nx:=λh=>Bf _ (hlv _ h);have hQ0:=hm _ (UW h1);have hR0:=hm _ (UW h2);have hqn:q≠nx:=λh=>hid (h▸hQ0.1);have hrn:r≠nx:=λh=>hid (h▸hR0.1);have st0:=EP (w:=w) hid;have hQ1:GH (UL.nilAt e nx) w q (.cells 99 (hsL (sK L n1))):=LK st0 (λx hx=>⟨hx,rfl⟩) rfl hQ0;have hR1:GH (UL.nilAt e nx) w r (.row 23 1 n1 (exG L)):=LK st0 (λx hx=>⟨hx,rfl⟩) rfl hR0;have hT1:=Qo1 e nx w 9 0 (λ_=>[]) rfl;have h:=O7 _ (hL n1 e0);have hs:=Zo5 (jN L n1) n1 0 (exG L) (λ_=>[]);have hxx: ∀i,i<n1-> ∀a∈exG L i,∃u,a= .x u:=λi _ a ha=>⟨_,PM.1 ha⟩;refine (Zm2 h hs (Wg6 hid hE) hB LQ hQ1 hR1 hT1 hqr hqn hrn (NO hR1) (NO hT1) hxx (λi O=>absurd O (Aq i))).mono ?_;rintro en w' ⟨rfl,g1,g2,g3,ro1,g4,g5,g6,g7,g8,g9⟩;have st:Step e {UL.nilAt e nx with ro:=ro1,own:=LP (UL.nilAt e nx) q r nx} w w':=⟨λb _ hb=>⟨g4 b hb,g3 b hb⟩,λk hk=>⟨.inr hk,rfl,(st0.live k hk).2.2⟩,g2⟩
 rw [tZ,Xf9] at g7;have g7:GH {UL.nilAt e nx with ro:=ro1,own:=LP (UL.nilAt e nx) q r nx} w' q (.cells 99 (hsL (sK L (n1+1)))):=by
  show GH _ w' q (.cells 99 (hsL (lnS (L n1) (sK L n1))));unfold lnS lnE;by_cases h0:FT (HW (L n1)) (lnN (L n1)) (sK L n1)=0;rw [if_pos h0] at g7 ⊢;exact g7;rw [if_neg h0] at g7 ⊢;exact g7
 rw [tZ];refine ⟨_,_,_,_,_,{UL.nilAt e nx with ro:=ro1,own:=LP (UL.nilAt e nx) q r nx},rfl,hq,g6,g1,?_,?_,λb hb=>⟨(LQ b hb).1,g5 b hb⟩,hxt.step st,.x _⟩
 intro p hp;simp only [GM,DL,or_false] at hp;rcases hp with rfl|rfl;exact g7;exact g8;rintro k (rfl|hk);exact Bk _;exact Nat.lt_succ_of_lt (hlv k hk);cases ht;cases ht;cases ht;cases ht
def cvB:GO->GO
 | .cells T [.x (.slice none 0 0),.x (.int .i64 a),.x (.int .i64 b),.x (.slice none 0 0),.x (.slice none 0 0),.x (.slice none 0 0)]=> .cells T [hsR hs0,i a,i b,hsB hs0,hsC hs0,hsS hs0]
 |r=>r
def cvM:H2->H2
 |[]=>[]
 |(k,r)::t=>(k,cvB r)::cvM t
noncomputable def tK:D2:=λavs m nx sv=>match nH avs m nx sv with
 |some t=>some (t.bind λp=> .leaf (p.1,cvM p.2.1,p.2.2.1,p.2.2.2))
 |none=>none
theorem Zq8{e:UL}{w:World}{k:Nat}{r:GO}(h:GH e w k r):GH e w k (cvB r):=by
 unfold cvB;split;rename_i T a b;obtain ⟨h1,h2,vs,h3,h4⟩:=h;refine ⟨h1,h2,vs,h3,?_⟩;obtain ⟨u0,us,rfl,r0,h4⟩:=h4.cons_inv;obtain ⟨u1,us,rfl,r1,h4⟩:=h4.cons_inv;obtain ⟨u2,us,rfl,r2,h4⟩:=h4.cons_inv;obtain ⟨u3,us,rfl,r3,h4⟩:=h4.cons_inv;obtain ⟨u4,us,rfl,r4,h4⟩:=h4.cons_inv;obtain ⟨u5,us,rfl,r5,h4⟩:=h4.cons_inv;obtain rfl:=h4.nil_inv;obtain rfl:=r0.x_inv;obtain rfl:=r3.x_inv;obtain rfl:=r4.x_inv;obtain rfl:=r5.x_inv;exact .cons (.lstNil _ _) (.cons r1 (.cons r2 (.cons (.lstNil _ _) (.cons (.lstNil _ _) (.cons (.lstNil _ _) (.nil _ _))))));exact h
theorem Wu5{e:UL}{w:World}: ∀{m:H2},UV e m w->UV e (cvM m) w
 |[],_,p,hp=>by cases hp
 |(k,r)::t,h,p,hp=>by
  rcases GM.1 hp with rfl|hp;exact Zq8 (h (k,r) GD);exact Wu5 (m:=t) (λq hq=>h q (HL _ hq)) p hp
theorem Qf8:GB VO 67 tK:=by
 refine ⟨IC.1,?_⟩;intro avs m nx sv t ht Q hQ c w0 T e ds args w hE hB hm hl LQ hxt hr;unfold tK at ht;split at ht;rename_i t0 h0;cases ht;refine (IC.2 _ _ _ _ _ h0 _ (VM.sat_bind hQ) c w0 T e ds args w hE hB hm hl LQ hxt hr).mono ?_;rintro en w' ⟨v,r,m',nx',sv',e',q1,q2,q3,q4,q5,q6,q7,q8,q9⟩;exact ⟨v,r,cvM m',nx',sv',e',q1,q2,q3,q4,Wu5 q5,q6,q7,q8,q9⟩;cases ht
theorem eT{L:Cf}{n:Nat}(h: ∀k,k<n->(L k).size<100000):GB VO 63 (AM L n 902):=Wg7 h
abbrev KT:AV:=lst 3 0 λk=>[iI (hs0.ql k),iI (hs0.qh k),lst 2 0 λj=>[iI (hs0.qr k j),iI (hs0.qv k j)]]
section
variable (n:Nat)(L:Cf)
def Zu7:St:={σ:=[Q6 n L,top,QD,Q9,ptr 900 0,top,top,top,top,Q6 n L,iI (n:Int)]++HI 13 [],m:=[(902,GO.row 23 1 0 λx=>[]),(900,GO.cells 99 [hR 0 hs0,iI 760,iI 760,KT,hC 0 hs0,hT 0 hs0])],nx:=903}
noncomputable def Jv1:Code:=U9 (VS (U7 Tryz.f37) 0)
def Wk5(k:Nat):St:={σ:=GY [(4,.ptr 900 0),(5,.row 902),(7,.top),(11,i k)] (Zu7 n L).σ,m:=[(902,.row 23 1 k (exG L)),(900,.cells 99 (hsL (sK L k)))],nx:=903}
def CU(k:Nat):G5->Option St
 | .exit 0=>some {σ:=GY [(4,.ptr 900 0),(5,.row 902),(7,.top),(11,i n)] (Zu7 n L).σ,m:=[(902,.row 23 1 n (exG L)),(900,.cells 99 (hsL (sK L n)))],nx:=903}
 |_=>none
def Jq3:CT:= .leaf (.exit 0,(CU n L 0 (.exit 0)).getD (Zu7 n L))
def Xz5:UG:=GJ [(.slot 4,900,0,2),(.slot 5,902,23,1)] (HF (Wk5 n L (0)) (Jq3 n L))
end
abbrev Y9:Prop:=ptr 900 0=ptr 900 0
noncomputable abbrev YY(L:Cf)(n:Nat):Ext:={R:=[],H:=[(67,tK),(63,(AM L n 902))] }
section
variable (n:Nat)(L:Cf)
theorem Jf4(VR:n<=50)(UE: ∀k,k<n->(L k).size<100000):G6 VO (.loop Jv1) (Xz5 n L):=by
 refine UR [(.slot 4,900,0,2),(.slot 5,902,23,1)] (L:=[]) Aa (Ai Ab (Ag Qf8 (Ag (eT UE) Ac))) VZ U2 (X:=Nat) (Wk5 n L) (λk=>k<=n) (λk=>n-k) (CU n L) (x0:=0) VT ?_ ?_ ?_;rintro k;kernel_rfl;rintro k y E h;unfold CU at h;split at h;cases h;kernel_rfl;cases h;rintro Q hQ k hx;refine ⟨(k+1),?_⟩;(with_reducible refine D9 (t:=branch (decide ((k:Int)<(n:Int))) (need [UI k n] (need [k<n,VY (hL (sK L k)),VY (HB (L k)),1=1,exG L=exG L] (need [(k+1)*8<=140737488355328,RP 1 (U4 1 [iI (eK L k)])] (need [VL ((k:Int)+1)] (need [VY (Q6 n L),QD=QD,Q9=Q9,Y9,W8,VY (Q6 n L),VY (n:Int),(k:Int)+1=(↑(k+1):Int),k+1=k+1,GV (k+1) (GI k (exG L) (U4 1 [iI (eK L k)])) (exG L),VY (hR ((sK L (k+1)).nr) (sK L (k+1))),VY ((sK L (k+1)).pl),VY ((sK L (k+1)).ph),VY (hY ((sK L (k+1)).nb) (sK L (k+1))),VY (hC ((sK L (k+1)).nc) (sK L (k+1))),VY (hT ((sK L (k+1)).ns) (sK L (k+1)))] (leaf G5.normal)))))) (need [VY (Q6 n L),QD=QD,Q9=Q9,Y9,W8,VY (Q6 n L),VY (n:Int),(k:Int)=(n:Int),k=n,GQ n (exG L),(hR ((sK L k).nr) (sK L k))=hR ((sK L n).nr) (sK L n),(sK L k).pl=(sK L n).pl,(sK L k).ph=(sK L n).ph,(hY ((sK L k).nb) (sK L k))=hY ((sK L n).nb) (sK L n),(hC ((sK L k).nc) (sK L k))=hC ((sK L n).nc) (sK L n),(hT ((sK L k).ns) (sK L k))=hT ((sK L n).ns) (sK L n)] (leaf (G5.exit 0)))) VU ?_);simp only [Jq3,CU,VM.sat,GS] at hQ;simp only [VM.sat,UB,G0,GL,UD,VL,UH,HA,FU,R9,RQ,GN,CU]
 refine ⟨λh=>?_,λh=>?_⟩
 ·have hk:k<n:=VJ;have hq: ∀j,j<k+1->GI k (exG L) (U4 1 [i (eK L k)]) j=exG L j:=λj hj=>Pt.catF1 (a:=eK L) hj rfl
  (with_reducible repeat' first|apply Al|intro _)
  all_goals first|exact PO|(first|exact hq _ (by assumption)|exact FC (by assumption) (by simp [AV.one,Value.oneCell']))
 ·obtain rfl:k=n:=VJ
  (with_reducible repeat' first|apply Al|intro _)
  all_goals first|exact PO|(assumption)
theorem iS(VR:n<=50)(UE: ∀k,k<n->(L k).size<100000):UN VO 37 [lns n L] (.leaf (.tup [.ro (hsL (sK L n)),.lst 1 n (exG L)])):=by
 refine GT (L:=[Xz5 n L]) Aa (Ai Ab (Ag Qf8 (Ag (eT UE) Ac))) VZ Tryz.func37 (UU Tryz.f37) (G7 (lpE (b:= .loop Jv1) VU<|(Jf4 n L VR UE).N)) (t:=need [VY (Q6 n L),QD=QD,Q9=Q9,Y9,W8,VY (Q6 n L),VY (n:Int),(0:Int)=((0:Nat):Int),0=0,GV 0 (λi=>[]) (exG L),(hR 0 hs0)=hR 0 (sK L 0),(760:Int)=(sK L 0).pl,(760:Int)=(sK L 0).ph,(KT)=lst 3 0 λk=>[iI ((sK L 0).ql k),iI ((sK L 0).qh k),lst 2 0 λj=>[iI ((sK L 0).qr k j),iI ((sK L 0).qv k j)]],(hC 0 hs0)=hC 0 (sK L 0),(hT 0 hs0)=hT 0 (sK L 0)] (leaf (tup [AV.ro (hL (sK L n)),lst 1 n λj=>[iI (eK L j)]]))) VU ?_
 intro Q hQ;simp only [VM.sat,UB,UH,VL,F4] at hQ ⊢
 (with_reducible repeat' first|apply Al|intro _)
 all_goals first|exact Ak|omega|rfl|assumption|exact ⟨.tup [.ro (hsL (sK L n)),.lst 1 n (exG L)],⟨rfl,⟨rfl,rfl,λ_ _=>rfl⟩,Ak⟩,hQ⟩
end
def baG(s:HS)(k:Nat):List AV:=[i (s.ql k),i (s.qh k),.lst 2 (s.qm k) (λj=>[i (s.qr k j),i (s.qv k j)])]
def hsN(s:HS):Prop:=s.nr<=1000/\s.nb<=1000/\s.nc<=1000/\s.ns<=1000/\ ∀b,b<s.nb->s.qm b<=1000
theorem Jl0(n:Nat)(a b u v:Cg):gdX 4 n (λk=>[i (a k),i (b k),i (u k),i (v k)]):=λk _=>⟨rfl,λx hx=>by
 simp only [GM,DL,or_false] at hx;rcases hx with rfl|rfl|rfl|rfl<;>exact ⟨Ak,by simp [AV.one,Value.oneCell']⟩⟩
theorem Jl1(n:Nat)(a b c d:Cg)(v:Nat->Bool):gdX 5 n (λk=>[i (a k),i (b k),i (c k),i (d k),bl (v k)]):=λk _=>⟨rfl,λx hx=>by
 simp only [GM,DL,or_false] at hx;rcases hx with rfl|rfl|rfl|rfl|rfl<;>exact ⟨Ak,by simp [AV.one,Value.oneCell']⟩⟩
theorem Jk9(n:Nat)(a b c d v:Cg):gdX 5 n (λk=>[i (a k),i (b k),i (c k),i (d k),i (v k)]):=λk _=>⟨rfl,λx hx=>by
 simp only [GM,DL,or_false] at hx;rcases hx with rfl|rfl|rfl|rfl|rfl<;>exact ⟨Ak,by simp [AV.one,Value.oneCell']⟩⟩
theorem Jk8(n:Nat)(a b:Cg):gdX 2 n (λk=>[i (a k),i (b k)]):=λk _=>⟨rfl,λx hx=>by
 simp only [GM,DL,or_false] at hx;rcases hx with rfl|rfl<;>exact ⟨Ak,by simp [AV.one,Value.oneCell']⟩⟩
theorem Zr4{s:HS}{k j:Nat}(hj:j<k+1):GI k (baG s) (U4 3 [i (s.ql k),i (s.qh k),.lst 2 (s.qm k) (λj=>[i (s.qr k j),i (s.qv k j)])]) j=baG s j:=by
 rcases (show j<k\/j=k by omega) with h|rfl
 show H6 (decide (j<k)) _ _=_;rw [decide_eq_true h,show j-k=0 by omega]
 rfl;show H6 (decide (j<j)) _ _=_;rw [show decide (j<j)=false by simp,Bs]
 rfl
section
variable (s:HS)
def Zw6:St:={σ:=[agg (hL s),ptr 0 0,ptr 1 0,ptr 900 0]++HI 15 [hY s.nb s,iI (↑s.nb:Int)]++HI 17 [],m:=[(901,GO.row 148 3 0 λx=>[]),(900,GO.cells 43 [hR s.nr s,iI s.pl,iI s.ph,AV.row 901,hC s.nc s,hT s.ns s]),(1,GO.cells 43 [Q9,iI 0,iI 0,Q9,Q9,Q9]),(0,GO.cells 43 (hL s))],nx:=902}
noncomputable def Jx1:Code:=U9 (VS (U7 Tryz.f60) 0)
def Wm9(k:Nat):St:={σ:=GY [(3,.ptr 900 0),(5,.top),(21,i k)] (Zw6 s).σ,m:=[(901,.row 148 3 k (baG s)),(900,.cells 43 [hsR s,i s.pl,i s.ph,.row 901,hsC s,hsS s]),(1,(.cells 43 [.x (.slice none 0 0),i 0,i 0,.x (.slice none 0 0),.x (.slice none 0 0),.x (.slice none 0 0)])),(0,.cells 43 (hsL s))],nx:=902}
def ED(k:Nat):G5->Option St
 | .exit 0=>some {σ:=GY [(3,.ptr 900 0),(5,.top),(21,i s.nb)] (Zw6 s).σ,m:=[(901,.row 148 3 s.nb (baG s)),(900,.cells 43 [hsR s,i s.pl,i s.ph,.row 901,hsC s,hsS s]),(1,(.cells 43 [.x (.slice none 0 0),i 0,i 0,.x (.slice none 0 0),.x (.slice none 0 0),.x (.slice none 0 0)])),(0,.cells 43 (hsL s))],nx:=902}
 |_=>none
def Js7:CT:= .leaf (.exit 0,(ED s 0 (.exit 0)).getD (Zw6 s))
def Zc2:UG:=GJ [(.slot 3,900,0,2),(.cell 900 3,901,148,3)] (HF (Wm9 s (0)) (Js7 s))
abbrev Y7:List (Nat×UX):=[(99,sY),(100,sZ),(101,sX),(102,sW)]
theorem Jn2(VR:hsN s):G6 VO (.loop Jx1) (Zc2 s):=by
 refine UR [(.slot 3,900,0,2),(.cell 900 3,901,148,3)] (L:=[]) (Ae Qd9 (Ae Qe0 (Ae Qd8 (Ae Qd7 Aa)))) Ad VZ U2 (X:=Nat) (Wm9 s) (λk=>k<=s.nb) (λk=>s.nb-k) (ED s) (x0:=0) VT ?_ ?_ ?_;rintro k;kernel_rfl;rintro k y E h;unfold ED at h;split at h;cases h;kernel_rfl;cases h;rintro Q hQ k hx;refine ⟨(k+1),?_⟩;(with_reducible refine D9 (t:=let z0:=(lst 2 (s.qm k) λj=>[iI (s.qr k j),iI (s.qv k j)]);(branch (decide ((k:Int)<(↑s.nb:Int))) (need [UI k s.nb] (need [s.qm k<=100000,gdX 2 (s.qm k) λj=>[iI (s.qr k j),iI (s.qv k j)]] (need [(k+1)*40<=140737488355328,RP 1 (U4 3 [iI (s.ql k),iI (s.qh k),z0])] (need [VL ((k:Int)+1)] (need [VY (agg (hL s)),QO,WR,Y9,Z0 s,VY (↑s.nb:Int),(k:Int)+1=(↑(k+1):Int),k+1=k+1,GV (k+1) (GI k (baG s) (U4 3 [iI (s.ql k),iI (s.qh k),z0])) (baG s),XL s,JU s,JV s,W2,XR s,XS s,Q9=Q9,QN,QN,Q9=Q9,Q9=Q9,Q9=Q9,XL s,JU s,JV s,Z0 s,XR s,XS s] (leaf G5.normal)))))) (need [VY (agg (hL s)),QO,WR,Y9,Z0 s,VY (↑s.nb:Int),(k:Int)=(↑s.nb:Int),k=s.nb,∀(i:Nat),i<s.nb->baG s i=baG s i,XL s,JU s,JV s,W2,XR s,XS s,Q9=Q9,QN,QN,Q9=Q9,Q9=Q9,Q9=Q9,XL s,JU s,JV s,Z0 s,XR s,XS s] (leaf (G5.exit 0))))) VU ?_)
 simp only [Js7,ED,VM.sat,GS] at hQ;simp only [VM.sat,UB,G0,GL,UD,VL,UH,HA,FU,R9,RQ,GN,ED]
 obtain ⟨h1,h2,h3,h4,h5⟩:=VR;refine ⟨λh=>?_,λh=>?_⟩
 ·have hk:k<s.nb:=VJ;have h6:=h5 k hk
  (with_reducible repeat' first|apply Al|intro _)
  all_goals first|exact PO|(first|exact Jk8 _ _ _|exact FC (by assumption) (by simp [AV.one,Value.oneCell'])|exact Zr4 (by assumption))
 obtain rfl:k=s.nb:=VJ;exact V0
theorem pT(VR:hsN s):UN VO 60 [.agg (hsL s)] (.leaf (.agg (hsL s))):=by
 refine GT (L:=[Zc2 s]) (Ae Qd9 (Ae Qe0 (Ae Qd8 (Ae Qd7 Aa)))) Ad VZ Tryz.func60 (UU Tryz.f60) (G7 (lpE (b:= .loop Jx1) VU<|(Jn2 s VR).N)) (t:=need [s.nr<=100000,gdX 4 s.nr λk=>[Bo.i (s.ra k),Bo.i (s.rb k),Bo.i (s.ru k),Bo.i (s.rv k)]] (need [s.nc<=100000,gdX 5 s.nc λk=>[i (s.ca k),i (s.cb k),i (s.cc k),i (s.cd k),bl (s.cv k)]] (need [s.ns<=100000,gdX 5 s.ns λk=>[i (s.sa k),i (s.sb k),i (s.sc k),i (s.sl k),i (s.sh k)]] (need [VY (agg (hL s)),QO,WR,Y9,Z0 s,VY (↑s.nb:Int),(0:Int)=((0:Nat):Int),0=0,GV 0 (λi=>[]) (baG s),XL s,JU s,JV s,W2,XR s,XS s,Q9=Q9,QN,QN,Q9=Q9,Q9=Q9,Q9=Q9,XL s,JU s,JV s,Z0 s,XR s,XS s] (leaf (agg (hL s))))))) VU ?_
 intro Q hQ;simp only [VM.sat,UB,UH,VL,F4] at hQ ⊢;obtain ⟨h1,h2,h3,h4,h5⟩:=VR
 (with_reducible repeat' first|apply Al|intro _)
 all_goals first|exact Ak|omega|exact Jl0 _ _ _ _ _|exact Jl1 _ _ _ _ _ _|exact Jk9 _ _ _ _ _ _|rfl|assumption|(rename_i h;exact absurd h (Aq _))|exact ⟨.agg (hsL s),⟨⟨rfl,rfl,λ_ _=>rfl⟩,⟨rfl,rfl⟩,⟨rfl,rfl⟩,⟨rfl,rfl,λ_ _=>rfl⟩,⟨rfl,rfl,λ_ _=>rfl⟩,⟨rfl,rfl,λ_ _=>rfl⟩,Ak⟩,hQ⟩
end
section
variable (n:Nat)(a b c U O:Cg)
def hoS(ow Z:Int):Int×Int:=hoF n a b c (eD n a b c U O (2^n)) (lS n a b c U O (2^n-1)) ow Z (2^n)
theorem Qn6(ow Z:Int)(VR:sV n a b c U O):UN VO 47 [.agg [i 4,i 10,sls n a b c U O],i ow,i Z] (.branch (bt 0 ow 3&&bt 0 Z 100) (.branch (!zS n a b c U O) (.leaf (.tup [.agg [i 0,i 0],i 9])) (.leaf (.tup [.agg [i (hoS n a b c U O ow Z).1,i (hoS n a b c U O ow Z).2],i 0]))) (.leaf (.tup [.agg [i 0,i 0],i 2]))):=by
 refine GT (L:=[]) (Ae zC (Ae A9 (Ae (vE n a b c U O (eD n a b c U O (2^n)) (lS n a b c U O (2^n-1)) VR) Aa))) (Aj Ab Ac (Ah (vC n a b c U O VR) (U8.nil _))) VZ Tryz.func47 (UU Tryz.f47) G8 (t:=let z6:=(lst 1 (2^n) λz=>[iI (eD n a b c U O (2^n) z)]);let z5:=(lst 1 (2^n) λz=>[iI (lS n a b c U O (2^n-1) z)]);let S:=(hoF n a b c (eD n a b c U O (2^n)) (lS n a b c U O (2^n-1)) ow Z (2^n));let z4:=(leaf (tup [agg [iI (Prod.fst S),iI (Prod.snd S)],iI 0]));let z0:=(need [AV.x (YA)=AV.ro [iI 4,iI 10,Q0 n a b c U O,z6,z5],(0:Int)<=ow/\ow<4] z4);let I:=(branch (!zS n a b c U O) (branch ((9:Int) != 0) (leaf (tup [agg JT,iI 9])) z0) (branch ((0:Int) != 0) (leaf (tup [agg JT,iI 0])) (need [VY (AV.ro [iI 4,iI 10,Q0 n a b c U O,z6,z5]),(0:Int)<=ow/\ow<4] z4)));let z3:=(branch ((2:Int) != 0) (leaf (tup [agg JT,iI 2])) z0);(need [VL ((4:Int)-1)] (branch (bt (0:Int) ow ((4:Int)-1)) (need [QP n a b c U O] (branch (!bt (0:Int) Z (100:Int)) z3 I)) (need [QP n a b c U O] (branch (!false) z3 I))))) VU ?_;intro Q hQ;simp only [VM.sat,UB,UH] at hQ ⊢;have rp: ∀x y z:Int,DX (.tup [.agg [i x,i y],i z]) (.tup [.agg [i x,i y],i z]):=λx y z=>⟨⟨⟨rfl,rfl⟩,⟨rfl,rfl⟩,Ak⟩,⟨rfl,rfl⟩,Ak⟩;rw [show (4:Int)-1=3 from rfl];cases h1:bt 0 ow 3<;>cases h2:bt 0 Z 100<;>cases h3:zS n a b c U O<;>rw [h1,h2] at hQ<;>rw [h3] at hQ;all_goals (with_reducible repeat' first|apply Al|intro _)
 all_goals first
  |(simp only [VL];omega)
  |(exfalso;rename_i h;revert h;decide)
  |(exfalso;rename_i h _;revert h;decide)
  |(exfalso;rename_i h _ _;revert h;decide)
  |(exfalso;rename_i h _ _ _;revert h;decide)
  |(have:=(Bo.bt_iff _ _ _).1 h1;omega)
  |exact ⟨_,rp _ _ _,hQ.2 rfl⟩
  |exact ⟨_,rp _ _ _,(hQ.1 rfl).1 rfl⟩
  |exact ⟨_,rp _ _ _,(hQ.1 rfl).2 rfl⟩
def caB(Z:Int)(ow:Nat):Bool:=decide ((hoS n a b c U O ow Z).2>0)
def suB(Z:Int)(ow:Nat):Bool:=decide ((hoS n a b c U O ow Z).1>0)
def tP(Z:Int):St:={σ:=[agg (ZZ n a b c U O),iI Z,ptr 0 0,top,top,top,iI 0,AV.ro [iI 4,iI 10,Q0 n a b c U O,lst 1 (2^n) λz=>[iI (eD n a b c U O (2^n) z)],lst 1 (2^n) λz=>[iI (lS n a b c U O (2^n-1) z)]]]++HI 13 [iI 4]++HI 24 [],m:=[(902,KO),(901,KO),(0,GO.cells 65 (ZZ n a b c U O))],nx:=903}
noncomputable def Qv3:Code:=U9 (VS (U7 Tryz.f23) 0)
def EY(Z:Int)(k:Nat):St:={σ:=GY [(4,.row 901),(5,.row 902),(8,.top),(9,.top),(22,i k)] (tP n a b c U O Z).σ,m:=[(902,.row 3 1 (G4 (suB n a b c U O Z) (k)) (λz=>[i (UP (suB n a b c U O Z) 4 z)])),(901,.row 3 1 (G4 (caB n a b c U O Z) (k)) (λz=>[i (UP (caB n a b c U O Z) 4 z)])),(0,.cells 65 [i 4,i 10,sls n a b c U O])],nx:=903}
def qI(Z:Int)(k:Nat):G5->Option St
 | .exit 0=>some {σ:=GY [(4,.row 901),(5,.row 902),(8,.top),(9,.top),(22,i 4)] (tP n a b c U O Z).σ,m:=[(902,.row 3 1 (G4 (suB n a b c U O Z) (4)) (λz=>[i (UP (suB n a b c U O Z) 4 z)])),(901,.row 3 1 (G4 (caB n a b c U O Z) (4)) (λz=>[i (UP (caB n a b c U O Z) 4 z)])),(0,.cells 65 [i 4,i 10,sls n a b c U O])],nx:=903}
 |_=>none
def Wy1(Z:Int):CT:= .leaf (.exit 0,(qI n a b c U O Z 0 (.exit 0)).getD (tP n a b c U O Z))
def nA(Z:Int):UG:=GJ [(.slot 4,901,3,1),(.slot 5,902,3,1)] (HF (EY n a b c U O Z (0)) (Wy1 n a b c U O Z))
theorem Wd4(Z:Int)(VR:sV n a b c U O):G6 VO (.loop Qv3) (nA n a b c U O Z):=by
 refine zK [(.slot 4,901,3,1),(.slot 5,902,3,1)] (L:=[]) (Ae A9 (Ae (vE n a b c U O (eD n a b c U O (2^n)) (lS n a b c U O (2^n-1)) VR) Aa)) VZ U2 (X:=Nat) (EY n a b c U O Z) (λk=>k<=4) (λk=>4-k) (qI n a b c U O Z) (x0:=0) VT ?_ ?_ ?_;rintro k;kernel_rfl;rintro k y E h;unfold qI at h;split at h;cases h;kernel_rfl;cases h;rintro Q hQ k hx;refine ⟨(k+1),?_⟩;(with_reducible refine D9 (t:=let z0:=(VY (AV.ro [iI 4,iI 10,Q0 n a b c U O,lst 1 (2^n) λz=>[iI (eD n a b c U O (2^n) z)],lst 1 (2^n) λz=>[iI (lS n a b c U O (2^n-1) z)]]));let I:=suB n a b c U O Z;let S:=caB n a b c U O Z;let z3:=(hoF n a b c (eD n a b c U O (2^n)) (lS n a b c U O (2^n-1)) (k:Int) Z (2^n));let z4:=(U4 1 [iI (k:Int)]);let z5:=QP n a b c U O;let z6:=W0 n a b c U O;(branch (decide ((k:Int)<4)) (need [z0,(0:Int)<=(k:Int)/\(k:Int)<4] (branch (decide (Prod.snd z3>0)) (need [(G4 (S) k+1)*8<=140737488355328,RP 1 (U4 1 [iI (k:Int)])] (branch (decide (Prod.fst z3>0)) (need [(G4 (I) k+1)*8<=140737488355328,RP 1 (U4 1 [iI (k:Int)])] (need [VL ((k:Int)+1)] (need [z5,Z=Z,QO,W2,W8,QN,z0,QY,(k:Int)+1=(↑(k+1):Int),G4 (I) k+1=G4 (I) (k+1),∀(i:Nat),i<G4 (I) (k+1)->GI (G4 (I) k) (λz=>[iI (↑(UP (I) 4 z):Int)]) z4 i=[iI (↑(UP (I) 4 i):Int)],G4 (S) k+1=G4 (S) (k+1),∀(i:Nat),i<G4 (S) (k+1)->GI (G4 (S) k) (λz=>[iI (↑(UP (S) 4 z):Int)]) z4 i=[iI (↑(UP (S) 4 i):Int)],QY,WE,z6] (leaf G5.normal)))) (need [VL ((k:Int)+1)] (need [z5,Z=Z,QO,W2,W8,QN,z0,QY,(k:Int)+1=(↑(k+1):Int),G4 (I) k=G4 (I) (k+1),∀(i:Nat),i<G4 (I) (k+1)->[iI (↑(UP (I) 4 i):Int)]=[iI (↑(UP (I) 4 i):Int)],G4 (S) k+1=G4 (S) (k+1),∀(i:Nat),i<G4 (S) (k+1)->GI (G4 (S) k) (λz=>[iI (↑(UP (S) 4 z):Int)]) z4 i=[iI (↑(UP (S) 4 i):Int)],QY,WE,z6] (leaf G5.normal))))) (branch (decide (Prod.fst z3>0)) (need [(G4 (I) k+1)*8<=140737488355328,RP 1 (U4 1 [iI (k:Int)])] (need [VL ((k:Int)+1)] (need [z5,Z=Z,QO,W2,W8,QN,z0,QY,(k:Int)+1=(↑(k+1):Int),G4 (I) k+1=G4 (I) (k+1),∀(i:Nat),i<G4 (I) (k+1)->GI (G4 (I) k) (λz=>[iI (↑(UP (I) 4 z):Int)]) z4 i=[iI (↑(UP (I) 4 i):Int)],G4 (S) k=G4 (S) (k+1),∀(i:Nat),i<G4 (S) (k+1)->[iI (↑(UP (S) 4 i):Int)]=[iI (↑(UP (S) 4 i):Int)],QY,WE,z6] (leaf G5.normal)))) (need [VL ((k:Int)+1)] (need [z5,Z=Z,QO,W2,W8,QN,z0,QY,(k:Int)+1=(↑(k+1):Int),G4 (I) k=G4 (I) (k+1),∀(i:Nat),i<G4 (I) (k+1)->[iI (↑(UP (I) 4 i):Int)]=[iI (↑(UP (I) 4 i):Int)],G4 (S) k=G4 (S) (k+1),∀(i:Nat),i<G4 (S) (k+1)->[iI (↑(UP (S) 4 i):Int)]=[iI (↑(UP (S) 4 i):Int)],QY,WE,z6] (leaf G5.normal)))))) (need [z5,Z=Z,QO,W2,W8,QN,z0,QY,(k:Int)=4,G4 (I) k=G4 (I) 4,∀(i:Nat),i<G4 (I) 4->[iI (↑(UP (I) 4 i):Int)]=[iI (↑(UP (I) 4 i):Int)],G4 (S) k=G4 (S) 4,∀(i:Nat),i<G4 (S) 4->[iI (↑(UP (S) 4 i):Int)]=[iI (↑(UP (S) 4 i):Int)],QY,WE,z6] (leaf (G5.exit 0))))) VU ?_)
 simp only [Wy1,qI,VM.sat,GS] at hQ;simp only [VM.sat,UB,G0,GL,UD,VL,UH,HA,FU,R9,RQ,GN,qI]
 have hB: ∀(p:Nat->Bool) (k:Nat),G4 p k<=k:=AH;have b1:=hB (caB n a b c U O Z) k;have b2:=hB (suB n a b c U O Z) k;refine ⟨λh=>?_,λh=>?_⟩;have hk:k<4:=VJ;have hq: ∀(p:Nat->Bool),p k=true-> ∀j,j<G4 p (k+1)->GI (G4 p k) (λz=>[i (UP p 4 z)]) (U4 1 [i k]) j=[i (UP p 4 j)]:=by
  intro p hp j hj;rw [FE hp] at hj;exact Pt.catF1 (a:=λz=>((UP p 4 z:Nat):Int)) hj (by show (k:Int)=((UP p 4 (G4 p k):Nat):Int);rw [BP hk hp])
 cases hc:caB n a b c U O Z k<;>cases hs:suB n a b c U O Z k
 ·have e1:=RU hc;have e2:=RU hs;have hc':=of_decide_eq_false hc;have hs':=of_decide_eq_false hs
  (with_reducible repeat' first|apply Al|intro _)
  all_goals first|exact PO|(first|exact absurd (by assumption) hc'|exact absurd (by assumption) hs'|exact FC (by assumption) (by simp [AV.one,Value.oneCell']))
 ·have e1:=RU hc;have e2:=FE hs;have hc':=of_decide_eq_false hc;have hs':=B0 hs
  (with_reducible repeat' first|apply Al|intro _)
  all_goals first|exact PO|(first|exact absurd (by assumption) hc'|contradiction|exact FC (by assumption) (by simp [AV.one,Value.oneCell'])|exact hq _ hs _ (by assumption))
 ·have e1:=FE hc;have e2:=RU hs;have hc':=B0 hc;have hs':=of_decide_eq_false hs
  (with_reducible repeat' first|apply Al|intro _)
  all_goals first|exact PO|(first|exact absurd (by assumption) hs'|contradiction|exact FC (by assumption) (by simp [AV.one,Value.oneCell'])|exact hq _ hc _ (by assumption))
 ·have e1:=FE hc;have e2:=FE hs;have hc':=B0 hc;have hs':=B0 hs
  (with_reducible repeat' first|apply Al|intro _)
  all_goals first|exact PO|(first|contradiction|exact FC (by assumption) (by simp [AV.one,Value.oneCell'])|exact hq _ hc _ (by assumption)|exact hq _ hs _ (by assumption))
 obtain rfl:k=4:=VJ;exact V0
theorem Qn4(Z:Int)(VR:sV n a b c U O):UN VO 23 [.agg [i 4,i 10,sls n a b c U O],i Z] (.branch (!bt 0 Z 100) (.leaf (.tup [.x (.slice none 0 0),.x (.slice none 0 0),i 2])) (.branch (!zS n a b c U O) (.leaf (.tup [.x (.slice none 0 0),.x (.slice none 0 0),i 9])) (.leaf (.tup [.lst 1 (G4 (caB n a b c U O Z) 4) (λz=>[i (UP (caB n a b c U O Z) 4 z)]),.lst 1 (G4 (suB n a b c U O Z) 4) (λz=>[i (UP (suB n a b c U O Z) 4 z)]),i 0])))):=by
 refine GT (L:=[nA n a b c U O Z]) (Ae A9 (Ae (vE n a b c U O (eD n a b c U O (2^n)) (lS n a b c U O (2^n-1)) VR) Aa)) (Aj Ab Ac (Ah (vC n a b c U O VR) (U8.nil _))) VZ Tryz.func23 (UU Tryz.f23) (G7 (lpE (b:= .loop Qv3) VU<|(Wd4 n a b c U O Z VR).N)) (t:=let S:=caB n a b c U O Z;let I:=suB n a b c U O Z;let z0:=(leaf (tup [lst 1 (G4 (S) 4) λz=>[iI (↑(UP (S) 4 z):Int)],lst 1 (G4 (I) 4) λz=>[iI (↑(UP (I) 4 z):Int)],iI 0]));let z3:=(lst 1 (2^n) λz=>[iI (lS n a b c U O (2^n-1) z)]);let z4:=(lst 1 (2^n) λz=>[iI (eD n a b c U O (2^n) z)]);(need [QP n a b c U O] (branch (!bt (0:Int) Z (100:Int)) (branch ((2:Int) != 0) (leaf (tup [Q9,Q9,iI 2])) (need [QP n a b c U O,Z=Z,QO,W2,W8,(2:Int)=0,AV.x (YA)=AV.ro [iI 4,iI 10,Q0 n a b c U O,z4,z3],QY,(0:Int)=((0:Nat):Int),0=G4 (I) 0,∀(i:Nat),i<G4 (I) 0->[]=[iI (↑(UP (I) 4 i):Int)],0=G4 (S) 0,∀(i:Nat),i<G4 (S) 0->[]=[iI (↑(UP (S) 4 i):Int)],QY,WE,W0 n a b c U O] z0)) (branch (!zS n a b c U O) (branch ((9:Int) != 0) (leaf (tup [Q9,Q9,iI 9])) (need [QP n a b c U O,Z=Z,QO,W2,W8,(9:Int)=0,AV.x (YA)=AV.ro [iI 4,iI 10,Q0 n a b c U O,z4,z3],QY,(0:Int)=((0:Nat):Int),0=G4 (I) 0,∀(i:Nat),i<G4 (I) 0->[]=[iI (↑(UP (I) 4 i):Int)],0=G4 (S) 0,∀(i:Nat),i<G4 (S) 0->[]=[iI (↑(UP (S) 4 i):Int)],QY,WE,W0 n a b c U O] z0)) (branch ((0:Int) != 0) (leaf (tup [Q9,Q9,iI 0])) (need [QP n a b c U O,Z=Z,QO,W2,W8,QN,VY (AV.ro [iI 4,iI 10,Q0 n a b c U O,z4,z3]),QY,(0:Int)=((0:Nat):Int),0=G4 (I) 0,∀(i:Nat),i<G4 (I) 0->[]=[iI (↑(UP (I) 4 i):Int)],0=G4 (S) 0,∀(i:Nat),i<G4 (S) 0->[]=[iI (↑(UP (S) 4 i):Int)],QY,WE,W0 n a b c U O] z0)))))) VU ?_
 intro Q hQ;simp only [VM.sat,UB,UH] at hQ ⊢;have rn: ∀z:Int,DX (.tup [.x (.slice none 0 0),.x (.slice none 0 0),i z]) (.tup [.x (.slice none 0 0),.x (.slice none 0 0),i z]):=λz=>⟨rfl,rfl,⟨rfl,rfl⟩,Ak⟩;have rl:DX (.tup [.lst 1 (G4 (caB n a b c U O Z) 4) (λz=>[i (UP (caB n a b c U O Z) 4 z)]),.lst 1 (G4 (suB n a b c U O Z) 4) (λz=>[i (UP (suB n a b c U O Z) 4 z)]),i 0]) (.tup [.lst 1 (G4 (caB n a b c U O Z) 4) (λz=>[i (UP (caB n a b c U O Z) 4 z)]),.lst 1 (G4 (suB n a b c U O Z) 4) (λz=>[i (UP (suB n a b c U O Z) 4 z)]),i 0]):=⟨⟨rfl,rfl,λ_ _=>rfl⟩,⟨rfl,rfl,λ_ _=>rfl⟩,⟨rfl,rfl⟩,Ak⟩;cases h2:bt 0 Z 100<;>cases h3:zS n a b c U O<;>rw [h2] at hQ<;>rw [h3] at hQ;all_goals (with_reducible repeat' first|apply Al|intro _)
 all_goals first
  |(exfalso;rename_i h;revert h;decide)
  |(exfalso;rename_i h _;revert h;decide)
  |(exfalso;rename_i h _ _;revert h;decide)
  |(exfalso;rename_i h _ _ _;revert h;decide)
  |rfl
  |(rename_i h;exact absurd h (Aq _))
  |exact ⟨_,rn _,hQ.1 rfl⟩
  |exact ⟨_,rn _,(hQ.2 rfl).1 rfl⟩
  |exact ⟨_,rl,(hQ.2 rfl).2 rfl⟩
def Wz9(Z:Int):DD:=λl=>some (.need [l=[.agg [i 4,i 10,sls n a b c U O],i Z]] (.branch (!bt 0 Z 100) (.leaf (.tup [.x (.slice none 0 0),.x (.slice none 0 0),i 2])) (.branch (!zS n a b c U O) (.leaf (.tup [.x (.slice none 0 0),.x (.slice none 0 0),i 9])) (.leaf (.tup [.lst 1 (G4 (caB n a b c U O Z) 4) (λz=>[i (UP (caB n a b c U O Z) 4 z)]),.lst 1 (G4 (suB n a b c U O Z) 4) (λz=>[i (UP (suB n a b c U O Z) 4 z)]),i 0])))))
theorem oC(Z:Int)(VR:sV n a b c U O):Sx.Enters Tryz.prog 23/\ ∀avs t,Wz9 n a b c U O Z avs=some t->UN VO 23 avs t:=by
 refine ⟨(UJ Tryz.func23),?_⟩;intro avs t h;cases h;intro Q hQ;have e:=hQ.1
 dsimp only [UB] at e
 subst e;exact Qn4 n a b c U O Z VR Q hQ.2
end
section
variable (n:Nat)(L:Cf)
def Xa3:DD:=λl=>some (.need [l=[lns n L],ckE n L=0] (.leaf (.tup [.ro (hsL (sK L n)),.lst 1 n (exG L)])))
def tB:DD:=λl=>some (.need [l=[.agg (hsL (sK L n))]] (.leaf (.agg (hsL (sK L n)))))
end
theorem hZ{n:Nat}{L:Cf}(h:ckE n L=0):n<=50/\ ∀k,k<n->(L k).size<=200:=by
 unfold ckE at h;split at h;rename_i h1;refine ⟨h1.1,λk hk=>?_⟩;have h2:=B0 (GC.1 h1.2 k hk);omega;exact absurd h (by decide)
theorem Zo6{s:HS}(h:fP s):hsN s:=⟨by have:=h.nr;omega,by have:=h.bV.1.1;omega,by have:=h.nc;omega,by have:=h.sV.1;omega,λb hb=>by have:=(h.bV.1.2 b hb).1;omega⟩
section
variable (n:Nat)(L:Cf)
theorem xI:Sx.Enters Tryz.prog 37/\ ∀avs t,Xa3 n L avs=some t->UN VO 37 avs t:=by
 refine ⟨(UJ Tryz.func37),?_⟩;intro avs t h;cases h;intro Q hQ;have e:avs=[lns n L]:=hQ.1.1;have h0:ckE n L=0:=hQ.1.2;subst e;have hk:=hZ h0;exact iS n L hk.1 (λk h=>by have:=hk.2 k h;omega) Q hQ.2
theorem l7:Sx.Enters Tryz.prog 60/\ ∀avs t,tB n L avs=some t->UN VO 60 avs t:=by
 refine ⟨(UJ Tryz.func60),?_⟩;intro avs t h;cases h;intro Q hQ;have e:avs=[.agg (hsL (sK L n))]:=hQ.1;subst e;exact pT (sK L n) (Zo6 (jN L n)) Q hQ.2
end
theorem Qd6(s:HS):DX (.agg (hsL s)) (.agg (hsL s)):=⟨⟨rfl,rfl,λ_ _=>rfl⟩,⟨rfl,rfl⟩,⟨rfl,rfl⟩,⟨rfl,rfl,λ_ _=>rfl⟩,⟨rfl,rfl,λ_ _=>rfl⟩,⟨rfl,rfl,λ_ _=>rfl⟩,Ak⟩
section
variable (n:Nat)(L:Cf)
abbrev YN:Prop:=[Q6 n L]=[Q6 n L]
theorem lB(VR:n<=100):UN VO 27 [lns n L] (.branch (ckE n L != 0) (.leaf (.tup [.agg [.x (.slice none 0 0),i 0,i 0,.x (.slice none 0 0),.x (.slice none 0 0),.x (.slice none 0 0)],.x (.slice none 0 0),i (ckE n L)])) (.leaf (.tup [.agg (hsL (sK L n)),.lst 1 n (exG L),i 0]))):=by
 refine GT (L:=[]) (Ae (PW n L VJ) Aa) (Aj Ab Ac (Ah (xI n L) (Ah (l7 n L) (U8.nil _)))) VZ Tryz.func27 (UU Tryz.f27) G8 (t:=need [(YN n L)] (branch (ckE n L != 0) (leaf (tup [agg [Q9,iI 0,iI 0,Q9,Q9,Q9],Q9,iI (ckE n L)])) (need [(YN n L),ckE n L=0] (need [VY ([agg (hL (sK L n))])] (leaf (tup [agg (hL (sK L n)),lst 1 n λj=>[iI (eK L j)],iI 0])))))) VU ?_;intro Q hQ;simp only [VM.sat,UB,UH,VL,F4] at hQ ⊢;refine ⟨λh=>⟨.tup [.agg [.x (.slice none 0 0),i 0,i 0,.x (.slice none 0 0),.x (.slice none 0 0),.x (.slice none 0 0)],.x (.slice none 0 0),i (ckE n L)],⟨⟨rfl,⟨rfl,rfl⟩,⟨rfl,rfl⟩,rfl,rfl,rfl,Ak⟩,rfl,⟨rfl,rfl⟩,Ak⟩,hQ.1 h⟩,λh=>?_⟩;have h0:ckE n L=0:=by simpa using h
 (with_reducible repeat' first|apply Al|intro _)
 all_goals first|exact Ak|exact h0|rfl|(exact ⟨.tup [.agg (hsL (sK L n)),.lst 1 n (exG L),i 0],⟨Qd6 _,⟨rfl,rfl,λ_ _=>rfl⟩,⟨rfl,rfl⟩,Ak⟩,hQ.2 h⟩)
theorem lC(VR:n<=100):UN VO 21 [lns n L] (.branch (ckE n L != 0) (.leaf (.tup [.x (.slice none 0 0),i (ckE n L)])) (.leaf (.tup [.lst 2 (boN (sK L n).nb (sK L n).ql (sK L n).qh (sK L n).qm (sK L n).qr (sK L n).qv) (λk=>[i (boL (sK L n).nb (sK L n).ql (sK L n).qh (sK L n).qm (sK L n).qr (sK L n).qv k),i (boH (sK L n).nb (sK L n).ql (sK L n).qh (sK L n).qm (sK L n).qr (sK L n).qv k)]),i (boE (sK L n).nb (sK L n).ql (sK L n).qh (sK L n).qm (sK L n).qr (sK L n).qv)]))):=by
 refine GT (L:=[]) (Ae (PW n L VJ) (Ae (aZ (sK L n).nb (sK L n).ql (sK L n).qh (sK L n).qm (sK L n).qr (sK L n).qv (jN L n).bV) Aa)) (Aj (Af RE Ab) Ac (Ah (xI n L) (U8.nil _))) VZ Tryz.func21 (UU Tryz.f21) G8 (t:=need [(YN n L)] (branch (ckE n L != 0) (leaf (tup [Q9,iI (ckE n L)])) (need [(YN n L),ckE n L=0] (need [VY ([agg [lst 2 3 λk=>[iI (oL k),iI (oH k)],iI 1,hY ((sK L n).nb) (sK L n)]])] (leaf (tup [lst 2 (boN ((sK L n).nb) ((sK L n).ql) ((sK L n).qh) ((sK L n).qm) ((sK L n).qr) ((sK L n).qv)) λk=>[iI (boL ((sK L n).nb) ((sK L n).ql) ((sK L n).qh) ((sK L n).qm) ((sK L n).qr) ((sK L n).qv) k),iI (boH ((sK L n).nb) ((sK L n).ql) ((sK L n).qh) ((sK L n).qm) ((sK L n).qr) ((sK L n).qv) k)],iI (boE ((sK L n).nb) ((sK L n).ql) ((sK L n).qh) ((sK L n).qm) ((sK L n).qr) ((sK L n).qv))])))))) VU ?_;intro Q hQ;simp only [VM.sat,UB,UH,VL,F4] at hQ ⊢;refine ⟨λh=>⟨.tup [.x (.slice none 0 0),i (ckE n L)],⟨rfl,⟨rfl,rfl⟩,Ak⟩,hQ.1 h⟩,λh=>?_⟩;have h0:ckE n L=0:=by simpa using h
 (with_reducible repeat' first|apply Al|intro _)
 all_goals first|exact Ak|exact h0|rfl|(exact ⟨.tup [.lst 2 (boN (sK L n).nb (sK L n).ql (sK L n).qh (sK L n).qm (sK L n).qr (sK L n).qv) (λk=>[i (boL (sK L n).nb (sK L n).ql (sK L n).qh (sK L n).qm (sK L n).qr (sK L n).qv k),i (boH (sK L n).nb (sK L n).ql (sK L n).qh (sK L n).qm (sK L n).qr (sK L n).qv k)]),i (boE (sK L n).nb (sK L n).ql (sK L n).qh (sK L n).qm (sK L n).qr (sK L n).qv)],⟨⟨rfl,rfl,λ_ _=>rfl⟩,⟨rfl,rfl⟩,Ak⟩,hQ.2 h⟩)
theorem Qr7(Z:Int)(VR:n<=100):UN VO 11 [lns n L,i Z] (.branch (ckE n L != 0) (.leaf (.tup [.x (.slice none 0 0),.x (.slice none 0 0),i (ckE n L)])) (.branch (!bt 0 Z 100) (.leaf (.tup [.x (.slice none 0 0),.x (.slice none 0 0),i 2])) (.branch (!zS (sK L n).ns (sK L n).sa (sK L n).sb (sK L n).sc (sK L n).sl (sK L n).sh) (.leaf (.tup [.x (.slice none 0 0),.x (.slice none 0 0),i 9])) (.leaf (.tup [.lst 1 (G4 (caB (sK L n).ns (sK L n).sa (sK L n).sb (sK L n).sc (sK L n).sl (sK L n).sh Z) 4) (λz=>[i (UP (caB (sK L n).ns (sK L n).sa (sK L n).sb (sK L n).sc (sK L n).sl (sK L n).sh Z) 4 z)]),.lst 1 (G4 (suB (sK L n).ns (sK L n).sa (sK L n).sb (sK L n).sc (sK L n).sl (sK L n).sh Z) 4) (λz=>[i (UP (suB (sK L n).ns (sK L n).sa (sK L n).sb (sK L n).sc (sK L n).sl (sK L n).sh Z) 4 z)]),i 0]))))):=by
 refine GT (L:=[]) (Ae (PW n L VJ) Aa) (Aj (Af P1 Ab) Ac (Ah (xI n L) (Ah (oC (sK L n).ns (sK L n).sa (sK L n).sb (sK L n).sc (sK L n).sl (sK L n).sh Z (jN L n).sV) (U8.nil _)))) VZ Tryz.func11 (UU Tryz.f11) G8 (t:=let z0:=(caB ((sK L n).ns) ((sK L n).sa) ((sK L n).sb) ((sK L n).sc) ((sK L n).sl) ((sK L n).sh) Z);let I:=(suB ((sK L n).ns) ((sK L n).sa) ((sK L n).sb) ((sK L n).sc) ((sK L n).sl) ((sK L n).sh) Z);(need [(YN n L)] (branch (ckE n L != 0) (leaf (tup [Q9,Q9,iI (ckE n L)])) (need [(YN n L),ckE n L=0] (need [VY ([agg [iI 4,iI 10,hT ((sK L n).ns) (sK L n)],iI Z])] (branch (!bt (0:Int) Z (100:Int)) (leaf (tup [Q9,Q9,iI 2])) (branch (!zS ((sK L n).ns) ((sK L n).sa) ((sK L n).sb) ((sK L n).sc) ((sK L n).sl) ((sK L n).sh)) (leaf (tup [Q9,Q9,iI 9])) (leaf (tup [lst 1 (G4 z0 4) λz=>[iI (UP z0 4 z:Int)],lst 1 (G4 I 4) λz=>[iI (UP I 4 z:Int)],iI 0]))))))))) VU ?_;intro Q hQ;simp only [VM.sat,UB,UH,VL,F4] at hQ ⊢;have rn: ∀z:Int,DX (.tup [.x (.slice none 0 0),.x (.slice none 0 0),i z]) (.tup [.x (.slice none 0 0),.x (.slice none 0 0),i z]):=λz=>⟨rfl,rfl,⟨rfl,rfl⟩,Ak⟩;have rl:DX (.tup [.lst 1 (G4 (caB (sK L n).ns (sK L n).sa (sK L n).sb (sK L n).sc (sK L n).sl (sK L n).sh Z) 4) (λz=>[i (UP (caB (sK L n).ns (sK L n).sa (sK L n).sb (sK L n).sc (sK L n).sl (sK L n).sh Z) 4 z)]),.lst 1 (G4 (suB (sK L n).ns (sK L n).sa (sK L n).sb (sK L n).sc (sK L n).sl (sK L n).sh Z) 4) (λz=>[i (UP (suB (sK L n).ns (sK L n).sa (sK L n).sb (sK L n).sc (sK L n).sl (sK L n).sh Z) 4 z)]),i 0]) (.tup [.lst 1 (G4 (caB (sK L n).ns (sK L n).sa (sK L n).sb (sK L n).sc (sK L n).sl (sK L n).sh Z) 4) (λz=>[i (UP (caB (sK L n).ns (sK L n).sa (sK L n).sb (sK L n).sc (sK L n).sl (sK L n).sh Z) 4 z)]),.lst 1 (G4 (suB (sK L n).ns (sK L n).sa (sK L n).sb (sK L n).sc (sK L n).sl (sK L n).sh Z) 4) (λz=>[i (UP (suB (sK L n).ns (sK L n).sa (sK L n).sb (sK L n).sc (sK L n).sl (sK L n).sh Z) 4 z)]),i 0]):=⟨⟨rfl,rfl,λ_ _=>rfl⟩,⟨rfl,rfl,λ_ _=>rfl⟩,⟨rfl,rfl⟩,Ak⟩;refine ⟨λh=>⟨_,rn _,hQ.1 h⟩,λh=>?_⟩;have h0:ckE n L=0:=by simpa using h
 have hQ2:=hQ.2 h
 (with_reducible repeat' first|apply Al|intro _)
 all_goals first|exact Ak|exact h0|rfl|(rename_i h1;exact ⟨_,rn _,hQ2.1 h1⟩)|(rename_i h1 h2;exact ⟨_,rn _,(hQ2.2 h1).1 h2⟩)|(rename_i h1 h2;exact ⟨_,rl,(hQ2.2 h1).2 h2⟩)
end
section
variable (s:HS)
def stB(a b w d:Int)(v:Bool)(Z:Int):Bool:= !v&&(decide (Z>=d)&&((asE 4 100 20 30 s.nr s.ra s.rb s.ru s.rv 3 tbP tbQ s.pl s.ph 1 3 a b w Z==0)&&kpB 4 100 20 30 s.nr s.ra s.rb s.ru s.rv 3 tbP tbQ s.pl s.ph 1 3 a b w Z))
def stP(Z:Int)(k:Nat):Bool:=stB s (s.ca k) (s.cb k) (s.cc k) (s.cd k) (s.cv k) Z
theorem I3(a b w d:Int)(v:Bool)(Z:Int):VX VO 38 [.agg (hsL s),.agg [i a,i b,i w,i d,bl v],i Z] (bl (stB s a b w d v Z)):=by
 refine GA (L:=[]) (Ae Qk5 Aa) (Aj Ab Ac (Ah (Qf6 FD) (U8.nil _))) VZ Tryz.func38 (UU Tryz.f38) G8 (t:=need [UF 4 s.nr λk=>[Bo.i (s.ra k),Bo.i (s.rb k),Bo.i (s.ru k),Bo.i (s.rv k)],UF 2 3 λk=>[i (tbP k),i (tbQ k)]] (branch (!v) (branch (decide (Z>=d)) (branch (asE (4:Int) (100:Int) (20:Int) (30:Int) s.nr (s.ra) (s.rb) (s.ru) (s.rv) 3 tbP tbQ s.pl s.ph (1:Int) (3:Int) a b w Z==0) (leaf (RV.x (.bool (kpB (4:Int) (100:Int) (20:Int) (30:Int) s.nr (s.ra) (s.rb) (s.ru) (s.rv) 3 tbP tbQ s.pl s.ph (1:Int) (3:Int) a b w Z)))) (leaf (RV.x (W6)))) (leaf (RV.x (W6)))) (leaf (RV.x (W6))))) VU ?_;simp only [VM.sat,UB,G0,UD,UH];refine ⟨⟨Bo.isRec4 _ _ _ _ _,Pt.isRec2 _ _ _⟩,?_⟩;unfold stB;cases v<;>cases decide (Z>=d)<;>cases (asE 4 100 20 30 s.nr s.ra s.rb s.ru s.rv 3 tbP tbQ s.pl s.ph 1 3 a b w Z==0)<;>simp
def S9:UX
 |[.agg l',.agg [.x (.int .i64 a),.x (.int .i64 b),.x (.int .i64 w),.x (.int .i64 d),.x (.bool v)],.x (.int .i64 Z)]=>some ([l'=hsL s],bl (stB s a b w d v Z))
 |_=>none
theorem I2:VP VO 38 (S9 s):=by
 refine ⟨(UJ Tryz.func38),?_⟩;intro avs ns res h hn;unfold S9 at h;split at h;cases h;have e:=hn _ GD;subst e;exact I3 s _ _ _ _ _ _;cases h
end
section
variable (n:Nat)(L:Cf)(Z:Int)
def Zt9:St:={σ:=[Q6 n L,iI Z,top,top,Q9,iI 0,iI (ckE n L),AV.ro (hL (sK L n)),lst 1 n λj=>[iI (eK L j)]]++HI 20 [hC ((sK L n).nc) (sK L n),iI (↑((sK L n).nc):Int)]++HI 18 [],m:=[(901,KO)],nx:=902}
noncomputable def Ju3:Code:=U9 (VS (U7 Tryz.f9) 0)
def Wj5(k:Nat):St:={σ:=GY [(9,.row 901),(10,.top),(11,.top),(31,i k)] (Zt9 n L Z).σ,m:=[(901,.row 3 1 (G4 (stP (sK L n) Z) (k)) (λz=>[i (UP (stP (sK L n) Z) (sK L n).nc z)]))],nx:=902}
def CM(k:Nat):G5->Option St
 | .exit 0=>some {σ:=GY [(9,.row 901),(10,.top),(11,.top),(31,i (sK L n).nc)] (Zt9 n L Z).σ,m:=[(901,.row 3 1 (G4 (stP (sK L n) Z) ((sK L n).nc)) (λz=>[i (UP (stP (sK L n) Z) (sK L n).nc z)]))],nx:=902}
 |_=>none
def Jp2:CT:= .leaf (.exit 0,(CM n L Z 0 (.exit 0)).getD (Zt9 n L Z))
def Xy4:UG:=GJ [(.slot 9,901,3,1)] (HF (Wj5 n L Z (0)) (Jp2 n L Z))
theorem Jd6(VR:n<=100):G6 VO (.loop Ju3) (Xy4 n L Z):=by
 refine UR [(.slot 9,901,3,1)] (L:=[]) (Ae (PW n L VJ) (Ae PV (Ae (I2 (sK L n)) Aa))) (Aj Ab Ac (Ah (xI n L) (U8.nil _))) VZ U2 (X:=Nat) (Wj5 n L Z) (λk=>k<=(sK L n).nc) (λk=>(sK L n).nc-k) (CM n L Z) (x0:=0) VT ?_ ?_ ?_;rintro k;kernel_rfl;rintro k y E h;unfold CM at h;split at h;cases h;kernel_rfl;cases h;rintro Q hQ k hx;refine ⟨(k+1),?_⟩;(with_reducible refine D9 (t:=let z0:=(VY (lst 1 n λj=>[iI (eK L j)]));let I:=(VY (hC ((sK L n).nc) (sK L n)));let S:=(VY (↑((sK L n).nc):Int));(branch (decide ((k:Int)<(↑((sK L n).nc):Int))) (need [UI k ((sK L n).nc)] (need [VY (hL (sK L n))] (branch (stB (sK L n) ((sK L n).ca k) ((sK L n).cb k) ((sK L n).cc k) ((sK L n).cd k) ((sK L n).cv k) Z) (need [(G4 (stP (sK L n) Z) k+1)*8<=140737488355328,RP 1 (U4 1 [iI (k:Int)])] (need [VL ((k:Int)+1)] (need [VY (Q6 n L),Z=Z,Q9=Q9,QN,VY (ckE n L),VY (AV.ro (hL (sK L n))),z0,W2,I,S,(k:Int)+1=(↑(k+1):Int),G4 (stP (sK L n) Z) k+1=G4 (stP (sK L n) Z) (k+1),∀(i:Nat),i<G4 (stP (sK L n) Z) (k+1)->GI (G4 (stP (sK L n) Z) k) (λz=>[iI (↑(UP (stP (sK L n) Z) ((sK L n).nc) z):Int)]) (U4 1 [iI (k:Int)]) i=[iI (↑(UP (stP (sK L n) Z) ((sK L n).nc) i):Int)]] (leaf G5.normal)))) (need [VL ((k:Int)+1)] (need [VY (Q6 n L),Z=Z,Q9=Q9,QN,VY (ckE n L),VY (AV.ro (hL (sK L n))),z0,W2,I,S,(k:Int)+1=(↑(k+1):Int),G4 (stP (sK L n) Z) k=G4 (stP (sK L n) Z) (k+1),∀(i:Nat),i<G4 (stP (sK L n) Z) (k+1)->[iI (↑(UP (stP (sK L n) Z) ((sK L n).nc) i):Int)]=[iI (↑(UP (stP (sK L n) Z) ((sK L n).nc) i):Int)]] (leaf G5.normal)))))) (need [VY (Q6 n L),Z=Z,Q9=Q9,QN,VY (ckE n L),VY (AV.ro (hL (sK L n))),z0,W2,I,S,(k:Int)=(↑((sK L n).nc):Int),G4 (stP (sK L n) Z) k=G4 (stP (sK L n) Z) ((sK L n).nc),∀(i:Nat),i<G4 (stP (sK L n) Z) ((sK L n).nc)->[iI (↑(UP (stP (sK L n) Z) ((sK L n).nc) i):Int)]=[iI (↑(UP (stP (sK L n) Z) ((sK L n).nc) i):Int)]] (leaf (G5.exit 0))))) VU ?_)
 simp only [Jp2,CM,VM.sat,GS] at hQ;simp only [VM.sat,UB,G0,GL,UD,VL,UH,HA,FU,R9,RQ,GN,CM]
 have b1:=AH (p:=stP (sK L n) Z) (k:=k);have b2:=(jN L n).nc;refine ⟨λh=>?_,λh=>?_⟩;have hk:k<(sK L n).nc:=VJ;have hq:stP (sK L n) Z k=true-> ∀j,j<G4 (stP (sK L n) Z) (k+1)->GI (G4 (stP (sK L n) Z) k) (λz=>[i (UP (stP (sK L n) Z) (sK L n).nc z)]) (U4 1 [i k]) j=[i (UP (stP (sK L n) Z) (sK L n).nc j)]:=by
  intro hp j hj;rw [FE hp] at hj;exact Pt.catF1 (a:=λz=>((UP (stP (sK L n) Z) (sK L n).nc z:Nat):Int)) hj (by show (k:Int)=((UP (stP (sK L n) Z) (sK L n).nc (G4 (stP (sK L n) Z) k):Nat):Int);rw [BP hk hp])
 cases hc:stP (sK L n) Z k
 ·have e1:=RU hc;have hc': ¬(stB (sK L n) ((sK L n).ca k) ((sK L n).cb k) ((sK L n).cc k) ((sK L n).cd k) ((sK L n).cv k) Z=true):=λh=>Bool.noConfusion (hc.symm.trans h)
  (with_reducible repeat' first|apply Al|intro _)
  all_goals first|exact PO|(first|exact absurd (by assumption) hc'|exact FC (by assumption) (by simp [AV.one,Value.oneCell']))
 ·have e1:=FE hc;have hc': ¬(stB (sK L n) ((sK L n).ca k) ((sK L n).cb k) ((sK L n).cc k) ((sK L n).cd k) ((sK L n).cv k) Z=false):=λh=>Bool.noConfusion (hc.symm.trans h)
  (with_reducible repeat' first|apply Al|intro _)
  all_goals first|exact PO|(first|exact absurd (by assumption) hc'|exact hq hc _ (by assumption)|exact FC (by assumption) (by simp [AV.one,Value.oneCell']))
 obtain rfl:k=(sK L n).nc:=VJ;exact V0
theorem gV(VR:n<=100):UN VO 9 [lns n L,i Z] (.branch (ckE n L != 0) (.leaf (.tup [.x (.slice none 0 0),i (ckE n L)])) (.branch (!bt 0 Z 10000) (.leaf (.tup [.x (.slice none 0 0),i 2])) (.leaf (.tup [.lst 1 (G4 (stP (sK L n) Z) (sK L n).nc) (λz=>[i (UP (stP (sK L n) Z) (sK L n).nc z)]),i 0])))):=by
 refine GT (L:=[Xy4 n L Z]) (Ae (PW n L VJ) (Ae PV (Ae (I2 (sK L n)) Aa))) (Aj Ab Ac (Ah (xI n L) (U8.nil _))) VZ Tryz.func9 (UU Tryz.f9) (G7 (lpE (b:= .loop Ju3) VU<|(Jd6 n L Z VR).N)) (t:=need [(YN n L)] (branch (ckE n L != 0) (leaf (tup [Q9,iI (ckE n L)])) (branch (!bt (0:Int) Z (10000:Int)) (leaf (tup [Q9,iI 2])) (need [(YN n L),ckE n L=0] (need [VY (Q6 n L),Z=Z,Q9=Q9,QN,VY (ckE n L),VY (AV.ro (hL (sK L n))),VY (lst 1 n λj=>[iI (eK L j)]),W2,VY (hC ((sK L n).nc) (sK L n)),VY (↑((sK L n).nc):Int),(0:Int)=((0:Nat):Int),0=G4 (stP (sK L n) Z) 0,∀(i:Nat),i<G4 (stP (sK L n) Z) 0->[]=[iI (↑(UP (stP (sK L n) Z) ((sK L n).nc) i):Int)]] (leaf (tup [lst 1 (G4 (stP (sK L n) Z) ((sK L n).nc)) λz=>[iI (↑(UP (stP (sK L n) Z) ((sK L n).nc) z):Int)],iI 0]))))))) VU ?_
 intro Q hQ;simp only [VM.sat,UB,UH,VL,F4] at hQ ⊢;have b2:=(jN L n).nc;have rn: ∀z:Int,DX (.tup [.x (.slice none 0 0),i z]) (.tup [.x (.slice none 0 0),i z]):=λz=>⟨rfl,⟨rfl,rfl⟩,Ak⟩;have rl:DX (.tup [.lst 1 (G4 (stP (sK L n) Z) (sK L n).nc) (λz=>[i (UP (stP (sK L n) Z) (sK L n).nc z)]),i 0]) (.tup [.lst 1 (G4 (stP (sK L n) Z) (sK L n).nc) (λz=>[i (UP (stP (sK L n) Z) (sK L n).nc z)]),i 0]):=⟨⟨rfl,rfl,λ_ _=>rfl⟩,⟨rfl,rfl⟩,Ak⟩;refine ⟨λh=>⟨_,rn _,hQ.1 h⟩,λh=>?_⟩;have h0:ckE n L=0:=by simpa using h
 have hQ2:=hQ.2 h;refine ⟨λh1=>⟨_,rn _,hQ2.1 h1⟩,λh1=>?_⟩;have hQ3:=hQ2.2 h1
 (with_reducible repeat' first|apply Al|intro _)
 all_goals first|exact Ak|exact h0|omega|rfl|(rename_i h;exact absurd h (Aq _))|exact ⟨_,rl,hQ3⟩
end
def dgI(n:Int):Int:=IntKind.u8.wrap (48+n.tmod 10)
def dg3(n:Int):ByteArray:=⟨#[UInt8.ofNat (dgI ((n.tdiv 10).tdiv 10)).toNat,UInt8.ofNat (dgI (n.tdiv 10)).toNat,UInt8.ofNat (dgI n).toNat]⟩
def dg5(n:Int):ByteArray:=⟨#[UInt8.ofNat (dgI ((((n.tdiv 10).tdiv 10).tdiv 10).tdiv 10)).toNat,UInt8.ofNat (dgI (((n.tdiv 10).tdiv 10).tdiv 10)).toNat,UInt8.ofNat (dgI ((n.tdiv 10).tdiv 10)).toNat,UInt8.ofNat (dgI (n.tdiv 10)).toNat,UInt8.ofNat (dgI n).toNat]⟩
def dgB(n m:Int):ByteArray:=if m=3 then dg3 n else dg5 n
abbrev u8(n:Int):AV:= .x (.int .u8 n)
def tpB(l c:Int):ByteArray:=(((⟨#[91]⟩++dgB l 3)++⟨#[58]⟩)++dgB c 5)++⟨#[93]⟩
def tpC(s:ByteArray)(ix:Int):Nat->Int
 | 0=>23*(ix+1)
 |k+1=>tpC s ix k+((k:Int)+2)*(byN s k+3)
def tpK(s:ByteArray)(ix:Int):Int:=(tpC s ix s.size).tmod 99971
def rcB(s:ByteArray)(ix:Int):ByteArray:=(tpB (s.size:Int) (tpK s ix)++s)++⟨#[10]⟩
def flB(L:Cf):Nat->ByteArray
 | 0=>ByteArray.empty
 |k+1=>flB L k++rcB (L k) (k:Int)
theorem Qf0(n:Int):0<=dgI n/\dgI n<256:=by
 have h:dgI n=(48+n.tmod 10)%256:=rfl;omega
theorem wL{x:Int}(h:0<=x/\x<=1000000000):(0<=x.tdiv 10/\x.tdiv 10<=1000000000)/\0<=x.tmod 10/\x.tmod 10<=9:=by
 rw [Int.tdiv_eq_ediv_of_nonneg h.1,Int.tmod_eq_emod_of_nonneg h.1];omega
theorem by1{x:Int}(h:0<=x/\x<256):byO [u8 x]<256/\[u8 x]=[.x (.int .u8 (byO [u8 x]:Int))]:=by
 have e2:byO [u8 x]=x.toNat:=rfl;rw [e2];refine ⟨VJ,?_⟩;rw [show ((x.toNat:Nat):Int)=x by omega]
section
variable (n:Int)
def tH:St:={σ:=mkS 24 [(1,i 3),(5,.ro [u8 (dgI ((n.tdiv 10).tdiv 10)),u8 (dgI (n.tdiv 10)),u8 (dgI n),u8 0,u8 0])],m:=[],nx:=901}
abbrev QZ:AV:=AV.x (.int IntKind.u8 (0:Int))
abbrev WX:AV:=AV.x (.int IntKind.u8 (IntKind.wrap IntKind.u8 ((48:Int)+Int.tmod n (10:Int))))
abbrev XC:AV:=AV.x (.int IntKind.u8 (IntKind.wrap IntKind.u8 ((48:Int)+Int.tmod (Int.tdiv n (10:Int)) (10:Int))))
abbrev YU:AV:=AV.x (.int IntKind.u8 (dgI (Int.tdiv (Int.tdiv n (10:Int)) (10:Int))))
abbrev XF:List AV:=[YU n,AV.x (.int IntKind.u8 (dgI (Int.tdiv n (10:Int)))),AV.x (.int IntKind.u8 (dgI n)),QZ,QZ]
abbrev ZC:AV:=AV.x (.int IntKind.u8 (IntKind.wrap IntKind.u8 ((48:Int)+Int.tmod (Int.tdiv (Int.tdiv n (10:Int)) (10:Int)) (10:Int))))
theorem iZ(VR:0<=n/\n<=1000000000):VX VO 142 [i n,i 3] (.x (.string (dg3 n))):=by
 refine fY (L:=[(λs=>some (xZ Tryz.prog [] [] (U9 (VS (U7 Tryz.f142) 0)) 4 s))]) 3 [(.slot 5,0,0,1)] (tH n) Aa Ad VZ Tryz.func142 (UU Tryz.f142) (G7 (lpE (b:= .loop (U9 (VS (U7 Tryz.f142) 0))) VU<|(LC Aa VZ U2 _).N)) VU (t:=let I:=(Int.tdiv (Int.tdiv n (10:Int)) (10:Int));let z0:=(need [(0:Int)<=3/\(3:Int)<=((5:Nat):Int)] (need [gI (3:Int).toNat λi=>[Option.rec (top) (λval=>(λval=>(λx=>x) val) val) [u8 (dgI I),u8 (dgI (Int.tdiv n (10:Int))),u8 (dgI n),u8 (0:Int),u8 (0:Int)][i]?]] (leaf (RV.x (.string (bsO (3:Int).toNat λi=>[Option.rec (top) (λval=>(λval=>(λx=>x) val) val) [u8 (dgI I),u8 (dgI (Int.tdiv n (10:Int))),u8 (dgI n),u8 (0:Int),u8 (0:Int)][i]?]))))));(need [VL ((3:Int)-1)] (branch (decide ((3:Int)-1>=(0:Int))) (need [(10:Int)≠0] (need [VL ((48:Int)+Int.tmod n (10:Int))] (need [(0:Int)<=3-1/\(3:Int)-1<((5:Nat):Int)] (need [(10:Int)≠0,VL (Int.tdiv n (10:Int))] (need [VL ((3:Int)-1-1)] (branch (decide ((3:Int)-1-1>=(0:Int))) (need [(10:Int)≠0] (need [VL ((48:Int)+Int.tmod (Int.tdiv n (10:Int)) (10:Int))] (need [(0:Int)<=3-1-1/\(3:Int)-1-1<((5:Nat):Int)] (need [(10:Int)≠0,VL I] (need [VL ((3:Int)-1-1-1)] (branch (decide ((3:Int)-1-1-1>=(0:Int))) (need [(10:Int)≠0] (need [VL ((48:Int)+Int.tmod I (10:Int))] (need [(0:Int)<=3-1-1-1/\(3:Int)-1-1-1<((5:Nat):Int)] (need [(10:Int)≠0,VL (Int.tdiv I (10:Int))] (need [VL ((3:Int)-1-1-1-1)] (branch (decide ((3:Int)-1-1-1-1>=(0:Int))) (need [(10:Int)≠0] (need [VL ((48:Int)+Int.tmod (Int.tdiv I (10:Int)) (10:Int))] (need [(0:Int)<=3-1-1-1-1/\(3:Int)-1-1-1-1<((5:Nat):Int)] (need [(10:Int)≠0,VL (Int.tdiv (Int.tdiv I (10:Int)) (10:Int))] (need [VL ((3:Int)-1-1-1-1-1)] VM.fail))))) (need [XI,AV.ro [ZC n,XC n,WX n,QZ,QZ]=AV.ro (XF n)] z0))))))) (need [XI,AV.ro [QZ,XC n,WX n,QZ,QZ]=AV.ro (XF n)] z0))))))) (need [XI,AV.ro [QZ,QZ,WX n,QZ,QZ]=AV.ro (XF n)] z0))))))) (need [XI,AV.ro [QZ,QZ,QZ,QZ,QZ]=AV.ro (XF n)] z0)))) VU ?_
 have q1:=wL VR;have q2:=wL q1.1;have q3:=wL q2.1;have q4:=wL q3.1;have q5:=wL q4.1;have c1:decide ((3:Int)-1>=0)=true:=by decide
 have c2:decide ((3:Int)-1-1>=0)=true:=by decide
 have c3:decide ((3:Int)-1-1-1>=0)=true:=by decide
 have c4:decide ((3:Int)-1-1-1-1>=0)=false:=by decide
 simp only [VM.sat,UB,G0,UD,UH,VL,c1,c2,c3,c4,true_imp_iff,eq_self,Bool.true_eq_false,Bw,false_imp_iff]
 (with_reducible repeat' first|apply Al|intro _)
 all_goals first|exact Ak|omega|rfl|(intro j hj;rcases (show j=0\/j=1\/j=2 by omega) with rfl|rfl|rfl<;>exact by1 (Qf0 _))|decide
def tG:St:={σ:=mkS 24 [(1,i 5),(5,.ro [u8 (dgI ((((n.tdiv 10).tdiv 10).tdiv 10).tdiv 10)),u8 (dgI (((n.tdiv 10).tdiv 10).tdiv 10)),u8 (dgI ((n.tdiv 10).tdiv 10)),u8 (dgI (n.tdiv 10)),u8 (dgI n)])],m:=[],nx:=901}
abbrev QJ:List AV:=[AV.x (.int IntKind.u8 (dgI (Int.tdiv (Int.tdiv (Int.tdiv (Int.tdiv n (10:Int)) (10:Int)) (10:Int)) (10:Int)))),AV.x (.int IntKind.u8 (dgI (Int.tdiv (Int.tdiv (Int.tdiv n (10:Int)) (10:Int)) (10:Int)))),YU n,AV.x (.int IntKind.u8 (dgI (Int.tdiv n (10:Int)))),AV.x (.int IntKind.u8 (dgI n))]
abbrev JC:Prop:=(5:Int)=5
abbrev KA:AV:=AV.x (.int IntKind.u8 (IntKind.wrap IntKind.u8 ((48:Int)+Int.tmod (Int.tdiv (Int.tdiv (Int.tdiv n (10:Int)) (10:Int)) (10:Int)) (10:Int))))
theorem iY(VR:0<=n/\n<=1000000000):VX VO 142 [i n,i 5] (.x (.string (dg5 n))):=by
 refine fY (L:=[(λs=>some (xZ Tryz.prog [] [] (U9 (VS (U7 Tryz.f142) 0)) 6 s))]) 3 [(.slot 5,0,0,1)] (tG n) Aa Ad VZ Tryz.func142 (UU Tryz.f142) (G7 (lpE (b:= .loop (U9 (VS (U7 Tryz.f142) 0))) VU<|(LC Aa VZ U2 _).N)) VU (t:=let S:=(Int.tdiv (Int.tdiv n (10:Int)) (10:Int));let I:=(Int.tdiv S (10:Int));let z3:=(Int.tdiv I (10:Int));let z0:=(need [(0:Int)<=5/\(5:Int)<=((5:Nat):Int)] (need [gI (5:Int).toNat λi=>[Option.rec (top) (λval=>(λval=>(λx=>x) val) val) [u8 (dgI z3),u8 (dgI I),u8 (dgI S),u8 (dgI (Int.tdiv n (10:Int))),u8 (dgI n)][i]?]] (leaf (RV.x (.string (bsO (5:Int).toNat λi=>[Option.rec (top) (λval=>(λval=>(λx=>x) val) val) [u8 (dgI z3),u8 (dgI I),u8 (dgI S),u8 (dgI (Int.tdiv n (10:Int))),u8 (dgI n)][i]?]))))));(need [VL ((5:Int)-1)] (branch (decide ((5:Int)-1>=(0:Int))) (need [(10:Int)≠0] (need [VL ((48:Int)+Int.tmod n (10:Int))] (need [(0:Int)<=5-1/\(5:Int)-1<((5:Nat):Int)] (need [(10:Int)≠0,VL (Int.tdiv n (10:Int))] (need [VL ((5:Int)-1-1)] (branch (decide ((5:Int)-1-1>=(0:Int))) (need [(10:Int)≠0] (need [VL ((48:Int)+Int.tmod (Int.tdiv n (10:Int)) (10:Int))] (need [(0:Int)<=5-1-1/\(5:Int)-1-1<((5:Nat):Int)] (need [(10:Int)≠0,VL S] (need [VL ((5:Int)-1-1-1)] (branch (decide ((5:Int)-1-1-1>=(0:Int))) (need [(10:Int)≠0] (need [VL ((48:Int)+Int.tmod S (10:Int))] (need [(0:Int)<=5-1-1-1/\(5:Int)-1-1-1<((5:Nat):Int)] (need [(10:Int)≠0,VL I] (need [VL ((5:Int)-1-1-1-1)] (branch (decide ((5:Int)-1-1-1-1>=(0:Int))) (need [(10:Int)≠0] (need [VL ((48:Int)+Int.tmod I (10:Int))] (need [(0:Int)<=5-1-1-1-1/\(5:Int)-1-1-1-1<((5:Nat):Int)] (need [(10:Int)≠0,VL z3] (need [VL ((5:Int)-1-1-1-1-1)] (branch (decide ((5:Int)-1-1-1-1-1>=(0:Int))) (need [(10:Int)≠0] (need [VL ((48:Int)+Int.tmod z3 (10:Int))] (need [(0:Int)<=5-1-1-1-1-1/\(5:Int)-1-1-1-1-1<((5:Nat):Int)] (need [(10:Int)≠0,VL (Int.tdiv z3 (10:Int))] (need [VL ((5:Int)-1-1-1-1-1-1)] (branch (decide ((5:Int)-1-1-1-1-1-1>=(0:Int))) (need [(10:Int)≠0] (need [VL ((48:Int)+Int.tmod (Int.tdiv z3 (10:Int)) (10:Int))] (need [(0:Int)<=5-1-1-1-1-1-1/\(5:Int)-1-1-1-1-1-1<((5:Nat):Int)] (need [(10:Int)≠0,VL (Int.tdiv (Int.tdiv z3 (10:Int)) (10:Int))] (need [VL ((5:Int)-1-1-1-1-1-1-1)] VM.fail))))) (need [JC,AV.ro [AV.x (.int IntKind.u8 (IntKind.wrap IntKind.u8 ((48:Int)+Int.tmod z3 (10:Int)))),KA n,ZC n,XC n,WX n]=AV.ro (QJ n)] z0))))))) (need [JC,AV.ro [QZ,KA n,ZC n,XC n,WX n]=AV.ro (QJ n)] z0))))))) (need [JC,AV.ro [QZ,QZ,ZC n,XC n,WX n]=AV.ro (QJ n)] z0))))))) (need [JC,AV.ro [QZ,QZ,QZ,XC n,WX n]=AV.ro (QJ n)] z0))))))) (need [JC,AV.ro [QZ,QZ,QZ,QZ,WX n]=AV.ro (QJ n)] z0))))))) (need [JC,AV.ro [QZ,QZ,QZ,QZ,QZ]=AV.ro (QJ n)] z0)))) VU ?_
 have q1:=wL VR;have q2:=wL q1.1;have q3:=wL q2.1;have q4:=wL q3.1;have q5:=wL q4.1;have c1:decide ((5:Int)-1>=0)=true:=by decide
 have c2:decide ((5:Int)-1-1>=0)=true:=by decide
 have c3:decide ((5:Int)-1-1-1>=0)=true:=by decide
 have c4:decide ((5:Int)-1-1-1-1>=0)=true:=by decide
 have c5:decide ((5:Int)-1-1-1-1-1>=0)=true:=by decide
 have c6:decide ((5:Int)-1-1-1-1-1-1>=0)=false:=by decide
 simp only [VM.sat,UB,G0,UD,UH,VL,c1,c2,c3,c4,c5,c6,true_imp_iff,eq_self,Bool.true_eq_false,Bw,false_imp_iff]
 (with_reducible repeat' first|apply Al|intro _)
 all_goals first|exact Ak|omega|rfl|(intro j hj;rcases (show j=0\/j=1\/j=2\/j=3\/j=4 by omega) with rfl|rfl|rfl|rfl|rfl<;>exact by1 (Qf0 _))|decide
end
def SB:UX
 |[.x (.int .i64 n),.x (.int .i64 m)]=>some ([0<=n/\n<=1000000000,m=3\/m=5],.x (.string (dgB n m)))
 |_=>none
theorem pS:VP VO 142 SB:=by
 refine ⟨(UJ Tryz.func142),?_⟩;intro avs ns res h hn;unfold SB at h;split at h;rename_i n m;cases h;have h1:0<=n/\n<=1000000000:=hn _ VT;have h2:m=3\/m=5:=hn _ VT;rcases h2 with rfl|rfl;exact iZ n h1;exact iY n h1;cases h
theorem gY(n m:Int)(h:m=3\/m=5):((dgB n m).size:Int)=m:=by
 rcases h with rfl|rfl;rfl;rfl
theorem cB(l c:Int):(tpB l c).size=11:=by
 have h1:=gY l 3 (.inl rfl);have h2:=gY c 5 (.inr rfl);unfold tpB;simp only [Av];have e1:(⟨#[91]⟩:ByteArray).size=1:=rfl;have e2:(⟨#[58]⟩:ByteArray).size=1:=rfl;have e3:(⟨#[93]⟩:ByteArray).size=1:=rfl;omega
def Qh7:UX
 |[.agg [.x (.int .i64 l),.x (.int .i64 c)]]=>some ([0<=l/\l<=1000000000,0<=c/\c<=1000000000],.x (.string (tpB l c)))
 |_=>none
theorem Wo1(l c:Int)(VR:0<=l/\l<=1000000000)(UE:0<=c/\c<=1000000000):VX VO 104 [.agg [i l,i c]] (.x (.string (tpB l c))):=by
 refine GA (L:=[]) (Ae pS Aa) Ad VZ Tryz.func104 (UU Tryz.f104) G8 (t:=need [(0:Int)<=l/\l<=1000000000,(3:Int)=3\/(3:Int)=5] (need [(↑(ByteArray.size {data:=#[91] }+ByteArray.size (dgB l (3:Int))):Int)<=9223372036854775807] (need [(↑(ByteArray.size ({data:=#[91] }++dgB l (3:Int))+ByteArray.size {data:=#[58] }):Int)<=9223372036854775807] (need [(0:Int)<=c/\c<=1000000000,(5:Int)=3\/(5:Int)=5] (need [(↑(ByteArray.size ({data:=#[91] }++dgB l (3:Int)++{data:=#[58] })+ByteArray.size (dgB c (5:Int))):Int)<=9223372036854775807] (need [(↑(ByteArray.size ({data:=#[91] }++dgB l (3:Int)++{data:=#[58] }++dgB c (5:Int))+ByteArray.size {data:=#[93] }):Int)<=9223372036854775807] (leaf (RV.x (.string ({data:=#[91] }++dgB l (3:Int)++{data:=#[58] }++dgB c (5:Int)++{data:=#[93] })))))))))) VU ?_;have h1:=gY l 3 (.inl rfl);have h2:=gY c 5 (.inr rfl);have e1:(⟨#[91]⟩:ByteArray).size=1:=rfl;have e2:(⟨#[58]⟩:ByteArray).size=1:=rfl;have e3:(⟨#[93]⟩:ByteArray).size=1:=rfl;simp only [VM.sat,UB,G0,UD,UH,Av,e1,e2,e3]
 (with_reducible repeat' first|apply Al|intro _)
 all_goals first|exact Ak|omega|rfl|exact VR|exact UE|decide
theorem iM:VP VO 104 Qh7:=by
 refine ⟨(UJ Tryz.func104),?_⟩;intro avs ns res h hn;unfold Qh7 at h;split at h;cases h;exact Wo1 _ _ (hn _ VT) (hn _ VT);cases h
theorem Qf7(s:ByteArray)(k:Nat):0<=byN s k/\byN s k<=255:=by
 unfold byN;have:=(s.data.getD k 0).toNat_lt;omega
theorem Xn1(A B:ByteArray)(j:Nat):byN (A++B) j=if j<A.size then byN A j else byN B (j-A.size):=by
 unfold byN;have e:(A++B).data=A.data++B.data:=ByteArray.data_append;rw [e,P2,Array.getElem?_append];have hs:A.data.size=A.size:=rfl;rw [hs];split;rw [P2];rw [P2]
theorem Xn0(A B:ByteArray)(j:Nat):GI A.size (DQ A) (DQ B) j=DQ (A++B) j:=by
 show H6 (decide (j<A.size)) (DQ A j) (DQ B (j-A.size))=_;unfold DQ;rw [Xn1];by_cases h:j<A.size;rw [decide_eq_true h,if_pos h];rfl;rw [decide_eq_false h,if_neg h];rfl
theorem Wa3(s:ByteArray)(k:Nat)(h:k<1000):0<=((k:Int)+2)*(byN s k+3)/\((k:Int)+2)*(byN s k+3)<=258516:=by
 have hb:=Qf7 s k;refine ⟨Bz VJ VJ,?_⟩;have h1:((k:Int)+2)*(byN s k+3)<=((k:Int)+2)*258:=Int.mul_le_mul_of_nonneg_left VJ VJ;omega
theorem A7(s:ByteArray)(ix:Int)(O:0<=ix/\ix<=100000): ∀k:Nat,k<=1000->0<=tpC s ix k/\tpC s ix k<=2400000+(k:Int)*258516
 | 0,_=>by
  show 0<=23*(ix+1)/\23*(ix+1)<=_;omega
 |k+1,hk=>by
  have ih:=A7 s ix O k VJ;have hm:=Wa3 s k VJ;have e:tpC s ix (k+1)=tpC s ix k+((k:Int)+2)*(byN s k+3):=rfl;rw [e];generalize ((k:Int)+2)*(byN s k+3)=z at hm;omega
section
variable (s:ByteArray)
theorem eA(ix:Int):(rcB s ix).size=12+s.size:=by
 unfold rcB;rw [Av,Av,cB];have e1:(⟨#[10]⟩:ByteArray).size=1:=rfl;omega
theorem lK(L:Cf): ∀n,(∀k,k<n->(L k).size<=200)->(flB L n).size<=n*212
 | 0,_=>Am 0
 |n+1,h=>by
  have ih:=lK L n λk hk=>h k VJ;show (flB L n++rcB (L n) n).size<=_;rw [Av,eA];have:=h n VJ;omega
abbrev Z8:AV:=lst 1 (ByteArray.size s) λj=>[AV.x (.int IntKind.u8 (byN s j))]
def Zt7(ix:Int):St:={σ:=[HB s,iI ix,top,top,ptr 0 0]++HI 7 [Z8 s,iI (ByteArray.size s:Int)]++HI 19 [],m:=[(0,GO.cells 208 JT)],nx:=9}
noncomputable def Ju0:Code:=U9 (VS (U7 Tryz.f103) 0)
def Wj2(ix:Int)(k:Nat):St:=(upM [(5,i (tpC s ix k)),(6,.top),(7,.top),(14,i k)] (Zt7 s ix))
def CK(ix:Int)(k:Nat):G5->Option St
 | .exit 0=>some (upM [(5,i (tpC s ix s.size)),(6,.top),(7,.top),(14,i s.size)] (Zt7 s ix))
 |_=>none
def Jo8(ix:Int):CT:= .leaf (.exit 0,(CK s ix 0 (.exit 0)).getD (Zt7 s ix))
def Xy0(ix:Int):UG:=(HF (Wj2 s ix (0)) (Jo8 s ix))
abbrev W5:Prop:=HB s=HB s
theorem Jb3(ix:Int)(VR:s.size<=1000)(UE:0<=ix/\ix<=100000):G6 VO (.loop Ju0) (Xy0 s ix):=by
 refine HH (L:=[]) Aa VZ U2 (X:=Nat) (Wj2 s ix) (λk=>k<=s.size) (λk=>s.size-k) (CK s ix) (x0:=0) VT ?_ ?_ ?_;rintro k;kernel_rfl;rintro k y E h;unfold CK at h;split at h;cases h;kernel_rfl;cases h;rintro Q hQ k hx;refine ⟨(k+1),?_⟩;(with_reducible refine D9 (t:=branch (decide ((k:Int)<(ByteArray.size s:Int))) (need [UI k (ByteArray.size s)] (need [VL ((k:Int)+2)] (need [VL (byN s k)] (need [VL (byN s k+3)] (need [VL (((k:Int)+2)*(byN s k+3))] (need [VL (tpC s ix k+((k:Int)+2)*(byN s k+3))] (need [VL ((k:Int)+1)] (need [W5 s,ix=ix,QO,tpC s ix k+((k:Int)+2)*(byN s k+3)=tpC s ix (k+1),Z8 s=Z8 s,VY (ByteArray.size s:Int),(k:Int)+1=(↑(k+1):Int),QN,QN] (leaf G5.normal))))))))) (need [W5 s,ix=ix,QO,tpC s ix k=tpC s ix (ByteArray.size s),Z8 s=Z8 s,VY (ByteArray.size s:Int),(k:Int)=(ByteArray.size s:Int),QN,QN] (leaf (G5.exit 0)))) VU ?_);simp only [Jo8,CK,VM.sat,GS] at hQ;simp only [VM.sat,UB,G0,GL,UD,VL,UH,HA,FU,R9,RQ,GN,CK]
 have h1:=A7 s ix UE k VJ;refine ⟨λh=>?_,λh=>?_⟩;have hk:k<s.size:=VJ;have h2:=Wa3 s k VJ;have h3:=Qf7 s k;have e0:tpC s ix (k+1)=tpC s ix k+((k:Int)+2)*(byN s k+3):=rfl;generalize ((k:Int)+2)*(byN s k+3)=z at h2 e0 ⊢;exact V0;obtain rfl:k=s.size:=VJ;exact V0
end
def S8:UX
 |[.x (.string s),.x (.int .i64 ix)]=>some ([s.size<=1000,0<=ix/\ix<=100000],.agg [i s.size,i (tpK s ix)])
 |_=>none
theorem pK(s:ByteArray)(ix:Int)(VR:s.size<=1000)(UE:0<=ix/\ix<=100000):VX VO 103 [.x (.string s),i ix] (.agg [i s.size,i (tpK s ix)]):=by
 refine GA (L:=[Xy0 s ix]) Aa Ad VZ Tryz.func103 (UU Tryz.f103) (G7 (lpE (b:= .loop Ju0) VU<|(Jb3 s ix VR UE).N)) (t:=need [VL (ix+1)] (need [VL ((23:Int)*(ix+1))] (need [ByteArray.size s<=4294967296] (need [W5 s,ix=ix,QO,(23:Int)*(ix+1)=tpC s ix 0,Z8 s=Z8 s,VY (ByteArray.size s:Int),(0:Int)=((0:Nat):Int),QN,QN] (need [(99971:Int)≠0] (leaf (RV.agg [RV.x (.int .i64 (ByteArray.size s:Int)),RV.x (.int .i64 (Int.tmod (tpC s ix (ByteArray.size s)) (99971:Int)))]))))))) VU ?_
 have h1:=A7 s ix UE s.size VR;simp only [VM.sat,UB,G0,GL,UD,UH,VL];all_goals exact V7
theorem I0:VP VO 103 S8:=by
 refine ⟨(UJ Tryz.func103),?_⟩;intro avs ns res h hn;unfold S8 at h;split at h;cases h;exact pK _ _ (hn _ VT) (hn _ VT);cases h
section
variable (n:Nat)(L:Cf)
def Zv6:St:={σ:=[Q6 n L,top,Q9,top,top,top,Q6 n L,iI (n:Int)]++HI 16 [],m:=[(901,GO.row 5 1 0 λx=>[])],nx:=902}
noncomputable def Jw2:Code:=U9 (VS (U7 Tryz.f62) 0)
def Wl8(k:Nat):St:={σ:=GY [(3,.row 901),(4,.top),(5,.top),(8,i k)] (Zv6 n L).σ,m:=[(901,.row 5 1 (flB L k).size (DQ (flB L k)))],nx:=902}
def E3(k:Nat):G5->Option St
 | .exit 0=>some {σ:=GY [(3,.row 901),(4,.top),(5,.top),(8,i n)] (Zv6 n L).σ,m:=[(901,.row 5 1 (flB L n).size (DQ (flB L n)))],nx:=902}
 |_=>none
def Jr6:CT:= .leaf (.exit 0,(E3 n L 0 (.exit 0)).getD (Zv6 n L))
def Zb0:UG:=GJ [(.slot 3,901,5,1)] (HF (Wl8 n L (0)) (Jr6 n L))
theorem Jl3(VR:n<=50)(UE: ∀k,k<n->(L k).size<=200):G6 VO (.loop Jw2) (Zb0 n L):=by
 refine UR [(.slot 3,901,5,1)] (L:=[]) (Ae I0 (Ae iM Aa)) Ad VZ U2 (X:=Nat) (Wl8 n L) (λk=>k<=n) (λk=>n-k) (E3 n L) (x0:=0) VT ?_ ?_ ?_;rintro k;kernel_rfl;rintro k y E h;unfold E3 at h;split at h;cases h;kernel_rfl;cases h;rintro Q hQ k hx;refine ⟨(k+1),?_⟩;(with_reducible refine D9 (t:=branch (decide ((k:Int)<(n:Int))) (need [UI k n] (need [ByteArray.size (L k)<=1000,(0:Int)<=(k:Int)/\(k:Int)<=100000] (need [(0:Int)<=(↑(ByteArray.size (L k)):Int)/\(↑(ByteArray.size (L k)):Int)<=1000000000,(0:Int)<=tpK (L k) (k:Int)/\tpK (L k) (k:Int)<=1000000000] (need [(↑(ByteArray.size (tpB (↑(ByteArray.size (L k)):Int) (tpK (L k) (k:Int)))+ByteArray.size (L k)):Int)<=9223372036854775807] (need [(↑(ByteArray.size (tpB (↑(ByteArray.size (L k)):Int) (tpK (L k) (k:Int))++L k)+ByteArray.size {data:=#[10] }):Int)<=9223372036854775807] (need [ByteArray.size (flB L k)+ByteArray.size (tpB (↑(ByteArray.size (L k)):Int) (tpK (L k) (k:Int))++L k++{data:=#[10] })<=140737488355328] (need [VL ((k:Int)+1)] (need [VY (Q6 n L),Q9=Q9,W2,VY (Q6 n L),VY (n:Int),(k:Int)+1=(↑(k+1):Int),ByteArray.size (flB L k)+ByteArray.size (tpB (↑(ByteArray.size (L k)):Int) (tpK (L k) (k:Int))++L k++{data:=#[10] })=ByteArray.size (flB L (k+1)),∀(i:Nat),i<ByteArray.size (flB L (k+1))->GI (ByteArray.size (flB L k)) (DQ (flB L k)) (DQ (tpB (↑(ByteArray.size (L k)):Int) (tpK (L k) (k:Int))++L k++{data:=#[10] })) i=DQ (flB L (k+1)) i] (leaf G5.normal))))))))) (need [VY (Q6 n L),Q9=Q9,W2,VY (Q6 n L),VY (n:Int),(k:Int)=(n:Int),ByteArray.size (flB L k)=ByteArray.size (flB L n),∀(i:Nat),i<ByteArray.size (flB L n)->DQ (flB L k) i=DQ (flB L n) i] (leaf (G5.exit 0)))) VU ?_);simp only [Jr6,E3,VM.sat,GS] at hQ;simp only [VM.sat,UB,G0,GL,UD,VL,UH,HA,FU,R9,RQ,GN,E3]
 have h1:=lK L k λj hj=>UE j VJ;refine ⟨λh=>?_,λh=>?_⟩
 ·have hk:k<n:=VJ;have h2:=UE k hk;have h3:=A7 (L k) k VJ (L k).size VJ;have h4:tpK (L k) k=(tpC (L k) k (L k).size)%99971:=Int.tmod_eq_emod_of_nonneg h3.1;have h5:0<=tpK (L k) k/\tpK (L k) k<99971:=VJ;have h6:=eA (L k) k;have h7:=cB ((L k).size:Int) (tpK (L k) k);have e0:(flB L (k+1)).size=(flB L k).size+(rcB (L k) k).size:=Av;have e1:(⟨#[10]⟩:ByteArray).size=1:=rfl;have e2:(tpB ((L k).size:Int) (tpK (L k) k)++L k).size=11+(L k).size:=by rw [Av,h7]
  have e3:(tpB ((L k).size:Int) (tpK (L k) k)++L k++⟨#[10]⟩).size=12+(L k).size:=h6;have hq: ∀j,GI (flB L k).size (DQ (flB L k)) (DQ (tpB ((L k).size:Int) (tpK (L k) k)++L k++⟨#[10]⟩)) j=DQ (flB L (k+1)) j:=λj=>Xn0 _ (rcB (L k) k) j
  (with_reducible repeat' first|apply Al|intro _)
  all_goals first|exact PO|(first|exact hq _|(rw [e2,e1];omega)|(rw [e3];omega)|(rw [h7];omega))
 obtain rfl:k=n:=VJ;exact V0
theorem Wp4(VR:n<=50)(UE: ∀k,k<n->(L k).size<=200):VX VO 62 [lns n L] (.lst 1 (flB L n).size (DQ (flB L n))):=by
 refine GA (L:=[Zb0 n L]) (Ae I0 (Ae iM Aa)) Ad VZ Tryz.func62 (UU Tryz.f62) (G7 (lpE (b:= .loop Jw2) VU<|(Jl3 n L VR UE).N)) (t:=need [VY (Q6 n L),Q9=Q9,W2,VY (Q6 n L),VY (n:Int),(0:Int)=((0:Nat):Int),0=ByteArray.size (flB L 0),∀(i:Nat),i<ByteArray.size (flB L 0)->[]=DQ (flB L 0) i] (leaf (RV.lst 1 (ByteArray.size (flB L n)) λj=>[AV.x (.int IntKind.u8 (byN (flB L n) j))]))) VU ?_
 simp only [VM.sat,UB,G0,GL,UD,UH,VL];have hx: ∀k,∀a∈DQ (flB L n) k,isX a:=λk a ha=>by rw [PM.1 ha];exact Ak
 (with_reducible repeat' first|apply Al|intro _)
 all_goals first|exact Ak|omega|rfl|(rename_i h;exact absurd h (Aq _))|exact hx _ _ (by assumption)|decide
def Xa7:UX:=λl=>some ([l=[lns n L],ckE n L=0],.lst 1 (flB L n).size (DQ (flB L n)))
theorem Qq8:VP VO 62 (Xa7 n L):=by
 refine ⟨(UJ Tryz.func62),?_⟩;intro avs ns res h hn;cases h;have e:avs=[lns n L]:=hn _ VT;have h0:ckE n L=0:=hn _ VT;subst e;have hk:=hZ h0;exact Wp4 n L hk.1 hk.2
theorem Qr6(VR:n<=100):UN VO 32 [lns n L] (.branch (ckE n L != 0) (.leaf (.tup [.x (.slice none 0 0),i (ckE n L)])) (.leaf (.tup [.lst 1 (flB L n).size (DQ (flB L n)),i 0]))):=by
 refine GT (L:=[]) (Ae (PW n L VJ) (Ae (Qq8 n L) Aa)) Ad VZ Tryz.func32 (UU Tryz.f32) G8 (t:=need [(YN n L)] (branch (ckE n L != 0) (leaf (tup [Q9,iI (ckE n L)])) (need [(YN n L),ckE n L=0] (leaf (tup [lst 1 (ByteArray.size (flB L n)) λj=>[AV.x (.int IntKind.u8 (byN (flB L n) j))],iI 0]))))) VU ?_;intro Q hQ;simp only [VM.sat,UB,UH,VL,F4] at hQ ⊢;refine ⟨λh=>⟨.tup [.x (.slice none 0 0),i (ckE n L)],⟨rfl,⟨rfl,rfl⟩,Ak⟩,hQ.1 h⟩,λh=>?_⟩;have h0:ckE n L=0:=by simpa using h
 (with_reducible repeat' first|apply Al|intro _)
 all_goals first|exact Ak|exact h0|rfl|(exact ⟨.tup [.lst 1 (flB L n).size (DQ (flB L n)),i 0],⟨⟨rfl,rfl,λ_ _=>rfl⟩,⟨rfl,rfl⟩,Ak⟩,hQ.2 h⟩)
end
open Go Go.Sx Go.RowKit Go.ChangeShapes Go.WideShapes Go.ChangeAt
abbrev Qc7:List (String×DataW Unit):=Rows.headVoidRow.laid
theorem rowWrap{H:Type}{enc:TypeId×Value->H}{a:Assume}{C:Checked}{os:Os}{f:FuncId}{fn:Func}{s:ChangeSpec}{conds:List PathCond}{apart fresh AG again:Bool}{laid:List (String×DataW Unit)}
  (own:ownKnob C.prog.godebug=none)(started:os.Started)(noInit:C.prog.inits.idxOf? f=none)(hfn:C.prog.funcs[f]? =some fn)
  (witness: ∃(w:World) (tape:Tape) (i:Input),w.os=os/\(w.forCall tape i).Shaped C.prog/\i.vars=[]/\Input.okWide C.prog (w.forCall tape i) .any w.heap.size f i/\
   ((s.pre enc C.prog fn conds apart (w.forCall tape i).memory i.args/\laidMetH C.prog laid (w.forCall tape i).memory)/\sizedMet enc C.prog fn (OpenSpec.ofChange s) apart (w.forCall tape i).memory i.args)/\a.holds C.prog (lone (Frame.enter C.prog f i.args .normal) [] (w.forCall tape i)))
  (contract: ∀(W:World) (base:Nat) (args:Array Value) (ds gs:List (DataW H)) (before:List MemPlace),
   (∀(j:Nat) t v,fn.params[j]? =some t->args[j]? =some v->Value.okWide C.prog W .any base t v)->
   DataW.Whole enc C.prog fn.params.toList s.vars apart W args.toList ds gs before->
   (DataW.weightsEach C.prog (fn.params.toList++s.plain.varTypes C.prog) (ds++gs)).all (· <=reachBytes)=true->laidMetH C.prog laid W->W.ShapedOpen C.prog->
   Calls C.prog f args W λe W'=> ∃v,e= .returned v/\s.post enc C.prog fn apart fresh AG again W args v W'):
  ReturnsInHanded a C os f .any (λw args=>(s.pre enc C.prog fn conds apart w args/\laidMetH C.prog laid w)/\sizedMet enc C.prog fn (OpenSpec.ofChange s) apart w args) (s.post enc C.prog fn apart fresh AG again):=by
 refine returnsInHanded_of_calls own started noInit witness ?_;intro w tape i _ hsh _ hok gM _;obtain ⟨_,_,_,fn',hfn',_,_,_,_,N0⟩:=hok;obtain rfl:fn'=fn:=Bb (hfn'.symm.trans hfn);obtain ⟨⟨⟨ds,gs,before,hw,_⟩,hl⟩,hz⟩:=gM;refine (contract (w.forCall tape i) w.heap.size i.args ds gs before N0 (DataW.Whole.of_heap (w':=w.forCall tape i) (by rfl) hw) (hz.weights hw) (hl.of_heap (by rfl)) hsh).mono λe W' ⟨v,he,A⟩=>?_
 subst he;exact ChangeSpec.post_blind A
theorem own0:ownKnob Tryz.prog.godebug=none:=VU
theorem Xu3: "*"++ "errors.errorString"= "*errors.errorString":=by decide
theorem Wc4(u:TypeId)(h:Tryz.prog.typeName? 3 u=some "*errors.errorString"):u=355:=
 typeName_ptr_named (nm:= "errors.errorString") (by rw [Xu3];kernel_rfl) VU (by decide) u (by rw [Xu3];exact h)
theorem gR:Tryz.prog.globalNamed "strconv.ErrRange"=some 3:=VU
theorem gS:Tryz.prog.globalNamed "strconv.ErrSyntax"=some 2:=VU
theorem gT:Tryz.prog.globalNamed "internal/strconv.uint64pow10"=some 0:=VU
theorem Zl2{W:World}(h:laidMet Tryz.prog Qc7 W):Lib.TabIs Tryz.prog W "internal/strconv.uint64pow10" .u64 Lib.pow10Tab:=
 Lib.tabIs_of_head (g:=0) (t:=328) (e:=181) (n:=20) gT VU Tryz.underlying328 Tryz.underlying181 VU VU (laidMet.tail (laidMet.tail h))
theorem zV{W:World}{n:String}{g:Nat}{c:Array Value}{zero:Array Value}{t:TypeId}(hg:Tryz.prog.globalNamed n=some g)(I:W.var? Tryz.prog n=some c): ∃t fr,W.heap[g]? =some (.cells c t fr):=by
 unfold World.var? at I;rw [hg] at I
 dsimp only [Option.bind] at I
 cases ho:W.heap[g]? with
 |none=>simp [ho] at I
 |some o=>
  cases o<;>simp [ho] at I;exact ⟨_,_,by rw [I]⟩
theorem glob_of{W:World}(h:laidMetH Tryz.prog Qc7 W)(hsh:W.ShapedOpen Tryz.prog):DH (jG W) W:=by
 have hL:laidMet Tryz.prog Qc7 W:=by
  have h1:=h;rw [MakeChecks.laidMetH_plain _ _ _ VU] at h1;exact h1
 obtain ⟨aR,sR,vR,_⟩:=laid_sentinel (laidMet.tail (laidMet.tail (laidMet.tail (laidMet.tail hL)))) gR VU Tryz.underlying107 Wc4 Tryz.underlying355 Tryz.underlying357 rfl rfl Tryz.underlying9 VU VU;obtain ⟨aS,sS,vS,_⟩:=laid_sentinel (laidMet.tail (laidMet.tail (laidMet.tail (laidMet.tail (laidMet.tail hL))))) gS VU Tryz.underlying107 Wc4 Tryz.underlying355 Tryz.underlying357 rfl rfl Tryz.underlying9 VU VU;have vT:=Zl2 hL;obtain ⟨tR,fR,hR⟩:=zV (zero:=#[]) (t:=0) gR vR;obtain ⟨tS,fS,Z⟩:=zV (zero:=#[]) (t:=0) gS vS;obtain ⟨tT,fT,hT⟩:=zV (zero:=#[]) (t:=0) gT vT;obtain ⟨cs,hM,S,hok⟩:=hsh.1 1 #[.int .i64 0] 3 (B0 VU) VU;obtain ⟨ts,hts,_,HZ⟩:=hok VU;have hts':Tryz.prog.cellTypes Tryz.prog.depth 3=some [3]:=VU;rw [hts'] at hts;cases hts;have h1:0<cs.size:=by rw [S];decide
 obtain ⟨u,hu,hc⟩:=HZ 0 cs[0] (by simp [h1])
 obtain rfl:u=3:=by simpa using hu.symm
 have hm: ∃m,cs=#[.int .i64 m]:=by
  unfold Cell.ok at hc;rw [Tryz.underlying3] at hc;have hsz':cs.size=1:=S;have e:cs=#[cs[0]]:=by
   apply Array.ext;simp [hsz'];intro j a1 a2;have:j=0:=by simp at a2;omega
   subst this;rfl
  cases I:cs[0] with
  |int k m=>
   rw [I] at hc;have hk:k= .i64:=by
    have h9:=hc;simp at h9;exact h9.1
   subst hk;exact ⟨m,by rw [e,I]⟩
  |_=>rw [I] at hc;simp at hc
 obtain ⟨m,rfl⟩:=hm;have lt: ∀{g:Nat} {o:Obj},W.heap[g]? =some o->g<W.heap.size:=λh=>(P7.1 h).1;intro b p A
 match b,A with
 | 0,A=>cases A;exact ⟨lt hT,lt hT,_,hT,rfl,_,_,rfl⟩
 | 1,A=>cases A;exact ⟨lt hM,lt hM,_,hM,rfl,_,_,_,rfl⟩
 | 2,A=>cases A;exact ⟨lt Z,lt Z,_,Z,rfl,_,_,_,_,rfl⟩
 | 3,A=>cases A;exact ⟨lt hR,lt hR,_,hR,rfl,_,_,_,_,rfl⟩
 |b+4,A=>cases A
def Jg7:DataW Unit->List Value
 | .agg l=>l.map λ
  | .lit (.int k n)=> .int k n
  |_=> .nilIface
 |_=>[]
noncomputable def Jm9(os:Os):World:={World.doorLaid Tryz.prog 68 os with heap:=(World.doorLaid Tryz.prog 68 os).heap.modify 6 λ
 | .cells _ t fr=> .cells (Jg7 Go.Pinned.utf8First).toArray t fr
 |o=>o}
theorem Jm8(os:Os)(args:Array Value):laidMetH Tryz.prog Qc7 (((Jm9 os).forCall (λ_ _=>0) ⟨#[],args,[]⟩).memory):=
 laidMetH_of_parts3 (fuel:=8) (laidMet_of_run' 8 VU VU) VU VU
