/- Contracts, put together. Conditions: those of each. -/
import Derived.Test.YtakpdkmhclhlnaaGreatDoorMd
import Derived.Shelf.Strings.Prefix
import Derived.Shelf.Strings.Split
import Derived.Shelf.Strconv.AtoiAll
import Derived.Shelf.Strconv.Itoa3
import Derived.Shelf.Slices.Cells
import Derived.Deep.Upon
import Derived.Test.YtakpdkmhclhlnaaGreatDoorProg
import Derived.Lib.AppendIntMem
import Derived.Shelf.Spec.SlicesGrow
import Derived.Tactics
import Derived.Tactics2
import Derived.Defers
import Derived.Recover
import Derived.Laws.Pointers
import Derived.WideLaws
import Derived.RegionTactic
import Derived.Stop.Walk2
import Derived.RangeFuncRecord
import Derived.Test.YtakpdkmhclhlnaaGreatDoorCards
import Derived.Test.YtakpdkmhclhlnaaGreatDoorTie
import Derived.LaidMore
import Derived.OpenShut
import Derived.Stop.Joined
import Derived.Stop.LaidErr
import Derived.Lib.LaidTab
import Derived.Handed
import Derived.SevenTiedAt
import Derived.Lib.AtoiAllCases
set_option linter.unusedSimpArgs false
set_option linter.unusedVariables false
set_option maxRecDepth 100000
namespace Go.Proofs.YtakpdkmhclhlnaaGreatDoor.Hd
open Go Go.Sx Go.RowKit Bo
open Go.Sx.U6 (need branch leaf)
open Go.Sx.AV (lst ptr agg roI tup top)
abbrev KU(A:Int):Value:=Value.int IntKind.i64 A
theorem Xn7(n:Nat)(a b c U O:Cg)(ea la:AV)(d:Nat)(A:Int)(ord:List Int)(dy:Cg)(oa:Option Addr)(ol oc:Nat)(da:Option Addr)(dl dc:Nat)(N:Nat)(UB:sV n a b c U O)(UY:d<2^n)(DF:2^n-d<=N+1)(FS:0<=A/\A<=100)(qQ:ord.length<=1000)(jF:GT U8 237 (oZ n a b c U O N)):Xi2 U8 237 [.agg [i d,i A],.ptr 0 0,.ptr 1 0,.ptr 2 0,.ptr 3 0,.ptr 4 0] (OM n a b c U O ea la d A ord dy oa ol oc da dl dc) 901 [[.ptr 0 0,.ptr 1 0,.ptr 2 0,.ptr 3 0,.ptr 4 0]] (OT_ n a b c U O ea la d A ord dy oa ol oc da dl dc (orG n a b c U O d A)) (OF_ n a b c U O ea la d A ord dy oa ol oc da dl dc) (orS n a b c U O d A).isSome:=by
 refine Qv5 (X:={R:=[(131,CL)],H:=[(237,(oZ n a b c U O N))] }) (L:=[RH [d≠2^n-1] (Zf3 n a b c U O ea la d A ord dy oa ol oc da dl dc N)]) (Ae FP (Ae P4 Aa)) (Ai (Af S0 Ab) (Ag jF Ac)) UI Tryz.func237 (GF Tryz.f237) (GJ (lpE (b:= .rangeFunc (rfF (UC (UP Tryz.f237) 0)) (xP (UC (UP Tryz.f237) 0)) Kc0 Jz9) UD<|BV (λh=>Jl4 n a b c U O ea la d A ord dy oa ol oc da dl dc N UB ⟨UY,h⟩ DF FS qQ jF))) (N:=[(.cell 3 0,900,3,1)]) (t:=let z7:=(UJ (AV.x (.slice oa ol oc)));let I:=orH n a b c U O;let z6:=ZP n a b c U O ea la;let W:=(UJ (AV.x (.slice da dl dc)));let S:=(orG n a b c U O d A);let z5:=(Value.agg #[Value.int IntKind.i64 (d:Int),KU A]);let z0:=(need [d≠2^n-1] (need [UJ (agg [iI (d:Int),iI A]),QO,XN,ZD,ZI,W9,KZ,Y0,UJ (AV.fn (Fn.func 171) [] [AV.ro [QQ n a b c U O ea la],AV.ro [iI (d:Int)]]),false=false,UJ (d:Int),A=A,ZZ,z7,K6 ord,∀(i:Nat),i<List.length ord->[iI (US ord i)]=[iI (US ord i)],∀(k:Value),I k->I k/\orV k=orV k,n=n,∀(i:Nat),i<n->[iI (dy i)]=[iI (dy i)],z6,JR,QN=QN,JC,W,QO,XN,ZD,ZI,W9] (branch (Option.isSome (orS n a b c U O d A)) (need [ZZ,UJ (List.length (ord++orL S)),∀(i:Nat),i<List.length (ord++orL S)->[iI (US (ord++orL S) i)]=[iI (US (ord++orL S) i)],∀(k:Value),I k->I k/\orV k=orV k,n=n,∀(i:Nat),i<n->[iI (dyU S dy i)]=[iI (dyU S dy i)],z6,JR,QN=QN,JC,W,QO,XN,ZD,ZI,W9] (leaf true)) (need [∀(u:Value),I u->orV u=Value.bool true,RC Tryz.prog 340 (λu=>I u\/u=Value.agg #[Value.int IntKind.i64 (d:Int),KU A]) z5 (WP)] (need [ZZ,z7,K6 ord,∀(i:Nat),i<List.length ord->[iI (US ord i)]=[iI (US ord i)],∀(k:Value),I k\/k=Value.agg #[Value.int IntKind.i64 (d:Int),KU A]->I k/\Value.bool true=orV k,n=n,∀(i:Nat),i<n->[iI (dy i)]=[iI (dy i)],z6,JR,QN=QN,JC,W,QO,XN,ZD,ZI,W9] (leaf false))))));let z1:=(need [ZZ,z7,K6 ord,∀(i:Nat),i<List.length ord->[iI (US ord i)]=[iI (US ord i)],∀(k:Value),I k->I k/\orV k=orV k,n=n,∀(i:Nat),i<n->[iI (dy i)]=[iI (dy i)],z6,JR,QN=QN,JC,W,QO,XN,ZD,ZI,W9] (leaf false));(need [n<=8] (branch ((d:Int)==2^n-1) (need [ZZ,List.length ord=List.length (ord++orL S),∀(i:Nat),i<List.length (ord++orL S)->[iI (US ord i)]=[iI (US (ord++orL S) i)],∀(k:Value),I k->I k/\orV k=orV k,n=n,∀(i:Nat),i<n->[iI (dy i)]=[iI (dyU S dy i)],z6,JR,QN=QN,JC,W,QO,XN,ZD,ZI,W9] (leaf true)) (need [RC Tryz.prog 340 (I) z5 (WP)] (U6.may (I z5) (branch true z1 z0) (branch false z1 z0)))))) UD UD rfl rfl UD ?_
 have h8:=UB.1;have hp1:1<=2^n:=Cc;have hpn:((2^n:Nat):Int)=2^n:=UE;have hmk:RC Tryz.prog 340 (orH n a b c U O) (.agg #[.int .i64 d,.int .i64 A]) (.bool false):=(SA d A).mono (λx hx=>Wl1 hx);have hmk2:RC Tryz.prog 340 (λu=>orH n a b c U O u\/u= .agg #[.int .i64 d,.int .i64 A]) (.agg #[.int .i64 d,.int .i64 A]) (.bool false):=(SA d A).mono (λx hx=>hx.elim Wl1 (λh=>⟨_,_,h⟩));have Jp1:orH n a b c U O (.agg #[.int .i64 d,.int .i64 A])->(orS n a b c U O d A).isSome=false:=by
  rintro ⟨d',day',h,_,h2⟩;simp only [Value.agg.injEq,Array.mk.injEq,List.cons.injEq,Value.int.injEq,G4] at h;obtain ⟨e1,rfl⟩:=h;obtain rfl:d=d':=U3;rw [h2];rfl
 have Jo5:(orS n a b c U O d A).isSome=false-> ∀k,orH n a b c U O k\/k= .agg #[.int .i64 d,.int .i64 A]->orH n a b c U O k/\Value.bool true=orV k:=by
  rintro hn k (hk|rfl);exact ⟨hk,rfl⟩;exact ⟨⟨d,A,rfl,UY,by simpa using hn⟩,rfl⟩
 simp only [U6.sat,UU,G4];refine ⟨h8,?_⟩;by_cases hw:d=2^n-1;have hS:orS n a b c U O d A=some []:=by
  rw [hw];exact Wl0 h8 A
 have hG:orG n a b c U O d A=[]:=by
  unfold orG;rw [hS];rfl
 rw [hG,hS];refine ⟨λ_=>?_,λh=>?_⟩
 ·simp only [orL,List.map_nil,List.append_nil,dyU];all_goals exact VM
 exfalso;rw [beq_eq_false_iff_ne] at h;omega;refine ⟨λh=>?_,λ_=>?_⟩;exfalso;rw [beq_iff_eq] at h;omega
 ·(with_reducible repeat' first|apply Al|intro _)
  all_goals first|exact Ak|exact hmk|exact hmk2|exact hw|(exact (Jp1 (by assumption)).symm)|rfl|contradiction|(exact Eq.symm (by assumption))|assumption|exact (Jo5 (by assumption) _ (by assumption)).1|exact (Jo5 (by assumption) _ (by assumption)).2
theorem Wk9{n:Nat}{a b c U O:Cg}(h0:sV n a b c U O): ∀N:Nat,GT U8 237 (oZ n a b c U O N)
 | 0=>lD λea la d A ord dy oa ol oc da dl dc h1 h2=>U3
 |N+1=>lD λea la d A ord dy oa ol oc da dl dc h1 h2 h3 h4=>Xn7 n a b c U O ea la d A ord dy oa ol oc da dl dc N h0 h1 h2 h3 h4 (Wk9 h0 N)
open Go Go.Shelf
def lP:Go.Shelf.Ren:=⟨λ| 101=>182| 208=>214| 206=>239|n=>n,λn=>n,λn=>n⟩
theorem Xo6:Go.Proofs.Lays.n101 Tryz.prog lP:=by
 constructor<;>first|(intro _;kernel_rfl)|kernel_rfl|(constructor<;>first|(intro _;kernel_rfl)|kernel_rfl|(constructor<;>first|(intro _;kernel_rfl)|kernel_rfl))
def dM:Go.Shelf.Ren:=⟨λ| 146=>143| 221=>173| 268=>200| 138=>201| 143=>202| 195=>229| 197=>230| 218=>231| 219=>232| 260=>246| 217=>247| 225=>248| 224=>249| 267=>250| 266=>255| 314=>256|n=>n,λ| 31=>26| 105=>334| 46=>331| 119=>360| 139=>363| 138=>362| 146=>364| 51=>329|n=>n,λ| 1=>1| 3=>6| 4=>7|n=>n⟩
theorem Wn9:Go.Proofs.Lays.n146 Tryz.prog dM:=by
 constructor<;>first|(intro _;kernel_rfl)|kernel_rfl|(constructor<;>first|(intro _;kernel_rfl)|kernel_rfl|(constructor<;>first|(intro _;kernel_rfl)|kernel_rfl))
def lU:Go.Shelf.Ren:=⟨λ| 172=>147| 244=>183| 245=>184| 247=>215| 279=>216| 280=>217| 281=>218| 282=>219| 287=>240| 316=>241| 171=>69| 205=>242| 321=>253| 322=>254| 243=>112| 246=>149| 283=>185| 284=>186| 285=>187| 286=>188| 129=>221| 317=>220| 318=>222| 319=>223| 320=>224| 337=>243| 338=>244|n=>n,λ| 75=>107| 76=>108| 167=>321| 37=>87| 85=>322| 168=>324| 53=>181| 175=>345| 46=>331| 210=>349| 127=>165| 145=>357| 143=>355| 171=>287| 173=>290| 212=>328| 51=>329| 213=>330| 232=>358| 233=>359| 80=>122|n=>n,λ| 15=>2| 16=>3| 17=>0| 18=>4| 19=>5|n=>n⟩
theorem dO:Go.Proofs.LaysC.n172 Tryz.prog lU:=by
 constructor<;>first|(intro _;kernel_rfl)|kernel_rfl|(constructor<;>first|(intro _;kernel_rfl)|kernel_rfl|(constructor<;>first|(intro _;kernel_rfl)|kernel_rfl))
def lR:Go.Shelf.Ren:=⟨λ| 171=>69| 243=>112| 246=>149| 283=>185| 284=>186| 285=>187| 286=>188| 129=>221| 317=>220| 318=>222| 319=>223| 320=>224| 337=>243| 338=>244|n=>n,λ| 171=>287| 53=>181| 37=>87| 173=>290| 212=>328| 51=>329| 213=>330| 46=>331| 232=>358| 233=>359|n=>n,λ| 17=>0| 18=>4| 19=>5|n=>n⟩
theorem Qi0:Go.Proofs.LaysM.n171 Tryz.prog lR:=by
 constructor<;>first|(intro _;kernel_rfl)|kernel_rfl|(constructor<;>first|(intro _;kernel_rfl)|kernel_rfl|(constructor<;>first|(intro _;kernel_rfl)|kernel_rfl))
open Go.Sx
open Go Go.Shelf Go.Sx Go.RowKit
def tA:Go.Shelf.Ren:=⟨λ| 112=>238|n=>n,λ| 28=>22|n=>n,λn=>n⟩
theorem Wo0:Go.Proofs.Lays.n112 Tryz.prog tA:=by
 constructor<;>first|(intro _;kernel_rfl)|kernel_rfl|(constructor<;>first|(intro _;kernel_rfl)|kernel_rfl|(constructor<;>first|(intro _;kernel_rfl)|kernel_rfl))
def Qe5:DK:=λavs m nx sv=>match avs with
 |[.row q]=>match DY m q with
  |some (.row T sz n g)=>match S8 [(T,3),(sz,1)] with
   |true=>some (.needT [G0 1 n g,n<=100000] (.leaf (.tup [],kL (sT m) q,nx,sv)))
   |false=>none
  |_=>none
 |_=>none
theorem vX(b:Nat): ∀(vs:List Value) (o:Nat) (w:World),(w.setCells b o vs).heap.size=w.heap.size
 |[],_,_=>rfl
 |v::r,o,w=>by
  rw [World.setCells,vX b r];simp
theorem vW(b:Nat): ∀(vs:List Value) (o:Nat) (w:World),(w.setCells b o vs).tape=w.tape
 |[],_,_=>rfl
 |v::r,o,w=>by
  rw [World.setCells,vW b r];simp
theorem Qs4{w:World}{ov:Value}{n:Nat}{l:List Int}(I:n<=100000)(ho:w.ownsRow 0 3 1 ov n (l.map (Value.int .i64))):
  Calls Tryz.prog 238 #[ov] w λen w1=>en= .returned (.tuple #[])/\w1.heap.size=w.heap.size/\w1.os=w.os/\w1.tape=w.tape/\w1.output=w.output/\ ∀x,x<w.heap.size->ov.ownBlock≠some x->w1.heap[x]? =w.heap[x]? :=by
 have DJ:l.length=n:=by
  have:=ho.1;simpa using this
 rcases ho.2 with ⟨rfl,rfl⟩|⟨g,cap,cur,rfl,_,hh,r1,r2,r3,r4⟩;refine Calls.mono (Any.slices_Reverse_int_empty Wo0 none 0 w) ?_;rintro en w1 ⟨rfl,rfl⟩;exact ⟨rfl,rfl,rfl,rfl,rfl,λ_ _ _=>rfl⟩;have BJ: ∀j,j<l.length->w.cell? ⟨g,0+j,none⟩=some (.int .i64 (l.getD j 0)):=by
  intro j hj;have h2:cur[j]? =some (.int .i64 (l.getD j 0)):=by
   have h3:=congrArg (λl=>l[j]?) r4;simp only [List.getElem?_take,Bn] at h3;rw [if_pos U3,DP hj] at h3;rw [List.getD_eq_getElem?_getD,DP hj];simpa using h3
  rw [Ap];simp [World.cell?,hh,h2]
 refine Calls.mono (Any.slices_Reverse_int_cells Wo0 g 0 n cap l w U3 U3 BJ (λj _=>by simp [World.frozen?,hh])) ?_
 rintro en w1 ⟨rfl,q,rfl⟩;refine ⟨rfl,?_,?_,?_,?_,λx hx hne=>?_⟩;rw [vX];rfl;rw [World.os_setCells];rfl;rw [vW];rfl;rw [World.output_setCells];rfl;exact World.heap_setCells_other (w.drewN q) g 0 _ hx (λh=>hne (by rw [h];rfl))
theorem Wk5:GT U8 238 Qe5:=by
 refine ⟨(UZ Tryz.func238),?_⟩;intro avs m nx sv tr ht Q hQ cx w0 TT e ds args w hE hB hm hlv L8 hxt hr;unfold Qe5 at ht;split at ht;rename_i q;split at ht;rename_i T sz n g h1;split at ht;rename_i hb;simp only [IP] at hb;obtain ⟨rfl,rfl,_⟩:=hb;cases ht;obtain ⟨I,hq⟩:=U6.sat_needT hQ;obtain ⟨n1,n2⟩:=I;obtain ⟨ov,l1,rfl,r1,hr⟩:=hr.cons_inv;obtain rfl:=hr.nil_inv;have H1:=hm _ (GI h1);have R1:=wH H1 n1;have hv:e.val q=ov:=by
  cases r1 with
  |row _ a n c _ hv=>exact hv
 simp only at R1;rw [hv] at R1;have own1: ∀x,ov.ownBlock=some x->e.own x=some q:=λx hx=>H1.2.1 x (by show (e.val q).ownBlock=some x;rw [hv];exact hx)
 refine (Qs4 n2 R1).mono ?_;rintro en w1 ⟨rfl,hsz,q1,q2,q3,kF⟩;have dne: ∀{x y j j':Nat},e.own x=some j->e.own y=some j'->j≠j'->x≠y:=by
  rintro x y j j' hx hy hj rfl;rw [hx] at hy;exact hj (Bb hy)
 have Xq4: ∀x,x<w.heap.size->e.ro x->w1.heap[x]? =w.heap[x]? :=λx hx hx2=>kF x hx (λh=>by
  have:=own1 x h;rw [(hE.apart x hx2).1] at this;cases this)
 have st:Step e e w w1:=⟨λx hx hx2=>⟨hx2,Xq4 x hx hx2⟩,λ_ h=>⟨h,rfl,rfl⟩,U3⟩;have hBel:Below w0.heap.size w0 w1:=by
  refine ⟨q1.trans hB.os,q2.trans hB.tape,q3.trans hB.output,by have:=hB.size;omega,λx hx=>?_⟩
  rw [kF x (qY hx hB.size) (λh=>by have:=(hE.owned _ _ (own1 x h)).1;omega)]
  exact hB.block x hx
 refine ⟨_,_,_,_,_,e,rfl,hq,⟨λx hx=>⟨(hE.apart x hx).1,by rw [hsz];exact (hE.apart x hx).2⟩,λx j hx=>⟨(hE.owned x j hx).1,by rw [hsz];exact (hE.owned x j hx).2⟩,hE.glob.step st⟩,hBel,?_,hlv,L8,hxt.step st,Rep.tupL (.nil _ _)⟩
 intro p hp;obtain ⟨hp,hne⟩:=LV hp;obtain ⟨hpm,hna⟩:=IS hp;exact P9 st (λx hx=>⟨hx,kF x (hE.owned x _ hx).2 (λh=>dne hx (own1 x h) hne rfl)⟩) hna (hm p hpm);cases ht;cases ht;cases ht
section
variable (n:Nat)(a b c U O:Cg)
def orE:Int:=if jV n a b c U O=true then 0 else 9
theorem Qt4(UB:sV n a b c U O):UH U8 213 [.agg [i 4,i 10,sls n a b c U O]] (.tup [.top,.top,i (orE n a b c U O)]):=by
 refine GW (X:={R:=[],H:=[(237,(Za9 [(.slot 1,0,0,0),(.slot 2,0,0,0),(.slot 3,0,0,0),(.cell 1 0,900,3,1)] (oZ n a b c U O (2^n)))),(238,Qe5)],C:=[(55,(NM n a b c U O))] }) (L:=[]) Aa (Aj Ab (Ag (lI (Wk9 UB (2^n))) (Ag Wk5 Ac)) (Ah (uM n a b c U O UB) (UV.nil _))) UI Tryz.func213 (GF Tryz.f213) GN (t:=let z2:=(orG n a b c U O (0:Int).toNat (0:Int));let z0:=(leaf (RV.tup [RV.top,RV.lst 1 n λj=>[iI (dyU z2 (col 0 λx=>List.map AV.x (Array.toList (Value.cells (X3)))) j)],RV.x (X3)]));let z1:=(leaf (RV.tup [RV.top,RV.lst 1 n λx=>[iI 0],RV.x (X3)]));let z3:=(need [(0:Int)<=(n:Int)/\(n:Int)<=1000000,UJ (n:Int)] U6.fail);(need [QP n a b c U O] (branch (!true) (branch ((2:Int) != 0) (leaf (RV.tup [RV.x (J8),RV.x (J8),RV.x (.int .i64 (2:Int))])) z3) (branch (!jV n a b c U O) (branch ((9:Int) != 0) (leaf (RV.tup [RV.x (J8),RV.x (J8),RV.x (.int .i64 (9:Int))])) z3) (branch ((0:Int) != 0) (leaf (RV.tup [RV.x (J8),RV.x (J8),RV.x (X3)])) (need [(0:Int)<=(n:Int)/\(n:Int)<=1000000,UJ (n:Int)] (need [UJ (iI 4),UJ (iI 10),W7 n a b c U O,∀(x:Value),False->orH n a b c U O x/\x=orV x,G0 1 0 λx=>[],G0 1 n λx=>List.map AV.x (Array.toList (Value.cells (X3))),n=n,(0:Int)<=0/\(0:Int)<2^n,2^n-(0:Int).toNat<=2^n,(0:Int)<=0/\(0:Int)<=100,0<=1000] (branch (Option.isSome (orS n a b c U O (0:Int).toNat (0:Int))) (need [G0 1 (List.length ((zI 0 λx=>[])++orL z2)) λj=>[i (US ((zI 0 λx=>[])++orL z2) j)],List.length ((zI 0 λx=>[])++orL z2)<=100000] (U6.may True z0 (U6.may True z0 z0))) (need [G0 1 0 λx=>[],0<=100000] (U6.may True z1 (U6.may True z1 z1))))))))))) UD ?_;have h8:=UB.1;have hp1:1<=2^n:=Cc;have hpi:=d9 h8;have h256:=C8 h8;have hgl:=Qh0 n a b c U O 0 0;simp only [U6.sat,UU,GS,H6,UX,G4,orE,Int.toNat_zero];refine ⟨λh=>by simp at h,λ_=>⟨λh=>?_,λh=>?_⟩⟩
 have hf: ¬jV n a b c U O=true:=by
  rw [Ax] at h;rw [h];simp
 rw [if_neg hf];exact ⟨λ_=>rfl,λh=>by simp at h⟩
 have hf:jV n a b c U O=true:=by simpa using h
 rw [if_pos hf];have DJ:((zI 0 λx=>[])++orL (orG n a b c U O 0 0)).length<=100000:=by
  rw [Be];simp only [zI,orL,List.range_zero,List.map_nil,List.length_nil,Bm];omega
 refine ⟨λh=>by simp at h,λ_=>⟨U3,⟨λ_ h=>h.elim,λk hk=>absurd hk (Aq _),λk _=>rfl,U3,U3⟩,λ_=>?_,λ_=>?_⟩⟩
 exact ⟨⟨pV _ _,DJ⟩,λ_=>rfl,λ_=>rfl,rfl⟩;exact ⟨⟨λk hk=>absurd hk (Aq _),U3⟩,λ_=>rfl,λ_=>rfl,rfl⟩
end
def gdX(sz n:Nat)(f:Ci):Prop:= ∀k,k<n->(f k).length=sz/\ ∀x∈f k,isX x/\AV.one x=true
def D2(n:Nat)(f:Cg)(x:Int)(k:Nat):Int:=if k<n then f k else x
def apB(n:Nat)(f:Nat->Bool)(x:Bool)(k:Nat):Bool:=if k<n then f k else x
abbrev crs(n:Nat)(a b c d:Cg)(v:Nat->Bool):AV:= .lst 5 n (λk=>[i (a k),i (b k),i (c k),i (d k),bl (v k)])
theorem fH(f:Ci)(k:Nat):GX 0 (λ_=>[]) f k=f k:=by
 show HX (decide (k<0)) [] (f (k-0))=_;rw [show decide (k<0)=false by simp]
 rfl
theorem VL{p:Prop}(h:p:=by
 simp only [U6.sat,UU,Xr7,true_and];refine ⟨λh=>h,⟨U3,λk hk x hm=>((UY k hk).2 x hm).2⟩,U3,λk hk=>⟨fH f k,λx hm=>((UY k hk).2 x hm).1⟩⟩):p:=h
theorem Wv7(n:Nat)(f:Ci)(UB:n<=100000)(UY:gdX 4 n f):FC U8 99 [.lst 4 n f] 145 4 (n) (f):=by
 refine qP (L:=[]) Aa Ad UI Tryz.func99 (GF Tryz.f99) GN (t:=U6.may (n=0) (leaf none) (need [(0+n)*32<=140737488355328,∀(i:Nat),i<n-> ∀(a:AV),a∈f i->AV.one a=true] (leaf (some (145,4,0+n,GX 0 (λx=>[]) λa=>f a))))) UD ?_ (λk hk=>(UY k hk).1);exact VL
def Qe9:qN:=λl=>match l with
 |[.lst 4 n f]=>some ([n<=100000,gdX 4 n f],145,4,n,f)
 |_=>none
theorem Wv6:Sx.Enters Tryz.prog 99/\ ∀avs ns T sz n g,Qe9 avs=some (ns,T,sz,n,g)->(∀q∈ns,q)->FC U8 99 avs T sz n g:=by
 refine ⟨(UZ Tryz.func99),?_⟩;intro avs ns T sz n g h I;unfold Qe9 at h;split at h;cases h;exact Wv7 _ _ (I _ UE) (I _ UE);cases h
theorem Wv9(n:Nat)(f:Ci)(UB:n<=100000)(UY:gdX 5 n f):FC U8 100 [.lst 5 n f] 74 5 (n) (f):=by
 refine qP (L:=[]) Aa Ad UI Tryz.func100 (GF Tryz.f100) GN (t:=U6.may (n=0) (leaf none) (need [(0+n)*40<=140737488355328,∀(i:Nat),i<n-> ∀(a:AV),a∈f i->AV.one a=true] (leaf (some (74,5,0+n,GX 0 (λx=>[]) λa=>f a))))) UD ?_ (λk hk=>(UY k hk).1);exact VL
def e9:qN:=λl=>match l with
 |[.lst 5 n f]=>some ([n<=100000,gdX 5 n f],74,5,n,f)
 |_=>none
theorem mQ:Sx.Enters Tryz.prog 100/\ ∀avs ns T sz n g,e9 avs=some (ns,T,sz,n,g)->(∀q∈ns,q)->FC U8 100 avs T sz n g:=by
 refine ⟨(UZ Tryz.func100),?_⟩;intro avs ns T sz n g h I;unfold e9 at h;split at h;cases h;exact Wv9 _ _ (I _ UE) (I _ UE);cases h
theorem Wv5(n:Nat)(f:Ci)(UB:n<=100000)(UY:gdX 5 n f):FC U8 101 [.lst 5 n f] 152 5 (n) (f):=by
 refine qP (L:=[]) Aa Ad UI Tryz.func101 (GF Tryz.f101) GN (t:=U6.may (n=0) (leaf none) (need [(0+n)*40<=140737488355328,∀(i:Nat),i<n-> ∀(a:AV),a∈f i->AV.one a=true] (leaf (some (152,5,0+n,GX 0 (λx=>[]) λa=>f a))))) UD ?_ (λk hk=>(UY k hk).1);exact VL
def Qe8:qN:=λl=>match l with
 |[.lst 5 n f]=>some ([n<=100000,gdX 5 n f],152,5,n,f)
 |_=>none
theorem Wv4:Sx.Enters Tryz.prog 101/\ ∀avs ns T sz n g,Qe8 avs=some (ns,T,sz,n,g)->(∀q∈ns,q)->FC U8 101 avs T sz n g:=by
 refine ⟨(UZ Tryz.func101),?_⟩;intro avs ns T sz n g h I;unfold Qe8 at h;split at h;cases h;exact Wv5 _ _ (I _ UE) (I _ UE);cases h
theorem Wv3(n:Nat)(f:Ci)(UB:n<=100000)(UY:gdX 2 n f):FC U8 102 [.lst 2 n f] 150 2 (n) (f):=by
 refine qP (L:=[]) Aa Ad UI Tryz.func102 (GF Tryz.f102) GN (t:=U6.may (n=0) (leaf none) (need [(0+n)*16<=140737488355328,∀(i:Nat),i<n-> ∀(a:AV),a∈f i->AV.one a=true] (leaf (some (150,2,0+n,GX 0 (λx=>[]) λa=>f a))))) UD ?_ (λk hk=>(UY k hk).1);exact VL
def Qe7:qN:=λl=>match l with
 |[.lst 2 n f]=>some ([n<=100000,gdX 2 n f],150,2,n,f)
 |_=>none
theorem Wv2:Sx.Enters Tryz.prog 102/\ ∀avs ns T sz n g,Qe7 avs=some (ns,T,sz,n,g)->(∀q∈ns,q)->FC U8 102 avs T sz n g:=by
 refine ⟨(UZ Tryz.func102),?_⟩;intro avs ns T sz n g h I;unfold Qe7 at h;split at h;cases h;exact Wv3 _ _ (I _ UE) (I _ UE);cases h
abbrev rdl(n:Nat)(r v:Cg):AV:= .lst 2 n (λk=>[i (r k),i (v k)])
theorem VH{p:Prop}(h:p:=by
 have e0:j-n=0:=U3;show HX (decide (j<n)) _ (UO _ _ (j-n))=_;rw [e0];rcases (show j<n\/j=n by omega) with h|rfl
 rw [decide_eq_true h];simp only [D2,apB,if_pos h];rfl;rw [show decide (j<j)=false by simp]
 simp only [D2,apB,if_neg (Bf j)];rfl):p:=h
section
variable (n:Nat)
theorem Zt9(a b u v:Cg)(x0 A W S:Int)(UB:n<=100000):UH U8 204 [rds n a b u v,.agg [i x0,i A,i W,i S]] (rds (n+1) (D2 n a x0) (D2 n b A) (D2 n u W) (D2 n v S)):=by
 refine GW (X:={R:=[],H:=[],C:=[],F:=[(99,Qe9)],D:=[] }) (L:=[]) Aa (UG.ofF Ab Ac (UV.nil _) (LL.cons Wv6 (LL.nil _)) (BW.nil _)) UI Tryz.func204 (GF Tryz.f204) GN (t:=need [n<=100000,gdX 4 n λk=>[Bo.i (a k),Bo.i (b k),Bo.i (u k),Bo.i (v k)]] (need [(n+1)*32<=140737488355328,L0 1 (UO 4 [iI x0,iI A,iI W,iI S])] (leaf (RV.lst 4 (n+1) (GX n ((rq4 a b u v)) (UO 4 [iI x0,iI A,iI W,iI S])))))) UD ?_;simp only [U6.sat,UU,GS,H6,UX,G4];have hg:gdX 4 n (λk=>[i (a k),i (b k),i (u k),i (v k)]):=λk _=>⟨rfl,λx hx=>by
  simp only [HA,F8,or_false] at hx;rcases hx with rfl|rfl|rfl|rfl<;>exact ⟨Ak,by simp [AV.one,Value.oneCell']⟩⟩
 refine ⟨⟨UB,hg⟩,⟨U3,λj hj x hx=>?_⟩,?_⟩;obtain rfl:j=0:=U3;have hx:x∈[i x0,i A,i W,i S]:=hx;simp only [HA,F8,or_false] at hx;rcases hx with rfl|rfl|rfl|rfl<;>simp [AV.one,Value.oneCell'];intro j hj;refine ⟨?_,λx hx=>?_⟩;exact VH;simp only [HA,F8,or_false] at hx;rcases hx with rfl|rfl|rfl|rfl<;>exact Ak
def Qp4(a b u v:Cg):GM
 |[.lst 4 n1 f1,.agg [.x (.int .i64 x0),.x (.int .i64 A),.x (.int .i64 W),.x (.int .i64 S)]]=>some ([lst 4 n1 f1=rds n a b u v,n<=100000],rds (n+1) (D2 n a x0) (D2 n b A) (D2 n u W) (D2 n v S))
 |_=>none
theorem Xp9(a b u v:Cg):UA U8 204 (Qp4 n a b u v):=by
 refine ⟨(UZ Tryz.func204),?_⟩;intro avs ns res h I;unfold Qp4 at h;split at h;cases h;have e:=I _ H0;rw [e];exact Zt9 n a b u v _ _ _ _ (I _ UE);cases h
theorem Zt8(a b c U O:Cg)(x0 A W S x4:Int)(UB:n<=100000):UH U8 212 [sls n a b c U O,.agg [i x0,i A,i W,i S,i x4]] (sls (n+1) (D2 n a x0) (D2 n b A) (D2 n c W) (D2 n U S) (D2 n O x4)):=by
 refine GW (X:={R:=[],H:=[],C:=[],F:=[(101,Qe8)],D:=[] }) (L:=[]) Aa (UG.ofF Ab Ac (UV.nil _) (LL.cons Wv4 (LL.nil _)) (BW.nil _)) UI Tryz.func212 (GF Tryz.f212) GN (t:=need [n<=100000,gdX 5 n λk=>[i (a k),i (b k),i (c k),i (U k),i (O k)]] (need [(n+1)*40<=140737488355328,L0 1 (UO 5 [iI x0,iI A,iI W,iI S,iI x4])] (leaf (RV.lst 5 (n+1) (GX n (λk=>[iI (a k),iI (b k),iI (c k),iI (U k),iI (O k)]) (UO 5 [iI x0,iI A,iI W,iI S,iI x4])))))) UD ?_;simp only [U6.sat,UU,GS,H6,UX,G4];have hg:gdX 5 n (λk=>[i (a k),i (b k),i (c k),i (U k),i (O k)]):=λk _=>⟨rfl,λx hx=>by
  simp only [HA,F8,or_false] at hx;rcases hx with rfl|rfl|rfl|rfl|rfl<;>exact ⟨Ak,by simp [AV.one,Value.oneCell']⟩⟩
 refine ⟨⟨UB,hg⟩,⟨U3,λj hj x hx=>?_⟩,?_⟩;obtain rfl:j=0:=U3;have hx:x∈[i x0,i A,i W,i S,i x4]:=hx;simp only [HA,F8,or_false] at hx;rcases hx with rfl|rfl|rfl|rfl|rfl<;>simp [AV.one,Value.oneCell'];intro j hj;refine ⟨?_,λx hx=>?_⟩;exact VH;simp only [HA,F8,or_false] at hx;rcases hx with rfl|rfl|rfl|rfl|rfl<;>exact Ak
def Qp3(a b c U O:Cg):GM
 |[.lst 5 n1 f1,.agg [.x (.int .i64 x0),.x (.int .i64 A),.x (.int .i64 W),.x (.int .i64 S),.x (.int .i64 x4)]]=>some ([lst 5 n1 f1=sls n a b c U O,n<=100000],sls (n+1) (D2 n a x0) (D2 n b A) (D2 n c W) (D2 n U S) (D2 n O x4))
 |_=>none
theorem Xp8(a b c U O:Cg):UA U8 212 (Qp3 n a b c U O):=by
 refine ⟨(UZ Tryz.func212),?_⟩;intro avs ns res h I;unfold Qp3 at h;split at h;cases h;have e:=I _ H0;rw [e];exact Zt8 n a b c U O _ _ _ _ _ (I _ UE);cases h
theorem Zt7(r v:Cg)(x0 A:Int)(UB:n<=100000):UH U8 210 [rdl n r v,.agg [i x0,i A]] (rdl (n+1) (D2 n r x0) (D2 n v A)):=by
 refine GW (X:={R:=[],H:=[],C:=[],F:=[(102,Qe7)],D:=[] }) (L:=[]) Aa (UG.ofF Ab Ac (UV.nil _) (LL.cons Wv2 (LL.nil _)) (BW.nil _)) UI Tryz.func210 (GF Tryz.f210) GN (t:=need [n<=100000,gdX 2 n λk=>[i (r k),i (v k)]] (need [(n+1)*16<=140737488355328,L0 1 (UO 2 [iI x0,iI A])] (leaf (RV.lst 2 (n+1) (GX n (λk=>[iI (r k),iI (v k)]) (UO 2 [iI x0,iI A])))))) UD ?_;simp only [U6.sat,UU,GS,H6,UX,G4];have hg:gdX 2 n (λk=>[i (r k),i (v k)]):=λk _=>⟨rfl,λx hx=>by
  simp only [HA,F8,or_false] at hx;rcases hx with rfl|rfl<;>exact ⟨Ak,by simp [AV.one,Value.oneCell']⟩⟩
 refine ⟨⟨UB,hg⟩,⟨U3,λj hj x hx=>?_⟩,?_⟩;obtain rfl:j=0:=U3;have hx:x∈[i x0,i A]:=hx;simp only [HA,F8,or_false] at hx;rcases hx with rfl|rfl<;>simp [AV.one,Value.oneCell'];intro j hj;refine ⟨?_,λx hx=>?_⟩;exact VH;simp only [HA,F8,or_false] at hx;rcases hx with rfl|rfl<;>exact Ak
def Qp2(r v:Cg):GM
 |[.lst 2 n1 f1,.agg [.x (.int .i64 x0),.x (.int .i64 A)]]=>some ([lst 2 n1 f1=rdl n r v,n<=100000],rdl (n+1) (D2 n r x0) (D2 n v A))
 |_=>none
theorem Xp7(r v:Cg):UA U8 210 (Qp2 n r v):=by
 refine ⟨(UZ Tryz.func210),?_⟩;intro avs ns res h I;unfold Qp2 at h;split at h;cases h;have e:=I _ H0;rw [e];exact Zt7 n r v _ _ (I _ UE);cases h
theorem Zu0(a b c d:Cg)(w:Nat->Bool)(x0 A W S:Int)(xw:Bool)(UB:n<=100000):UH U8 211 [crs n a b c d w,.agg [i x0,i A,i W,i S,bl xw]] (crs (n+1) (D2 n a x0) (D2 n b A) (D2 n c W) (D2 n d S) (apB n w xw)):=by
 refine GW (X:={R:=[],H:=[],C:=[],F:=[(100,e9)],D:=[] }) (L:=[]) Aa (UG.ofF Ab Ac (UV.nil _) (LL.cons mQ (LL.nil _)) (BW.nil _)) UI Tryz.func211 (GF Tryz.f211) GN (t:=need [n<=100000,gdX 5 n λk=>[i (a k),i (b k),i (c k),i (d k),bl (w k)]] (need [(n+1)*40<=140737488355328,L0 1 (UO 5 [iI x0,iI A,iI W,iI S,AV.x (.bool xw)])] (leaf (RV.lst 5 (n+1) (GX n (λk=>[iI (a k),iI (b k),iI (c k),iI (d k),AV.x (.bool (w k))]) (UO 5 [iI x0,iI A,iI W,iI S,AV.x (.bool xw)])))))) UD ?_;simp only [U6.sat,UU,GS,H6,UX,G4];have hg:gdX 5 n (λk=>[i (a k),i (b k),i (c k),i (d k),bl (w k)]):=λk _=>⟨rfl,λx hx=>by
  simp only [HA,F8,or_false] at hx;rcases hx with rfl|rfl|rfl|rfl|rfl<;>exact ⟨Ak,by simp [AV.one,Value.oneCell']⟩⟩
 refine ⟨⟨UB,hg⟩,⟨U3,λj hj x hx=>?_⟩,?_⟩;obtain rfl:j=0:=U3;have hx:x∈[i x0,i A,i W,i S,bl xw]:=hx;simp only [HA,F8,or_false] at hx;rcases hx with rfl|rfl|rfl|rfl|rfl<;>simp [AV.one,Value.oneCell'];intro j hj;refine ⟨?_,λx hx=>?_⟩;exact VH;simp only [HA,F8,or_false] at hx;rcases hx with rfl|rfl|rfl|rfl|rfl<;>exact Ak
def Qp5(a b c d:Cg)(w:Nat->Bool):GM
 |[.lst 5 n1 f1,.agg [.x (.int .i64 x0),.x (.int .i64 A),.x (.int .i64 W),.x (.int .i64 S),.x (.bool xw)]]=>some ([lst 5 n1 f1=crs n a b c d w,n<=100000],crs (n+1) (D2 n a x0) (D2 n b A) (D2 n c W) (D2 n d S) (apB n w xw))
 |_=>none
theorem Xq0(a b c d:Cg)(w:Nat->Bool):UA U8 211 (Qp5 n a b c d w):=by
 refine ⟨(UZ Tryz.func211),?_⟩;intro avs ns res h I;unfold Qp5 at h;split at h;cases h;have e:=I _ H0;rw [e];exact Zu0 n a b c d w _ _ _ _ _ (I _ UE);cases h
end
def LE:GM
 |[.x (.int .i64 n),.x (.int .i64 U),.x (.int .i64 O)]=>some ([],bl (bt U n O))
 |_=>none
theorem M2(n U O:Int):UH U8 36 [i n,i U,i O] (bl (bt U n O)):=by
 refine HL Tryz.func36 (t:=branch (decide (U<=n)) (leaf (RV.x (.bool (decide (n<=O))))) (leaf (RV.x (WP)))) UD ?_;exact VP
theorem BR:UA U8 36 LE:=by
 refine ⟨(UZ Tryz.func36),?_⟩;intro avs ns res h I;unfold LE at h;split at h;cases h;exact M2 _ _ _;cases h
end Go.Proofs.YtakpdkmhclhlnaaGreatDoor.Hd
namespace Go.Proofs.YtakpdkmhclhlnaaGreatDoor
open Go Go.Sx Go.RowKit
open Go.Sx.U6 (need branch leaf)
open Go.Sx.AV (lst ptr agg roI tup top)
theorem Zs5:Tryz.prog.follows .mixedOrders=true:=UD
abbrev MV(d:TypeId)(k:Value):Value:= .iface d (.agg #[k])
noncomputable abbrev RZ:FO:=C5 Tryz.prog [] {} [] [] Tryz.f145 (UP Tryz.f145)
theorem LG:DW U8 145 RZ:=
 RM (G:=[]) (X:={}) Aa (λcx=>UG.nil _ cx) (GG.nil _) Zs5 (UZ Tryz.func145) Tryz.func145 (GF Tryz.f145)
  (λj I _ sp A=>by simp at A)
end Go.Proofs.YtakpdkmhclhlnaaGreatDoor
namespace Go.Proofs.YtakpdkmhclhlnaaGreatDoor.Hd
open Go Go.Shelf Go.Sx
theorem Wg8{e:G8}{w:World}(hgl:DQ e w):Lib.TabIs Tryz.prog w "internal/strconv.uint64pow10" .u64 Lib.pow10Tab:=by
 obtain ⟨_,_,o,ho,_,T,fr,rfl⟩:=hgl 0 _ rfl;have hg:Tryz.prog.globalNamed "internal/strconv.uint64pow10"=some 0:=UD;unfold Lib.TabIs World.var?;rw [hg];show (match w.heap[0]? with|some (.cells cs _ _)=>some cs|_=>none)=_
 rw [ho];simp [Lib.pow10Tab]
theorem Zs6{e:G8}{w:World}(hgl:DQ e w): ∃m,w.cell? ⟨1,0,none⟩=some (.int .i64 m):=by
 obtain ⟨_,_,o,ho,_,m,T,fr,rfl⟩:=hgl 1 _ rfl;exact ⟨m,by simp [World.cell?,ho]⟩
theorem Xp0(n:Int)(UB:U5 n):UH U8 69 [.x (.int .i64 n)] (.x (.string ⟨(Lib.itoa n).toArray⟩)):=by
 intro e w args hro hgl RL hr;obtain ⟨u,us,rfl,h1,h2⟩:=hr.cons_inv;cases h2.nil_inv;cases h1.x_inv;unfold U5 at UB;refine Calls.mono (Any.strconv_Itoa Qi0 n U3 U3 w (Wg8 hgl)) ?_;rintro en w' ⟨rfl,k,os,rfl⟩;exact ⟨_,rfl,Lib.below_grow _ w (Am _) k os,.x _⟩
def A1:GM
 |[.x (.int .i64 n)]=>some ([U5 n],.x (.string ⟨(Lib.itoa n).toArray⟩))
 |_=>none
theorem bO:UA U8 69 A1:=by
 refine ⟨(UZ Tryz.func69),?_⟩;intro avs ns res h hn;unfold A1 at h;split at h;cases h;exact Xp0 _ (hn _ UE);cases h
def spl(s sep:ByteArray):List ByteArray:=Lib.splitB sep 0 (Lib.countB s sep) s
theorem Wh2(s sep:ByteArray)(hs:s.size<4294967281)(h1:1<=sep.size):UH U8 143 [.x (.string s),.x (.string sep)] (.lst 1 (Lib.countB s sep+1) (λk=>[.x (.string ((spl s sep).getD k ByteArray.empty))])):=by
 intro e w args hro hgl RL hr;obtain ⟨u,us,rfl,r1,r2⟩:=hr.cons_inv;obtain ⟨u2,us2,rfl,r3,r4⟩:=r2.cons_inv;cases r4.nil_inv;cases r1.x_inv;cases r3.x_inv;obtain ⟨m,hm⟩:=Zs6 hgl;have hle:=Lib.countB_le sep h1 s.size s (Am _);have DJ:=Lib.splitB_all sep h1 0 _ s rfl;refine Calls.mono (Any.strings_Split Wn9 UD s sep m w hs hm h1) ?_;rintro en w' ⟨rfl,rfl⟩;generalize hobj:Obj.cells (List.map Value.string (Lib.splitB sep 0 (Lib.countB s sep) s)).toArray (dM.t 9)=ob;have hsz:(w.alloc ob).heap.size=w.heap.size+1:=UE;refine ⟨_,rfl,(RowKit.Below.refl w.heap.size w).alloc (Am _) _,?_⟩;refine Rep.lst (e:=BA w (w.alloc ob)) 1 _ _ w.heap.size 0 _ (λi _=> .string ((spl s sep).getD i ByteArray.empty)) (λ_=>(show w.heap.size<=w.heap.size/\w.heap.size<(w.alloc ob).heap.size by omega)) (λ_=>U3) (λi _ a ha=>?_) (Am _) (by unfold maxLen;omega) (λi j O hj=>?_) (λ_ _=>rfl) (λi j a O ha=>?_) _ (λ_=>rfl)
 simp at ha;subst ha;exact .x _
 ·obtain rfl:j=0:=U3;have hi':i<(spl s sep).length:=by unfold spl;omega
  have hh:(w.alloc ob).heap[w.heap.size]? =some ob:=by first|(rw [World.alloc_eq];simp;done)|(simp only [World.alloc_eq,Array.getElem?_push_size];done)|exact Array.getElem?_push_size|(unfold World.alloc;exact Array.getElem?_push_size)
  unfold World.cell?;rw [hh,←hobj];have e:0+(i*1+0)=i:=U3;show (List.map Value.string (spl s sep)).toArray[0+(i*1+0)]? =_;rw [e];simp [hi']
 cases j with
 |zero=>simp at ha;subst ha;exact .x _
 |succ j=>simp at ha
open Go Go.Shelf Go.Sx Go.RowKit
def UK(s:ByteArray):Int:=match Lib.atoiAll s.data.toList with
 | .ok v=>v
 |_=>0
def O7(s:ByteArray):Bool:=match Lib.atoiAll s.data.toList with
 | .ok v=>decide (Lib.itoa v=s.data.toList)&&decide ((Lib.trimPrefix s.data.toList [45]).length<=9)
 |_=>false
theorem zW{l:List UInt8}{s:ByteArray}:(⟨l.toArray⟩:ByteArray)=s↔l=s.data.toList:=by
 constructor;rintro rfl;rfl;rintro rfl;cases s;rfl
theorem Qc4(k:Int)(w:World):Calls Tryz.prog 145 #[.bool false,.int .i64 k] w λen w'=>en= .panicked [{v:=MV 211 (.int .i64 k),recovered:=false}]/\w'=w:=by
 go_enter Tryz.func145,Tryz.ntmps145
 go_wp2
 exact ⟨rfl,rfl,rfl⟩
theorem Xu5(k:Int)(w:World):Calls Tryz.prog 145 #[.bool true,.int .i64 k] w λen w'=>en= .returned (.tuple #[])/\w'=w:=by
 go_enter Tryz.func145,Tryz.ntmps145
 go_wp2
 go_end0
 exact ⟨rfl,rfl⟩
theorem wM{e:G8}{w w1:World}(h:DQ e w)(hb:Below w.heap.size w w1):DQ e w1:=λb p hp=>by
 obtain ⟨h1,h2,o,h3,h4⟩:=h b p hp;exact ⟨h1,qY h2 hb.size,o,(hb.block b h2).trans h3,h4⟩
theorem xH{w w1:World}{T:TypeId}(h:w1=w\/ ∃t,w1=Lib.bytesWorld w T t):Below w.heap.size w w1:=by
 rcases h with rfl|⟨t,rfl⟩;exact Below.refl _ _;exact Lib.bytesWorld_below w _ _
theorem Ql8{l:List UInt8}{v:Int}(h:Lib.atoiAll l= .ok v): -9223372036854775808<=v/\v<=9223372036854775807:=by
 unfold Lib.atoiAll at h;split at h;cases h;simp only at h;split at h;cases h;cases h;split at h;cases h;split at h;cases h;cases h;split<;>omega
theorem uX{v:Int}(h: -9223372036854775808<=v/\v<=9223372036854775807){e:G8}{w:World}(hgl:DQ e w):Calls Tryz.prog 69 #[.int .i64 v] w λen w'=>en= .returned (.string ⟨(Lib.itoa v).toArray⟩)/\Below w.heap.size w w':=by
 refine Calls.mono (Any.strconv_Itoa Qi0 v h.1 h.2 w (Wg8 hgl)) ?_;rintro en w' ⟨rfl,k,os,rfl⟩;exact ⟨rfl,Lib.below_grow _ w (Am _) k os⟩
theorem uI(s p:ByteArray)(w:World):Calls Tryz.prog 182 #[.string s,.string p] w λen w'=>en= .returned (.string ⟨(Lib.trimPrefix s.data.toList p.data.toList).toArray⟩)/\w'=w:=Any.strings_TrimPrefix Xo6 s p w
theorem Zw1{e:G8}{w:World}(hgl:DQ e w):(∃ev,w.cell? ⟨2,0,none⟩=some ev/\(ev= .nilIface\/ ∃te pe,ev= .iface te pe))/\ ∃ev,w.cell? ⟨3,0,none⟩=some ev/\(ev= .nilIface\/ ∃te pe,ev= .iface te pe):=by
 obtain ⟨_,_,o,h3,_,te,pe,T,fr,rfl⟩:=hgl 2 _ rfl;obtain ⟨_,_,o,k3,_,te',pe',T',fr',rfl⟩:=hgl 3 _ rfl;exact ⟨⟨.iface te pe,by simp [World.cell?,h3],.inr ⟨te,pe,rfl⟩⟩,⟨.iface te' pe',by simp [World.cell?,k3],.inr ⟨te',pe',rfl⟩⟩⟩
theorem sQ(s:ByteArray)(hs:s.size<=100000)(hb:O7 s=true){e:G8}{w:World}(hgl:DQ e w):Calls Tryz.prog 146 #[.string s] w λen w'=>en= .returned (.int .i64 (UK s))/\Below w.heap.size w w':=by
 unfold O7 at hb;split at hb
 ·rename_i v hv;rw [HV,yN,yN] at hb;have hA:=Any.strconv_Atoi_ok dO s U3 v hv w;have hnv:UK s=v:=by unfold UK;rw [hv]
  rw [hnv];have hin:=Ql8 hv
  change Calls Tryz.prog 147 _ _ _ at hA
  have heq2:(⟨(Lib.itoa v).toArray⟩:ByteArray)=s:=zW.2 hb.1;have hle:(decide (((Lib.trimPrefix s.data.toList [45]).length:Int)<=9))=true:=decide_eq_true U3
  go_enter Tryz.func146,Tryz.ntmps146
  go_wp2_with (go_at_call 147;refine hA.mono ?_;rintro en w1 ⟨rfl,hw1⟩)
  have hb1:=xH hw1;refine (uX hin (wM hgl hb1)).mono ?_;rintro en w2 ⟨rfl,hb2⟩;have hb3:Below w.heap.size w w2:=hb1.trans (hb2.mono hb1.size)
  go_wp2_with (go_at_call 182;refine (uI _ _ _).mono ?_;rintro en w3 ⟨rfl,rfl⟩)
  try rw [hle]
  refine (Xu5 _ _).mono ?_;rintro en w4 ⟨rfl,rfl⟩
  go_wp2
  go_ret
  exact ⟨rfl,hb3⟩
 cases hb
theorem Qt9(s:ByteArray)(hs:s.size<=100000)(hb:O7 s=false){e:G8}{w:World}(hgl:DQ e w):Calls Tryz.prog 146 #[.string s] w λen w'=>en= .panicked [{v:=MV 211 (.int .i64 4),recovered:=false}]/\Below w.heap.size w w':=by
 obtain ⟨⟨ev0,he0,he0'⟩,⟨ev1,he1,he1'⟩⟩:=Zw1 hgl;unfold O7 at hb;split at hb;rename_i v hv;have hA:=Any.strconv_Atoi_ok dO s U3 v hv w;have hin:=Ql8 hv
 change Calls Tryz.prog 147 _ _ _ at hA
 rcases Classical.em (Lib.itoa v=s.data.toList) with h1|h1
 ·have heq2:(⟨(Lib.itoa v).toArray⟩:ByteArray)=s:=zW.2 h1;rw [decide_eq_true h1,Bool.true_and,Jt6] at hb;have hle:(decide (((Lib.trimPrefix s.data.toList [45]).length:Int)<=9))=false:=decide_eq_false U3
  go_enter Tryz.func146,Tryz.ntmps146
  go_wp2_with (go_at_call 147;refine hA.mono ?_;rintro en w1 ⟨rfl,hw1⟩)
  have hb1:=xH hw1;refine (uX hin (wM hgl hb1)).mono ?_;rintro en w2 ⟨rfl,hb2⟩;have hb3:Below w.heap.size w w2:=hb1.trans (hb2.mono hb1.size)
  go_wp2_with (go_at_call 182;refine (uI _ _ _).mono ?_;rintro en w3 ⟨rfl,rfl⟩)
  try rw [hle]
  refine (Qc4 _ _).mono ?_;rintro en w4 ⟨rfl,rfl⟩;exact ⟨rfl,rfl,hb3⟩
 have hne: ¬(⟨(Lib.itoa v).toArray⟩:ByteArray)=s:=λh=>h1 (zW.1 h)
 go_enter Tryz.func146,Tryz.ntmps146
 go_wp2_with (go_at_call 147;refine hA.mono ?_;rintro en w1 ⟨rfl,hw1⟩)
 have hb1:=xH hw1;refine (uX hin (wM hgl hb1)).mono ?_;rintro en w2 ⟨rfl,hb2⟩;have hb3:Below w.heap.size w w2:=hb1.trans (hb2.mono hb1.size)
 go_wp2_with (go_at_call 182;refine (uI _ _ _).mono ?_;rintro en w3 ⟨rfl,rfl⟩)
 exact absurd ‹Lib.itoa v=s.toList› (λhx=>h1 (hx.trans (ByteArray.toList_eq s)));refine (Qc4 _ _).mono ?_;rintro en w4 ⟨rfl,rfl⟩;exact ⟨rfl,rfl,hb3⟩;rename_i hno;have hA:Calls Tryz.prog 147 #[.string s] w λen w'=>(∃k te pe,en= .returned (.tuple #[.int .i64 k,.iface te pe]))/\Below w.heap.size w w':=by
  cases h:Lib.atoiAll s.data.toList;rename_i v;exact absurd h (hno v);refine Calls.mono (Any.strconv_Atoi_syntax dO s U3 h ev0 w he0 he0') ?_;rintro en w' ⟨N,rfl,_,_,hb⟩;exact ⟨⟨_,_,_,rfl⟩,hb⟩;refine Calls.mono (Any.strconv_Atoi_range dO s U3 h ev1 w he1 he1') ?_;rintro en w' ⟨N,rfl,_,_,hb⟩;exact ⟨⟨_,_,_,rfl⟩,hb⟩
 go_enter Tryz.func146,Tryz.ntmps146
 go_wp2_with (go_at_call 147;refine hA.mono ?_;rintro en w1 ⟨⟨k,te,pe,rfl⟩,hb3⟩)
 refine (Qc4 _ _).mono ?_;rintro en w4 ⟨rfl,rfl⟩;exact ⟨rfl,rfl,hb3⟩
def kI:FO:=λavs m nx sv=>match avs with
 |[.x (.string s)]=>some (.need [s.size<=100000] (.branch (O7 s) (.leaf (.ret (.x (.int .i64 (UK s))),m,nx,sv)) (.leaf (.pan (MV 211 (.int .i64 4)),m,nx,sv))))
 |_=>none
theorem xR:DW U8 146 kI:=by
 refine ⟨(UZ Tryz.func146),?_⟩;intro avs m nx sv t ht Q hQ c w0 T e ds args w hE hB hm hl L8 hxt hr;unfold kI at ht;split at ht;rename_i s;cases ht;obtain ⟨hs,hQ⟩:=hQ;obtain ⟨u,us,rfl,h1,h2⟩:=hr.cons_inv;cases h2.nil_inv;cases h1.x_inv;have key: ∀{w':World},Below w.heap.size w w'->Step e e w w'/\GK e w0.heap.size w'/\Below w0.heap.size w0 w':=by
  intro w' hb;have st:Step e e w w':=⟨λb hlt hr=>⟨hr,hb.block b hlt⟩,λ_ h=>⟨h,rfl,rfl⟩,hb.size⟩;exact ⟨st,⟨λb h=>⟨(hE.apart b h).1,qY (hE.apart b h).2 hb.size⟩,λb k h=>⟨(hE.owned b k h).1,qY (hE.owned b k h).2 hb.size⟩,hE.glob.step st⟩,hB.trans (hb.mono hB.size)⟩
 cases hb:O7 s with
 |true=>
  refine (sQ s hs hb hE.glob).mono ?_;rintro en w' ⟨rfl,hbl⟩;obtain ⟨k1,k2,k3⟩:=key hbl;exact ⟨.ret (.x (.int .i64 (UK s))),_,_,_,e,⟨_,rfl,.x _⟩,hQ.1 hb,k2,k3,hm.ext hbl k1 (λ_ _ h=>h),hl,L8,hxt.step k1⟩
 |false=>
  refine (Qt9 s hs hb hE.glob).mono ?_;rintro en w' ⟨rfl,hbl⟩;obtain ⟨k1,k2,k3⟩:=key hbl;exact ⟨.pan (MV 211 (.int .i64 4)),_,_,_,e,rfl,hQ.2 hb,k2,k3,hm.ext hbl k1 (λ_ _ h=>h),hl,L8,hxt.step k1⟩
 cases ht
def wdE:List MapEntry:=[{key:= .string ⟨#[116,104,114,101,97,100]⟩,val:= .agg #[.int .i64 4,.func (.func 174) #[] #[]],born:=0},
 {key:= .string ⟨#[115,116,114,105,107,101]⟩,val:= .agg #[.int .i64 1,.func (.func 175) #[] #[]],born:=1},
 {key:= .string ⟨#[98,97,114,111]⟩,val:= .agg #[.int .i64 2,.func (.func 176) #[] #[]],born:=2},
 {key:= .string ⟨#[98,97,116,104]⟩,val:= .agg #[.int .i64 2,.func (.func 177) #[] #[]],born:=3},
 {key:= .string ⟨#[115,101,101]⟩,val:= .agg #[.int .i64 2,.func (.func 178) #[] #[]],born:=4},
 {key:= .string ⟨#[105,115,115,117,101]⟩,val:= .agg #[.int .i64 4,.func (.func 179) #[] #[]],born:=5},
 {key:= .string ⟨#[118,111,105,100]⟩,val:= .agg #[.int .i64 1,.func (.func 180) #[] #[]],born:=6},
 {key:= .string ⟨#[115,101,108,108]⟩,val:= .agg #[.int .i64 5,.func (.func 181) #[] #[]],born:=7}]
theorem xA(w:World)(es:Array MapEntry)(c:Nat)(s:ByteArray)(val:Value)(hf:Instr.findNow .string (.string s) es.toList 0=some none):
  (Instr.mapUpdate 262 (.map (some w.heap.size)) (.string s) val).run Tryz.prog (w.alloc (.map es c))= .ok () (w.alloc (.map (es.push {key:= .string s,val:=val,born:=c}) (c+1))):=by
 have hm:Tryz.prog.underlying 262=some (.map 9 260):=UD;have hk:Tryz.prog.underlying 9=some .string:=UD;have hb:(w.alloc (.map es c)).heap[w.heap.size]? =some (.map es c):=World.alloc_heap_new w _;have hc:(Instr.checkKey false 10000 9 (.string s)).run Tryz.prog (w.alloc (.map es c))= .ok () (w.alloc (.map es c)):=MapKept.run_checkKey (k:= .string s) hk (by simp [MapKept.IsKey]) false 9999
 have hp: ∀o o':Obj,({w.alloc o with heap:=(w.alloc o).heap.setIfInBounds w.heap.size o'}:World)=w.alloc o':=λo o'=>by
  have ha:(w.heap.push o).setIfInBounds w.heap.size o'=w.heap.push o':=Array.toList_inj.1 (by simp [List.set_append])
  have h0: ∀q:Obj,(w.alloc q).heap=w.heap.push q:=λq=>rfl;rw [h0,ha];rfl
 have h1:(Instr.mapUpdate 262 (.map (some w.heap.size)) (.string s) val).run Tryz.prog (w.alloc (.map es c))= .ok () {w.alloc (.map es c) with heap:=(w.alloc (.map es c)).heap.setIfInBounds w.heap.size (.map (es.push {key:= .string s,val:=val,born:=c}) (c+1)) }:=by
  simp only [Instr.mapUpdate,At,run_underlying hm,MapKept.run_getObj_map hb,hc,MapKept.run_findKey hk hf,MapKept.run_setObj_map _ hb,Result.andThen]
 rw [h1,hp]
theorem NB(w:World):Calls Tryz.prog 144 #[] w λen w'=>en= .returned (.map (some w.heap.size))/\w'=w.alloc (.map wdE.toArray 8):=by
 have i0:=run_makeMap (P:=Tryz.prog) 262 w;have i1:=xA w #[] 0 ⟨#[116,104,114,101,97,100]⟩ (.agg #[.int .i64 4,.func (.func 174) #[] #[]]) (by rfl)
 have i2:=xA w #[{key:= .string ⟨#[116,104,114,101,97,100]⟩,val:= .agg #[.int .i64 4,.func (.func 174) #[] #[]],born:=0}] 1 ⟨#[115,116,114,105,107,101]⟩ (.agg #[.int .i64 1,.func (.func 175) #[] #[]]) (by rfl)
 have i3:=xA w #[{key:= .string ⟨#[116,104,114,101,97,100]⟩,val:= .agg #[.int .i64 4,.func (.func 174) #[] #[]],born:=0},{key:= .string ⟨#[115,116,114,105,107,101]⟩,val:= .agg #[.int .i64 1,.func (.func 175) #[] #[]],born:=1}] 2 ⟨#[98,97,114,111]⟩ (.agg #[.int .i64 2,.func (.func 176) #[] #[]]) (by rfl)
 have i4:=xA w #[{key:= .string ⟨#[116,104,114,101,97,100]⟩,val:= .agg #[.int .i64 4,.func (.func 174) #[] #[]],born:=0},{key:= .string ⟨#[115,116,114,105,107,101]⟩,val:= .agg #[.int .i64 1,.func (.func 175) #[] #[]],born:=1},{key:= .string ⟨#[98,97,114,111]⟩,val:= .agg #[.int .i64 2,.func (.func 176) #[] #[]],born:=2}] 3 ⟨#[98,97,116,104]⟩ (.agg #[.int .i64 2,.func (.func 177) #[] #[]]) (by rfl)
 have i5:=xA w #[{key:= .string ⟨#[116,104,114,101,97,100]⟩,val:= .agg #[.int .i64 4,.func (.func 174) #[] #[]],born:=0},{key:= .string ⟨#[115,116,114,105,107,101]⟩,val:= .agg #[.int .i64 1,.func (.func 175) #[] #[]],born:=1},{key:= .string ⟨#[98,97,114,111]⟩,val:= .agg #[.int .i64 2,.func (.func 176) #[] #[]],born:=2},{key:= .string ⟨#[98,97,116,104]⟩,val:= .agg #[.int .i64 2,.func (.func 177) #[] #[]],born:=3}] 4 ⟨#[115,101,101]⟩ (.agg #[.int .i64 2,.func (.func 178) #[] #[]]) (by rfl)
 have i6:=xA w #[{key:= .string ⟨#[116,104,114,101,97,100]⟩,val:= .agg #[.int .i64 4,.func (.func 174) #[] #[]],born:=0},{key:= .string ⟨#[115,116,114,105,107,101]⟩,val:= .agg #[.int .i64 1,.func (.func 175) #[] #[]],born:=1},{key:= .string ⟨#[98,97,114,111]⟩,val:= .agg #[.int .i64 2,.func (.func 176) #[] #[]],born:=2},{key:= .string ⟨#[98,97,116,104]⟩,val:= .agg #[.int .i64 2,.func (.func 177) #[] #[]],born:=3},{key:= .string ⟨#[115,101,101]⟩,val:= .agg #[.int .i64 2,.func (.func 178) #[] #[]],born:=4}] 5 ⟨#[105,115,115,117,101]⟩ (.agg #[.int .i64 4,.func (.func 179) #[] #[]]) (by rfl)
 have i7:=xA w #[{key:= .string ⟨#[116,104,114,101,97,100]⟩,val:= .agg #[.int .i64 4,.func (.func 174) #[] #[]],born:=0},{key:= .string ⟨#[115,116,114,105,107,101]⟩,val:= .agg #[.int .i64 1,.func (.func 175) #[] #[]],born:=1},{key:= .string ⟨#[98,97,114,111]⟩,val:= .agg #[.int .i64 2,.func (.func 176) #[] #[]],born:=2},{key:= .string ⟨#[98,97,116,104]⟩,val:= .agg #[.int .i64 2,.func (.func 177) #[] #[]],born:=3},{key:= .string ⟨#[115,101,101]⟩,val:= .agg #[.int .i64 2,.func (.func 178) #[] #[]],born:=4},{key:= .string ⟨#[105,115,115,117,101]⟩,val:= .agg #[.int .i64 4,.func (.func 179) #[] #[]],born:=5}] 6 ⟨#[118,111,105,100]⟩ (.agg #[.int .i64 1,.func (.func 180) #[] #[]]) (by rfl)
 have i8:=xA w #[{key:= .string ⟨#[116,104,114,101,97,100]⟩,val:= .agg #[.int .i64 4,.func (.func 174) #[] #[]],born:=0},{key:= .string ⟨#[115,116,114,105,107,101]⟩,val:= .agg #[.int .i64 1,.func (.func 175) #[] #[]],born:=1},{key:= .string ⟨#[98,97,114,111]⟩,val:= .agg #[.int .i64 2,.func (.func 176) #[] #[]],born:=2},{key:= .string ⟨#[98,97,116,104]⟩,val:= .agg #[.int .i64 2,.func (.func 177) #[] #[]],born:=3},{key:= .string ⟨#[115,101,101]⟩,val:= .agg #[.int .i64 2,.func (.func 178) #[] #[]],born:=4},{key:= .string ⟨#[105,115,115,117,101]⟩,val:= .agg #[.int .i64 4,.func (.func 179) #[] #[]],born:=5},{key:= .string ⟨#[118,111,105,100]⟩,val:= .agg #[.int .i64 1,.func (.func 180) #[] #[]],born:=6}] 7 ⟨#[115,101,108,108]⟩ (.agg #[.int .i64 5,.func (.func 181) #[] #[]]) (by rfl)
 go_enter Tryz.func144,Tryz.ntmps144
 go_wp2
 go_ret
 exact ⟨rfl,rfl⟩
def eqU:List UInt8->List UInt8->Bool
 |[],[]=>true
 |a::l,b::m=>Nat.beq a.toNat b.toNat&&eqU l m
 |_,_=>false
theorem cD: ∀{l m:List UInt8},eqU l m=true↔l=m
 |[],[]=>by simp [eqU]
 |[],_::_=>by simp [eqU]
 |_::_,[]=>by simp [eqU]
 |a::l,b::m=>by
  simp only [eqU,HV,cD,List.cons.injEq];constructor;rintro ⟨h,h2⟩;exact ⟨UInt8.toNat_inj.1 (HK h),h2⟩;rintro ⟨rfl,h2⟩;exact ⟨Nat.beq_refl _,h2⟩
section
variable (s:ByteArray)
def wdK:Nat:=match eqU s.data.toList [116,104,114,101,97,100] with
 |true=>0
 |false=>match eqU s.data.toList [115,116,114,105,107,101] with
 |true=>1
 |false=>match eqU s.data.toList [98,97,114,111] with
 |true=>2
 |false=>match eqU s.data.toList [98,97,116,104] with
 |true=>3
 |false=>match eqU s.data.toList [115,101,101] with
 |true=>4
 |false=>match eqU s.data.toList [105,115,115,117,101] with
 |true=>5
 |false=>match eqU s.data.toList [118,111,105,100] with
 |true=>6
 |false=>match eqU s.data.toList [115,101,108,108] with
 |true=>7
 |false=>8
def wdM:Nat->Int
 | 0=>4
 | 1=>1
 | 2=>2
 | 3=>2
 | 4=>2
 | 5=>4
 | 6=>1
 | 7=>5
 |_=>0
def wdO:Bool:=Nat.blt (wdK s) 8
def Wa7:List AV:=[match wdO s with|true=> .x (.int .i64 (wdM (wdK s)))|false=> .top,match wdO s with|true=> .fn (.func (174+wdK s)) [] []|false=> .top]
def wdL:List ByteArray:=[⟨#[116,104,114,101,97,100]⟩,⟨#[115,116,114,105,107,101]⟩,⟨#[98,97,114,111]⟩,⟨#[98,97,116,104]⟩,⟨#[115,101,101]⟩,⟨#[105,115,115,117,101]⟩,⟨#[118,111,105,100]⟩,⟨#[115,101,108,108]⟩]
theorem CV:(wdK s<8/\wdL[wdK s]? =some s)\/(wdK s=8/\ ∀x∈wdL,x≠s):=by
 have mk: ∀(l:List UInt8),eqU s.data.toList l=true->(⟨l.toArray⟩:ByteArray)=s:=λl h=>zW.2 (cD.1 h).symm;have no: ∀(l:List UInt8),eqU s.data.toList l=false->(⟨l.toArray⟩:ByteArray)≠s:=λl h he=>by
  rw [cD.2 (zW.1 he).symm] at h;cases h
 unfold wdK;split;rename_i h0;exact .inl ⟨U3,by rw [←mk _ h0];rfl⟩
 rename_i h0;split;rename_i h1;exact .inl ⟨U3,by rw [←mk _ h1];rfl⟩
 rename_i h1;split;rename_i h2;exact .inl ⟨U3,by rw [←mk _ h2];rfl⟩
 rename_i h2;split;rename_i h3;exact .inl ⟨U3,by rw [←mk _ h3];rfl⟩
 rename_i h3;split;rename_i h4;exact .inl ⟨U3,by rw [←mk _ h4];rfl⟩
 rename_i h4;split;rename_i h5;exact .inl ⟨U3,by rw [←mk _ h5];rfl⟩
 rename_i h5;split;rename_i h6;exact .inl ⟨U3,by rw [←mk _ h6];rfl⟩
 rename_i h6;split;rename_i h7;exact .inl ⟨U3,by rw [←mk _ h7];rfl⟩
 rename_i h7;refine .inr ⟨rfl,λx hx=>?_⟩;simp only [wdL,HA,F8,or_false] at hx;rcases hx with rfl|rfl|rfl|rfl|rfl|rfl|rfl|rfl;exact no _ h0;exact no _ h1;exact no _ h2;exact no _ h3;exact no _ h4;exact no _ h5;exact no _ h6;exact no _ h7
def wdV:List Value:=[.int .i64 (wdM (wdK s)),.func (.func (174+wdK s)) #[] #[]]
end
theorem nC{s:ByteArray}(h:wdO s=true): ∃j,Instr.findNow .string (.string s) wdE 0=some (some (j,.agg (wdV s).toArray)):=by
 rcases CV s with ⟨h1,h2⟩|⟨h1,_⟩;unfold wdV;rcases (show wdK s=0\/wdK s=1\/wdK s=2\/wdK s=3\/wdK s=4\/wdK s=5\/wdK s=6\/wdK s=7 by omega) with h3|h3|h3|h3|h3|h3|h3|h3<;>rw [h3] at h2 ⊢ <;>(obtain rfl:_=s:=Bb h2)<;>exact ⟨_,rfl⟩
 unfold wdO at h;rw [h1] at h;cases h
theorem MS{s:ByteArray}: ∀(es:List MapEntry) (j:Nat),(∀x∈es,∃k,x.key= .string k/\k≠s)->Instr.findNow .string (.string s) es j=some none
 |[],_,_=>rfl
 |x::es,j,h=>by
  obtain ⟨k,hk,hne⟩:=h x H0;have hs:Instr.sameNow .string (.string s) (.string k)=some false:=by
   have hb:(s==k)=false:=by
    cases hq:(s==k) with
    |false=>rfl
    |true=>
     obtain ⟨a⟩:=s;obtain ⟨b⟩:=k;have h':(a==b)=true:=hq;exact absurd (by rw [eq_of_beq h']) hne
   simp [Instr.sameNow,hb]
  unfold Instr.findNow;rw [hk,hs];exact MS es (j+1) (λy hy=>h y (DB _ hy))
theorem Qk1{s:ByteArray}(h:wdO s=false):Instr.findNow .string (.string s) wdE 0=some none:=by
 rcases CV s with ⟨h1,_⟩|⟨_,h2⟩;unfold wdO at h;rw [Cb,ne_eq,Aw] at h;omega;refine MS _ _ λx hx=>?_;simp only [wdE,HA,F8,or_false] at hx;rcases hx with rfl|rfl|rfl|rfl|rfl|rfl|rfl|rfl<;>exact ⟨_,rfl,h2 _ (by simp [wdL])⟩
theorem Xv4:UH U8 144 [] (.mpr Wa7 wdO):=by
 intro e w args hro hgl RL hr;obtain rfl:=hr.nil_inv;refine (NB w).mono ?_;rintro en w' ⟨rfl,rfl⟩;have hsz:(w.alloc (.map wdE.toArray 8)).heap.size=w.heap.size+1:=UE;refine ⟨_,rfl,(Below.refl _ _).alloc (Am _) _,?_⟩;refine .mpr Wa7 wdO wdV w.heap.size wdE.toArray 8 (show w.heap.size<=w.heap.size/\w.heap.size<(w.alloc (.map wdE.toArray 8)).heap.size by omega) U3 (λs a ha=>?_) (World.alloc_heap_new w _) (λs hs=>by simpa using nC hs) (λs hs=>⟨by simpa using Qk1 hs,λa ha=>?_⟩) (λs hs=>rfl) (λs k a v hs ha hv=>?_)
 unfold Wa7 at ha;cases h:wdO s<;>rw [h] at ha<;>simp only [HA,F8,or_false,or_self] at ha;subst ha;exact .top;rcases ha with rfl|rfl;exact .x _;exact .fn _ _ _ (λ_ h=>by cases h) (λ_ h=>by cases h)
 unfold Wa7 at ha;rw [hs] at ha;exact .inl (by simpa using ha)
 unfold Wa7 at ha;unfold wdV at hv;rw [hs] at ha
 match k,ha,hv with
 | 0,ha,hv=>
  simp only [List.getElem?_cons_zero,D0] at ha hv;subst ha hv;exact .x _
 | 1,ha,hv=>
  simp only [List.getElem?_cons_succ,List.getElem?_cons_zero,D0] at ha hv;subst ha hv;exact .fn _ [] [] [] [] rfl (λ_ _ _ h=>by simp at h) rfl (λ_ _ _ h=>by simp at h)
 |k+2,ha,hv=>simp at ha
def Xf1:GM
 |[]=>some ([],.mpr Wa7 wdO)
 |_=>none
theorem xI:UA U8 144 Xf1:=by
 refine ⟨(UZ Tryz.func144),?_⟩;intro avs ns res h hn;unfold Xf1 at h;split at h;cases h;exact Xv4;cases h
open Go Go.Sx Go.RowKit Bo
open Go.Sx.U6 (need branch leaf)
open Go.Sx.AV (lst ptr agg roI tup top)
structure HS where
 nr:Nat
 ra:Cg
 rb:Cg
 ru:Cg
 rv:Cg
 pl:Int
 ph:Int
 nb:Nat
 ql:Cg
 qh:Cg
 qm:Ch
 qr:Nat->Cg
 qv:Nat->Cg
 nc:Nat
 ca:Cg
 cb:Cg
 cc:Cg
 cd:Cg
 cv:Nat->Bool
 ns:Nat
 sa:Cg
 sb:Cg
 sc:Cg
 sl:Cg
 sh:Cg
 xn:Nat
 xg:Ci
 yn:Nat
 yg:Ci
section
variable (N:Nat)(s:HS)
abbrev hR:AV:= .lst 4 N λk=>[iI (s.ra k),iI (s.rb k),iI (s.ru k),iI (s.rv k)]
abbrev hY:AV:= .lst 3 N λk=>[iI (s.ql k),iI (s.qh k),.lst 2 (s.qm k) λj=>[iI (s.qr k j),iI (s.qv k j)]]
abbrev hC:AV:= .lst 5 N λk=>[iI (s.ca k),iI (s.cb k),iI (s.cc k),iI (s.cd k),.x (.bool (s.cv k))]
abbrev hT:AV:= .lst 5 N λk=>[iI (s.sa k),iI (s.sb k),iI (s.sc k),iI (s.sl k),iI (s.sh k)]
end
section
variable (s:HS)
abbrev hL:List AV:=[hR s.nr s,iI s.pl,iI s.ph,hY s.nb s,hC s.nc s,hT s.ns s]
abbrev hsR:AV:=rds s.nr s.ra s.rb s.ru s.rv
abbrev hsB:AV:=bds s.nb s.ql s.qh s.qm s.qr s.qv
abbrev hsC:AV:=crs s.nc s.ca s.cb s.cc s.cd s.cv
abbrev hsS:AV:=sls s.ns s.sa s.sb s.sc s.sl s.sh
abbrev hsL:List AV:=[hsR s,i s.pl,i s.ph,hsB s,hsC s,hsS s]
end
def tbP(k:Nat):Int:=US [720,760,800] k
def tbQ(k:Nat):Int:=US [985,1000,1014] k
def LY:GM
 |[.agg [.lst 4 nr fr,.x (.int .i64 pl),.x (.int .i64 ph),.lst 3 nb fb,.lst 5 nc fc,.lst 5 ns fs]]=>some ([],.agg [i 4,i 100,i 20,i 30,.lst 4 nr fr,.lst 2 3 (λk=>[i (tbP k),i (tbQ k)]),i pl,i ph,i 1,i 3])
 |_=>none
theorem Qw6(nr nb nc ns:Nat)(fr fb fc fs:Ci)(pl ph:Int):RB U8 44 [.agg [.lst 4 nr fr,i pl,i ph,.lst 3 nb fb,.lst 5 nc fc,.lst 5 ns fs]] (.agg [i 4,i 100,i 20,i 30,.lst 4 nr fr,.lst 2 3 (λk=>[i (tbP k),i (tbQ k)]),i pl,i ph,i 1,i 3]):=by
 refine DL (L:=[]) Aa Ad UI Tryz.func44 (GF Tryz.f44) GN (t:=leaf (agg [iI 4,iI 100,iI 20,iI 30,lst 4 nr λa=>fr a,lst 2 3 (UO 2 [iI 720,iI 985,iI 760,iI 1000,iI 800,iI 1014]),iI pl,iI ph,iI 1,iI 3])) UD ?_;simp only [U6.sat,FR,wV,UX,G4];all_goals exact VM
theorem R9:PS U8 44 LY:=by
 refine ⟨(UZ Tryz.func44),?_⟩;intro avs ns res h hn;unfold LY at h;split at h;cases h;exact Qw6 _ _ _ _ _ _ _ _ _ _;cases h
def j5:GM
 |[.agg [.lst 4 nr fr,.x (.int .i64 pl),.x (.int .i64 ph),.lst 3 nb fb,.lst 5 nc fc,.lst 5 ns fs]]=>some ([],.agg [ofs,i 1,.lst 3 nb fb])
 |_=>none
abbrev Y7:AV:=lst 2 3 (UO 2 [iI 0,iI 0,iI (-9:Int),iI 9,iI (-9:Int),iI 9])
theorem tQ(nr nb nc ns:Nat)(fr fb fc fs:Ci)(pl ph:Int):RB U8 46 [.agg [.lst 4 nr fr,i pl,i ph,.lst 3 nb fb,.lst 5 nc fc,.lst 5 ns fs]] (.agg [ofs,i 1,.lst 3 nb fb]):=by
 refine DL (L:=[]) Aa Ad UI Tryz.func46 (GF Tryz.f46) GN (t:=leaf (agg [Y7,iI 1,lst 3 nb λa=>fb a])) UD ?_;simp only [U6.sat,FR,wV,UX,G4];all_goals exact VM
theorem L3:PS U8 46 j5:=by
 refine ⟨(UZ Tryz.func46),?_⟩;intro avs ns res h hn;unfold j5 at h;split at h;cases h;exact tQ _ _ _ _ _ _ _ _ _ _;cases h
def NH:GM
 |[.agg [.lst 4 nr fr,.x (.int .i64 pl),.x (.int .i64 ph),.lst 3 nb fb,.lst 5 nc fc,.lst 5 ns fs]]=>some ([],.agg [i 4,i 10,.lst 5 ns fs])
 |_=>none
theorem Qx0(nr nb nc ns:Nat)(fr fb fc fs:Ci)(pl ph:Int):RB U8 39 [.agg [.lst 4 nr fr,i pl,i ph,.lst 3 nb fb,.lst 5 nc fc,.lst 5 ns fs]] (.agg [i 4,i 10,.lst 5 ns fs]):=by
 refine DL (L:=[]) Aa Ad UI Tryz.func39 (GF Tryz.f39) GN (t:=leaf (agg [iI 4,iI 10,lst 5 ns λa=>fs a])) UD ?_;simp only [U6.sat,FR,wV,UX,G4];all_goals exact VM
theorem PR:PS U8 39 NH:=by
 refine ⟨(UZ Tryz.func39),?_⟩;intro avs ns res h hn;unfold NH at h;split at h;cases h;exact Qx0 _ _ _ _ _ _ _ _ _ _;cases h
noncomputable def p8:DK:=vP Tryz.prog [] {} [] Tryz.f67 (UP Tryz.f67)
theorem MF:GT U8 67 p8:=
 RT (G:=[]) (X:=WI) (L:=[]) Aa Ad UI (UZ Tryz.func67) Tryz.func67 (GF Tryz.f67) UN
def UQ(w:ByteArray)(V:Cf):Nat->ByteArray
 | 0=>w
 |k+1=>V k
def GB(q:Nat):ByteArray:=wdL.getD q ByteArray.empty
def uY(str:ByteArray)(n:Nat)(W:Cf):Prop:=str.size<100000/\Lib.countB str ⟨#[32]⟩+1=n/\(∀k,k<n->(spl str ⟨#[32]⟩).getD k ByteArray.empty=W k)/\ ∀k,(W k).size<=100000
def OA(s str sep:ByteArray):Prop:=s=str/\sep=⟨#[32]⟩
def Qp0(str:ByteArray)(n:Nat)(W:Cf):GM
 |[.x (.string s),.x (.string sep)]=>some ([OA s str sep],.lst 1 n (λk=>[.x (.string (W k))]))
 |_=>none
theorem P1{str:ByteArray}{n:Nat}{W:Cf}(h:uY str n W):UA U8 143 (Qp0 str n W):=by
 refine ⟨(UZ Tryz.func143),?_⟩;intro avs ns res hh hn;unfold Qp0 at hh;split at hh;cases hh;obtain ⟨e1,e2⟩:=hn _ H0;rw [e1,e2];have h1:=Wh2 str ⟨#[32]⟩ (by have:=h.1;omega) (by decide)
 rw [h.2.1] at h1;intro e w args hro hgl RL hr;refine (h1 e w args hro hgl RL hr).mono ?_;rintro en w' ⟨v,rfl,hb,H5⟩;exact ⟨v,rfl,hb,FY (a:= .lst 1 n _) (b:= .lst 1 n _) ⟨rfl,rfl,λk hk=>by rw [h.2.2.1 k hk]⟩ H5⟩
 cases hh
abbrev YM(s:HS):HO:=[(0,.cells 99 [.top,.top,.top,.top,.top,.top]),(1,.row 23 1 s.xn s.xg),(2,.row 9 1 s.yn s.yg)]
def PE_(s:HS):St:={σ:=mkS 48 [],m:=(YM s),nx:=904,sv:=[[.ptr 0 0,.row 1,.row 2]] }
section
variable (W:Cf)(n:Nat)
def nuB:Bool:=F1 (λj=>O7 (W (1+j))) (n-1)
def Xj5(mk:Int)(fk:Nat)(s:HS):St:={σ:=mkS 48 [(0,.ptr 0 0),(4,.lst 1 n (λk=>[.x (.string (W k))])),(5,.ptr 903 0),(7,.row 902),(31,.lst 1 (n-1) (λj=>[.x (.string (W (1+j)))])),(32,i ((n-1:Nat):Int)),(33,.top)],m:=[(902,.row 3 1 (0) (λj=>[i (UK (W (1+j)))])),(903,.cells 260 [i mk,.fn (.func fk) [] []]),(0,.cells 99 (hsL s)),(1,.row 23 1 s.xn s.xg),(2,.row 9 1 s.yn s.yg)],nx:=904,sv:=[[.ptr 0 0,.row 1,.row 2]] }
noncomputable def OJ:Code:=UT (UC (UP Tryz.f106) 0)
def Wq4(mk:Int)(fk:Nat)(s:HS)(k:Nat):St:={σ:=HI [(33,i k)] (Xj5 W n mk fk s).σ,m:=[(902,.row 3 1 (k) (λj=>[i (UK (W (1+j)))])),(903,.cells 260 [i mk,.fn (.func fk) [] []]),(0,.cells 99 (hsL s)),(1,.row 23 1 s.xn s.xg),(2,.row 9 1 s.yn s.yg)],nx:=(Xj5 W n mk fk s).nx,sv:=[[.ptr 0 0,.row 1,.row 2]] }
def aV(mk:Int)(fk:Nat)(s:HS):PEx->Option St:=λex=>match ex with
 | .x (.exit 0)=>some {σ:=HI [(33,i ((n-1:Nat):Int))] (Xj5 W n mk fk s).σ,m:=[(902,.row 3 1 (n-1) (λj=>[i (UK (W (1+j)))])),(903,.cells 260 [i mk,.fn (.func fk) [] []]),(0,.cells 99 (hsL s)),(1,.row 23 1 s.xn s.xg),(2,.row 9 1 s.yn s.yg)],nx:=(Xj5 W n mk fk s).nx,sv:=[[.ptr 0 0,.row 1,.row 2]] }
 | .pan _=>some (PE_ s)
 |_=>none
def Jv6(mk:Int)(fk:Nat)(s:HS):PT:= .branch (nuB W n) (.leaf (.x (.exit 0),(aV W n mk fk s (.x (.exit 0))).getD (Xj5 W n mk fk s))) (.leaf (.pan (MV 211 (.int .i64 4)),PE_ s))
def uG(mk:Int)(fk:Nat)(s:HS):BH:=bF [(.slot 5,903,260,2),(.slot 7,902,3,1)] (Zm1 (Wq4 W n mk fk s (0)) (Jv6 W n mk fk s))
end
section
variable (s:HS)
abbrev XK:Prop:=(hR s.nr s)=hR s.nr s
abbrev XR:Prop:=(hC s.nc s)=hC s.nc s
abbrev XS:Prop:=(hT s.ns s)=hT s.ns s
abbrev XZ:Prop:=(hY s.nb s)=hY s.nb s
abbrev JZ:Prop:=s.pl=s.pl
abbrev K1:Prop:=s.ph=s.ph
end
abbrev K8:Prop:=AV.row 1=AV.row 1
abbrev K9:Prop:=AV.row 2=AV.row 2
abbrev KP(n:Nat)(W:Cf):AV:=lst 1 (n-1) λj=>[HP (W (1+j))]
abbrev KV(s:HS):Prop:=s.xn=s.xn
abbrev KW(s:HS):Prop:=s.yn=s.yn
abbrev YV(n:Nat)(W:Cf):AV:=lst 1 n λk=>[HP (W k)]
theorem dL(W:Cf)(n:Nat)(mk:Int)(fk:Nat)(s:HS)(UB: ∀k,(W k).size<=100000)(UY:n<=100000): ∀ro cx,PN Tryz.prog ro cx (.loop OJ) (uG W n mk fk s):=by
 refine bK [(.slot 5,903,260,2),(.slot 7,902,3,1)] (PX:=[(145,RZ),(146,kI)]) (L:=[]) Aa Ad (GG.cons LG (GG.cons xR (GG.nil _))) UI (λj cj _ sp hsp=>by simp at hsp) (V:=Nat) (Wq4 W n mk fk s) (λk=>k<=n-1/\ ∀j,j<k->O7 (W (1+j))=true) (λk=>n-1-k) (λ_=>aV W n mk fk s) (x0:=0) ⟨Ao _,λj h=>absurd h (Aq _)⟩ ?_ ?_ ?_
 rintro k;kernel_rfl;rintro k y E h;unfold aV at h;split at h;cases h;kernel_rfl;cases h;kernel_rfl;cases h;rintro Q hQ k hx;refine ⟨(k+1),?_⟩;(with_reducible refine F4 (t:=branch (decide ((k:Int)<(↑(n-1):Int))) (need [G7 k (↑(n-1):Int)] (need [ByteArray.size (W (1+k))<=100000] (branch (O7 (W (1+k))) (need [(k+1)*8<=140737488355328,L0 1 (UO 1 [iI (UK (W (1+k)))])] (need [U5 ((k:Int)+1)] (need [QO,UJ (YV n W),ZT,W0,UJ (KP n W),UJ (↑(n-1):Int),(k:Int)+1=(↑(k+1):Int),k+1=k+1,HH (k+1) (GX k (λj=>[iI (UK (W (1+j)))]) (UO 1 [iI (UK (W (1+k)))])) (λi=>[iI (UK (W (1+i)))]),mk=mk,UJ (AV.fn (Fn.func fk) [] []),XK s,JZ s,K1 s,XZ s,XR s,XS s,KV s,∀(i:Nat),i<s.xn->s.xg i=s.xg i,KW s,∀(i:Nat),i<s.yn->s.yg i=s.yg i,QO,K8,K9] (leaf (PEx.x GR.normal))))) (need [KV s,∀(i:Nat),i<s.xn->s.xg i=s.xg i,KW s,∀(i:Nat),i<s.yn->s.yg i=s.yg i,QO,K8,K9] (leaf (PEx.pan (Value.iface 211 (Value.agg {toList:=[Value.int IntKind.i64 (4:Int)] })))))))) (need [QO,UJ (YV n W),ZT,W0,UJ (KP n W),UJ (↑(n-1):Int),(k:Int)=(↑(n-1):Int),k=n-1,∀(i:Nat),i<n-1->[iI (UK (W (1+i)))]=[iI (UK (W (1+i)))],mk=mk,UJ (AV.fn (Fn.func fk) [] []),XK s,JZ s,K1 s,XZ s,XR s,XS s,KV s,∀(i:Nat),i<s.xn->s.xg i=s.xg i,KW s,∀(i:Nat),i<s.yn->s.yg i=s.yg i,QO,K8,K9] (leaf (PEx.x (GR.exit 0))))) UD ?_)
 simp only [Jv6,aV,U6.sat,HF] at hQ;obtain ⟨A,I⟩:=hx;simp only [U6.sat,UU,G4,HU,U5]
 have hc1: ∀x:Int,∀(j:Nat),j<1-> ∀y,y∈UO 1 [iI x] j->AV.one y=true:=λx j _ y hy=>FK hy (by simp [AV.one,Value.oneCell'])
 refine ⟨λh=>?_,λh=>?_⟩;have hk:k<n-1:=U3;refine ⟨⟨U3,U3⟩,UB _,λhb=>?_,λhb=>?_⟩;have DM: ∀j,j<k+1->O7 (W (1+j))=true:=by
  intro j hj;rcases (show j<k\/j=k by omega) with h1|rfl
  exact I j h1;exact hb
 have M7: ∀j,j<k+1->GX k (λj=>[i (UK (W (1+j)))]) (UO 1 [iI (UK (W (1+k)))]) j=[i (UK (W (1+j)))]:=by
  intro j hj;show HX (decide (j<k)) _ (UO 1 _ (j-k))=_;rw [show j-k=0 by omega]
  rcases (show j<k\/j=k by omega) with h1|rfl
  rw [decide_eq_true h1];rfl;rw [show decide (j<j)=false by simp]
  rfl
 refine ⟨⟨U3,hc1 _⟩,U3,⟨U3,M7,λ_ _=>trivial,λ_ _=>trivial⟩,⟨U3,DM⟩,U3⟩;have hno:nuB W n=false:=by
  rw [Cb];intro h2;have:=HG.1 h2 k hk;rw [hb] at this;cases this
 refine ⟨⟨λ_ _=>trivial,λ_ _=>trivial⟩,λE hE=>?_⟩;cases hE;exact hQ.2 hno
 ·have hk:k=n-1:=U3;subst hk;have Wt0:nuB W n=true:=HG.2 I
  (with_reducible repeat' first|apply Al|intro _)
  all_goals first|exact Ak|rfl|(rename_i E hE;cases hE;exact hQ.1 Wt0)|trivial
def OS(s:HS):St:={σ:=[],m:=[(0,.cells 99 (hsL s)),(1,.row 23 1 s.xn s.xg),(2,.row 9 1 s.yn s.yg)],nx:=3000,sv:=[[.ptr 0 0,.row 1,.row 2]] }
def OX(s:HS):St:={σ:=[],m:=(YM s),nx:=3000,sv:=[[.ptr 0 0,.row 1,.row 2]] }
def rsE(e:Int):Bool×Int:=(decide (e=0),e)
def fmE(W:Cf)(n many:Nat)(e:Int):Int:=if n=many+1/\nuB W n=true then e else 4
def voE(s:HS)(x:Int):Int:=if bt 0 x ((s.nc:Int)-1)=true/\s.cv x.toNat=false then 0 else 7
def voS(s:HS)(x:Int):HS:={s with cv:=λk=>if (k:Int)=x then true else s.cv k}
theorem P5{P:Program}{c:Code}{sp0:BH}(h: ∀cj,UC c 0=some cj-> ∀ro cx,PN P ro cx cj sp0): ∀j cj,UC c j=some cj-> ∀sp,[sp0][j]? =some sp-> ∀ro cx,PN P ro cx cj sp:=by
 intro j cj hj sp hsp
 match j with
 | 0=>
  simp at hsp;subst hsp;exact h cj hj
 |j+1=>simp at hsp
theorem Qb0(s sep:ByteArray)(h:1<=sep.size):Lib.countB s sep<=s.size:=Lib.countB_le sep h s.size s (Am _)
theorem BY{str:ByteArray}{n:Nat}{W:Cf}(h:uY str n W):n<=100000:=by
 have h1:=Qb0 str ⟨#[32]⟩ (by decide)
 have h2:=h.1;have h3:=h.2.1;omega
def Qe6:DK:=Ww6 e9
theorem Wv8:GT U8 100 Qe6:=E8 mQ
theorem FB(a b c d e f:AV):HW [a,b,c,d,e,f] [.top,.top,.top,.top,.top,.top]:=by
 have h: ∀a,rG a .top:=λa=>by cases a<;>trivial
 exact ⟨h a,h b,h c,h d,h e,h f,trivial⟩
theorem dJ{sz n:Nat}{f:Ci}(h: ∀i,i<n-> ∀x∈f i,Idf x/\FR x x):rG (.lst sz n f) (.lst sz n f):=by
 refine ⟨rfl,rfl,λi O=>⟨?_,λx hx=>(h i O x hx).1⟩⟩;have: ∀l:List AV,(∀x∈l,FR x x)->wV l l:=by
  intro l
  induction l with
  |nil=>intro _;trivial
  |cons a l ih=>intro hh;exact ⟨hh a H0,ih λx hx=>hh x (DB _ hx)⟩
 exact this _ λx hx=>(h i O x hx).2
theorem B6(n:Int):Idf (i n)/\FR (i n) (i n):=⟨.x _,by simp [FR,UX]⟩
theorem jL(n:Int):rG (i n) (i n):=(B6 n).2
theorem qA(s:HS):rG (hsR s) (hsR s):=dJ λk _ x hx=>by
 simp only [HA,F8,or_false] at hx;rcases hx with rfl|rfl|rfl|rfl<;>exact B6 _
theorem B8(s:HS):rG (hsS s) (hsS s):=dJ λk _ x hx=>by
 simp only [HA,F8,or_false] at hx;rcases hx with rfl|rfl|rfl|rfl|rfl<;>exact B6 _
theorem qB(s:HS):rG (hsC s) (hsC s):=dJ λk _ x hx=>by
 simp only [HA,F8,or_false] at hx;rcases hx with rfl|rfl|rfl|rfl|rfl<;>first|exact B6 _|exact ⟨.x _,by simp [FR,UX]⟩
theorem qC(s:HS):rG (hsB s) (hsB s):=dJ λk _ x hx=>by
 simp only [HA,F8,or_false] at hx;rcases hx with rfl|rfl|rfl;exact B6 _;exact B6 _;refine ⟨.lst _ _ _ λj _ a ha=>?_,rfl,rfl,λ_ _=>rfl⟩;simp only [HA,F8,or_false] at ha;rcases ha with rfl|rfl<;>exact .x _
section
variable {W:Cf}{n many:Nat}
theorem Wi3{e:Int}(h: ¬(n=many+1/\nuB W n=true)):(false,(4:Int))=rsE (fmE W n many e):=by
 unfold fmE;rw [if_neg h];rfl
theorem FX{e k:Int}(h1:n=many+1)(h2:nuB W n=true)(h:e=k)(hk:k≠0):(false,k)=rsE (fmE W n many e):=by
 unfold fmE rsE;rw [if_pos ⟨h1,h2⟩,h,decide_eq_false hk]
theorem hO{e:Int}(h1:n=many+1)(h2:nuB W n=true)(h:e=0):(true,(0:Int))=rsE (fmE W n many e):=by
 unfold fmE rsE;rw [if_pos ⟨h1,h2⟩,h];rfl
end
noncomputable abbrev Qp7:FO:=C5 Tryz.prog [(36,LE)] {R:=[],H:=[(100,Qe6)] } [(145,RZ)] [] Tryz.f180 (UP Tryz.f180)
theorem Qv8:DW U8 180 (Qp7):=
 RM (G:=[(36,LE)]) (X:={R:=[],H:=[(100,Qe6)] }) (PX:=[(145,RZ)]) (L:=[]) (Ae BR Aa) (Ai Ab (Ag Wv8 Ac)) (GG.cons LG (GG.nil _)) UI (UZ Tryz.func180) Tryz.func180 (GF Tryz.f180) (λj cj _ sp hsp=>by simp at hsp)
abbrev Q5:List AV:=[ptr 0 0,AV.row 1,AV.row 2]
abbrev QB(s:HS):Prop:=((23:TypeId),1,s.xn,s.xg)=((23:TypeId),1,s.xn,s.xg)
abbrev QC(s:HS):Prop:=((9:TypeId),1,s.yn,s.yg)=((9:TypeId),1,s.yn,s.yg)
abbrev QW:List AV:=[top,top,top,top,top,top]
abbrev XB(s:HS):HO:=[(0,.cells 99 (hsL s)),(1,.row 23 1 s.xn s.xg),(2,.row 9 1 s.yn s.yg)]
theorem VO{p:Prop}(h:p:=by
 refine ⟨FB _ _ _ _ _ _,Wi3 λh=>?_⟩;rw [h.2] at h5;cases h5):p:=h
theorem VN{p:Prop}(h:p:=by
 refine ⟨FB _ _ _ _ _ _,Wi3 λh=>?_⟩;have:=h.1;simp at h4;omega):p:=h
theorem Xo1(V:Cf)(n:Nat)(str:ByteArray)(s:HS)(UB:uY str n (UQ (GB 6) V))(UY:s.nc<=10):xK U8 106 [.ptr 0 0,.x (.string str)] (XB s) 901 [[.ptr 0 0,.row 1,.row 2]] 211 (OS (voS s (UK (V 0)))) (OX s) (rsE (fmE (UQ (GB 6) V) n 1 (voE s (UK (V 0))))):=by
 refine P8 (PX:=[(145,RZ),(146,kI),(180,Qp7)]) (L:=[uG (UQ (GB 6) V) n 1 180 s]) (Ae (P1 UB) (Ae xI Aa)) Ad (GG.cons LG (GG.cons xR (GG.cons Qv8 (GG.nil _)))) UI (UZ Tryz.func106) Tryz.func106 (GF Tryz.f106) (P5 (lpE (b:= .loop OJ) UD<|dL (UQ (GB 6) V) n 1 180 s UB.2.2.2 (BY UB))) (N:=[(.cell 0 4,0,0,0)]) (t:=let z0:=(UK (UQ (GB 6) V 1));let z1:=(UQ (GB 6) V (0:Int).toNat);let z2:=(need [[Q5]=[Q5],HW (hL s) QW,QB s,QC s] (leaf (false,(4:Int))));let z3:=(need [[Q5]=[Q5],HW (hL s) QW,QB s,QC s] (leaf (false,(7:Int))));let z4:=(UK (UQ (GB 6) V (1+(0:Int).toNat)));(need [OA str str {data:=#[32] }] (need [G7 0 n] (branch (wdO z1) (need [U5 (wdM (wdK z1)+1)] (branch (!(n:Int)==wdM (wdK z1)+1) z2 (need [(0:Int)<=1/\(1:Int)<=(n:Int)/\(n:Int)<=(n:Int)] (need [QO,UJ (lst 1 n λk=>[HP (UQ (GB 6) V k)]),ZT,W0,(lst 1 (n-(1:Int).toNat) λi=>[AV.x (.string (UQ (GB 6) V ((1:Int).toNat+i)))])=lst 1 (n-1) λj=>[HP (UQ (GB 6) V (1+j))],(↑(n-(1:Int).toNat):Int)=(↑(n-1):Int),(0:Int)=((0:Nat):Int),0=0,∀(i:Nat),i<0->[]=[iI (UK (UQ (GB 6) V (1+i)))],wdM (wdK z1)=1,UJ (AV.fn (Fn.func 180) [] []),XK s,JZ s,K1 s,XZ s,XR s,XS s,KV s,∀(i:Nat),i<s.xn->s.xg i=s.xg i,KW s,∀(i:Nat),i<s.yn->s.yg i=s.yg i,QO,K8,K9] (branch (nuB (UQ (GB 6) V) n) (need [G7 0 (↑(n-1):Int)] (need [(0:Int).toNat<n-1] (need [U5 ((↑s.nc:Int)-1)] (branch (bt (0:Int) z0 ((↑s.nc:Int)-1)) (need [G7 0 (↑(n-1):Int)] (need [(0:Int).toNat<n-1] (need [G7 (UK (UQ (GB 6) V 1)) s.nc] (branch (!!s.cv (Int.toNat z0)) z3 (need [s.nc<=100000,gdX 5 s.nc λk=>[i (s.ca k),i (s.cb k),i (s.cc k),i (s.cd k),bl (s.cv k)]] (need [G7 0 (↑(n-1):Int)] (need [(0:Int).toNat<n-1] (need [G7 (UK (UQ (GB 6) V 1)) s.nc] (need [Int.toNat z0<s.nc] (need [[Q5]=[Q5],HW [hR s.nr s,iI s.pl,iI s.ph,hY s.nb s,lst 5 s.nc λk=>iI (if decide (k=Int.toNat z0)=true then s.ca k else s.ca k)::iI (if decide (k=Int.toNat z0)=true then s.cb k else s.cb k)::iI (if decide (k=Int.toNat z0)=true then s.cc k else s.cc k)::iI (if decide (k=Int.toNat z0)=true then s.cd k else s.cd k)::Bool.rec (bl (s.cv k)) (AV.lit true) (decide (k=Int.toNat z4))::Bool.rec ([]) ([]) (decide (k=Int.toNat z4)),hT s.ns s] (hL (voS s (UK (V 0)))),((23:TypeId),1,s.xn,s.xg)=((23:TypeId),1,(voS s (UK (V 0))).xn,(voS s (UK (V 0))).xg),((9:TypeId),1,s.yn,s.yg)=((9:TypeId),1,(voS s (UK (V 0))).yn,(voS s (UK (V 0))).yg)] (leaf (true,(0:Int))))))))))))) z3)))) (need [[Q5]=[Q5],HW QW QW,QB s,QC s] (leaf (false,(4:Int))))))))) z2)))) UD ?_
 have hw:wdO (UQ (GB 6) V (Int.toNat 0))=true:=UD;have hm:wdM (wdK (UQ (GB 6) V (Int.toNat 0)))=1:=UD;have hn1:1<=n:=by have:=UB.2.1;omega
 have hnl:=BY UB;simp only [U6.sat,UU,G4,hm,hw,true_imp_iff];refine ⟨⟨rfl,rfl⟩,⟨U3,U3⟩,⟨by simp only [U5];omega,λh4=>?_,λh4=>?_⟩,λh=>by cases h⟩
 exact VN
 ·have hN:n=1+1:=by
   simp at h4;omega
  refine ⟨⟨U3,U3,U3⟩,?_,λh5=>?_,λh5=>?_⟩
  rotate_left 2
  exact VO
  ·all_goals exact vV
  have hk1:n-1=1:=U3;have hx:UK (UQ (GB 6) V 1)=UK (V 0):=rfl;rw [hk1];simp only [hx,U5,bt_iff,Int.toNat_zero];have hgd:gdX 5 s.nc (λk=>[i (s.ca k),i (s.cb k),i (s.cc k),i (s.cd k),bl (s.cv k)]):=λk _=>⟨rfl,λx hx=>by
   simp only [HA,F8,or_false] at hx;rcases hx with rfl|rfl|rfl|rfl|rfl<;>exact ⟨Ak,by simp [AV.one,Value.oneCell']⟩⟩
  refine ⟨U3,U3,U3,λhb=>⟨U3,U3,U3,λh6=>⟨FB _ _ _ _ _ _,FX hN h5 ?_ (by decide)⟩,λh6=>⟨⟨U3,hgd⟩,U3,U3,U3,U3,⟨⟨qA s,jL _,jL _,qC s,?_,B8 s,trivial⟩,rfl,rfl⟩,hO hN h5 ?_⟩⟩,λhb=>⟨FB _ _ _ _ _ _,FX hN h5 ?_ (by decide)⟩⟩
  unfold voE;rw [if_neg (λh=>by rw [h.2] at h6;cases h6)]
  refine ⟨rfl,rfl,λk hk=>?_⟩;have e1:(voS s (UK (V 0))).cv k=if k=(UK (V 0)).toNat then true else s.cv k:=by
   show (if (k:Int)=UK (V 0) then true else s.cv k)=_
   by_cases h:k=(UK (V 0)).toNat;rw [if_pos h,if_pos U3];rw [if_neg h,if_neg U3]
  refine ⟨?_,λx hx=>?_⟩;by_cases h:k=(UK (V 0)).toNat
  dsimp only
  rw [decide_eq_true h];refine ⟨(B6 _).2,(B6 _).2,(B6 _).2,(B6 _).2,?_,trivial⟩;rw [e1,if_pos h];exact rfl
  dsimp only
  rw [decide_eq_false h];refine ⟨(B6 _).2,(B6 _).2,(B6 _).2,(B6 _).2,?_,trivial⟩;rw [e1,if_neg h];simp [FR,UX];simp only [HA,F8,or_false] at hx;rcases hx with rfl|rfl|rfl|rfl|rfl<;>exact .x _;unfold voE;rw [if_pos ⟨(bt_iff _ _ _).2 hb,by simpa using h6⟩]
  unfold voE;rw [if_neg (λh=>by
   have:=(bt_iff _ _ _).1 h.1;rw [←bt_iff,hb] at this;cases this)]
section
variable (s:HS)
def inE:Int:=rdE 4 100 20 30 s.nr s.ra s.rb s.ru s.rv 3 tbP tbQ s.pl s.ph 1 3
def baS(x0 A:Int):HS:={s with pl:=x0,ph:=A}
def baE(x0 A:Int):Int:=if inE (baS s x0 A)=0 then 0 else 2
def btS(x0 A:Int):HS:={s with nb:=s.nb+1,ql:=D2 s.nb s.ql x0,qh:=D2 s.nb s.qh A,qm:=λk=>if k<s.nb then s.qm k else 0}
def btE(x0 A:Int):Int:=if bt 0 x0 A=true/\A<=1000 then (if s.nb<6 then 0 else 3) else 2
def isS(x0 A I x3:Int):HS:={s with nc:=s.nc+1,ca:=D2 s.nc s.ca x0,cb:=D2 s.nc s.cb A,cc:=D2 s.nc s.cc I,cd:=D2 s.nc s.cd x3,cv:=apB s.nc s.cv false}
def isE(x0 A I x3:Int):Int:=if asE 4 100 20 30 s.nr s.ra s.rb s.ru s.rv 3 tbP tbQ s.pl s.ph 1 3 x0 A I x3=0 then (if s.nc<10 then (if kpB 4 100 20 30 s.nr s.ra s.rb s.ru s.rv 3 tbP tbQ s.pl s.ph 1 3 x0 A I x3=true then 0 else 10) else 3) else 2
end
theorem hsI{s:HS}:G0 4 s.nr (λk=>[Bo.i (s.ra k),Bo.i (s.rb k),Bo.i (s.ru k),Bo.i (s.rv k)])/\G0 2 3 (λk=>[i (tbP k),i (tbQ k)]):=⟨Bo.isRec4 _ _ _ _ _,Pt.isRec2 _ _ _⟩
noncomputable abbrev Qq0:FO:=C5 Tryz.prog [(17,FJ)] {R:=[(44,LY)],H:=[] } [(145,RZ)] [] Tryz.f176 (UP Tryz.f176)
theorem Qx1:DW U8 176 (Qq0):=
 RM (G:=[(17,FJ)]) (X:={R:=[(44,LY)],H:=[] }) (PX:=[(145,RZ)]) (L:=[]) (Ae wQ Aa) (Ai (Af R9 Ab) Ac) (GG.cons LG (GG.nil _)) UI (UZ Tryz.func176) Tryz.func176 (GF Tryz.f176) (λj cj _ sp hsp=>by simp at hsp)
abbrev YQ(s:HS)(V:Cf):List AV:=[hR s.nr s,iI (UK (UQ (GB 2) V 1)),iI (UK (UQ (GB 2) V 2)),hY s.nb s,hC s.nc s,hT s.ns s]
theorem Xo4(V:Cf)(n:Nat)(str:ByteArray)(s:HS)(UB:uY str n (UQ (GB 2) V)):xK U8 106 [.ptr 0 0,.x (.string str)] (XB s) 901 [[.ptr 0 0,.row 1,.row 2]] 211 (OS (baS s (UK (V 0)) (UK (V 1)))) (OX s) (rsE (fmE (UQ (GB 2) V) n 2 (baE s (UK (V 0)) (UK (V 1))))):=by
 refine P8 (PX:=[(145,RZ),(146,kI),(176,(Qq0))]) (L:=[uG (UQ (GB 2) V) n 2 176 s]) (Ae (P1 UB) (Ae xI Aa)) Ad (GG.cons LG (GG.cons xR (GG.cons (Qx1) (GG.nil _)))) UI (UZ Tryz.func106) Tryz.func106 (GF Tryz.f106) (P5 (lpE (b:= .loop OJ) UD<|dL (UQ (GB 2) V) n 2 176 s UB.2.2.2 (BY UB))) (N:=[]) (t:=let z0:=(baS s (UK (V 0)) (UK (V 1)));let z1:=(UQ (GB 2) V (0:Int).toNat);let z2:=(need [[Q5]=[Q5],HW (hL s) QW,QB s,QC s] (leaf (false,(4:Int))));(need [OA str str {data:=#[32] }] (need [G7 0 n] (branch (wdO z1) (need [U5 (wdM (wdK z1)+1)] (branch (!(n:Int)==wdM (wdK z1)+1) z2 (need [(0:Int)<=1/\(1:Int)<=(n:Int)/\(n:Int)<=(n:Int)] (need [QO,UJ (lst 1 n λk=>[HP (UQ (GB 2) V k)]),ZT,W0,(lst 1 (n-(1:Int).toNat) λi=>[AV.x (.string (UQ (GB 2) V ((1:Int).toNat+i)))])=lst 1 (n-1) λj=>[HP (UQ (GB 2) V (1+j))],(↑(n-(1:Int).toNat):Int)=(↑(n-1):Int),(0:Int)=((0:Nat):Int),0=0,∀(i:Nat),i<0->[]=[iI (UK (UQ (GB 2) V (1+i)))],wdM (wdK z1)=2,UJ (AV.fn (Fn.func 176) [] []),XK s,JZ s,K1 s,XZ s,XR s,XS s,KV s,∀(i:Nat),i<s.xn->s.xg i=s.xg i,KW s,∀(i:Nat),i<s.yn->s.yg i=s.yg i,QO,K8,K9] (branch (nuB (UQ (GB 2) V) n) (need [G7 0 (↑(n-1):Int)] (need [(0:Int).toNat<n-1] (need [G7 1 (↑(n-1):Int)] (need [(1:Int).toNat<n-1] (need [G0 4 s.nr λk=>[Bo.i (s.ra k),Bo.i (s.rb k),Bo.i (s.ru k),Bo.i (s.rv k)],G0 2 3 λk=>[i (tbP k),i (tbQ k)]] (branch (!rdE (4:Int) (100:Int) (20:Int) (30:Int) s.nr (s.ra) (s.rb) (s.ru) (s.rv) 3 tbP tbQ (UK (UQ (GB 2) V 1)) (UK (UQ (GB 2) V 2)) (1:Int) (3:Int)==0) (need [[Q5]=[Q5],HW (YQ s V) QW,QB s,QC s] (leaf (false,(2:Int)))) (need [[Q5]=[Q5],HW (YQ s V) (hL z0),((23:TypeId),1,s.xn,s.xg)=((23:TypeId),1,z0.xn,z0.xg),((9:TypeId),1,s.yn,s.yg)=((9:TypeId),1,z0.yn,z0.yg)] (leaf (true,(0:Int)))))))))) (need [[Q5]=[Q5],HW QW QW,QB s,QC s] (leaf (false,(4:Int))))))))) z2)))) UD ?_
 have hw:wdO (UQ (GB 2) V (Int.toNat 0))=true:=UD;have hm:wdM (wdK (UQ (GB 2) V (Int.toNat 0)))=2:=UD;have hn1:1<=n:=by have:=UB.2.1;omega
 have hnl:=BY UB;simp only [U6.sat,UU,G4,hm,hw,true_imp_iff];refine ⟨⟨rfl,rfl⟩,⟨U3,U3⟩,⟨by simp only [U5];omega,λh4=>?_,λh4=>?_⟩,λh=>by cases h⟩
 exact VN
 ·have hN:n=2+1:=by
   simp at h4;omega
  refine ⟨⟨U3,U3,U3⟩,?_,λh5=>?_,λh5=>?_⟩
  rotate_left 2
  exact VO
  ·all_goals exact vV
  have hk1:n-1=2:=U3;rw [hk1];simp only [U5,Int.toNat_zero];refine ⟨U3,U3,U3,by decide,hsI,λh6=>⟨FB _ _ _ _ _ _,FX hN h5 ?_ (by decide)⟩,λh6=>⟨⟨⟨qA s,jL _,jL _,qC s,qB s,B8 s,trivial⟩,rfl,rfl⟩,hO hN h5 ?_⟩⟩
  unfold baE;simp at h6;exact if_neg h6;unfold baE;simp at h6;exact if_pos h6
noncomputable def A5:DK:=vP Tryz.prog [] {} [] Tryz.f209 (UP Tryz.f209)
theorem mR:GT U8 209 A5:=
 RT (G:=[]) (X:=WI) (L:=[]) Aa Ad UI (UZ Tryz.func209) Tryz.func209 (GF Tryz.f209) UN
noncomputable def Jx8:DK:=Ws5 Tryz.prog (Ql0 Tryz.prog [] {R:=[],H:=[(209,A5)] } []) Tryz.f206 (UP Tryz.f206)
theorem Xq2:GT U8 206 Jx8:=by
 have hX: ∀cx,UG U8 {R:=[],H:=[(209,A5)] } cx:=(Ai Ab (Ag mR Ac));exact tN (L:=[]) (λcx=>Xa2 (G:=[]) (X:={R:=[],H:=[(209,A5)] }) Aa (hX cx) UI) (UZ Tryz.func206) Tryz.func206 (GF Tryz.f206) UN
abbrev WT(n:Nat)(U:Cg)(O:Cg)(m:Ch)(r:Nat->Cg)(v:Nat->Cg)(x0:Int)(A:Int):AV:=lst 3 (0+n+1) (GX (0+n) (GX 0 (λx=>[]) λk=>[iI (U k),iI (O k),lst 2 (m k) λk_1=>[iI (r k k_1),iI (v k k_1)]]) (UO 3 [iI x0,iI A,Q9]))
abbrev J6(x0:Int)(A:Int):AV:=lst 3 1 (GX 0 (λx=>[]) (UO 3 [iI x0,iI A,Q9]))
section
variable (n:Nat)(U O:Cg)(m:Ch)(r v:Nat->Cg)
theorem Zu1(x0 A:Int)(UB:n<=100000):G6 U8 206 [.lst 3 n (λk=>[i (U k),i (O k),rdl (m k) (r k) (v k)]),.agg [i x0,i A,.x (.slice none 0 0)]] (.leaf (.lst 3 (n+1) (λk=>[i (D2 n U x0 k),i (D2 n O A k),rdl (if k<n then m k else 0) (r k) (v k)]))):=by
 refine aD Xq2 (t:=U6.may True (U6.may True (U6.may (n=0) (need [40<=140737488355328,L0 1 (UO 3 [iI x0,iI A,Q9])] (leaf (J6 x0 A))) (need [(0+n)*40<=140737488355328,∀(i:Nat),i<n-> ∀(a:AV),a∈[iI (U i),iI (O i),rdl (m i) (r i) (v i)]->AV.one a=true] (need [(0+n+1)*40<=140737488355328,L0 1 (UO 3 [iI x0,iI A,Q9])] (leaf (WT n U O m r v x0 A))))) (U6.may True (U6.may (n=0) (need [40<=140737488355328,L0 1 (UO 3 [iI x0,iI A,Q9])] (leaf (J6 x0 A))) (need [(0+n)*40<=140737488355328,∀(i:Nat),i<n-> ∀(a:AV),a∈[iI (U i),iI (O i),rdl (m i) (r i) (v i)]->AV.one a=true] (need [(0+n+1)*40<=140737488355328,L0 1 (UO 3 [iI x0,iI A,Q9])] (leaf (WT n U O m r v x0 A))))) (U6.may (n=0) (need [40<=140737488355328,L0 1 (UO 3 [iI x0,iI A,Q9])] (leaf (J6 x0 A))) (need [(0+n)*40<=140737488355328,∀(i:Nat),i<n-> ∀(a:AV),a∈[iI (U i),iI (O i),rdl (m i) (r i) (v i)]->AV.one a=true] (need [(0+n+1)*40<=140737488355328,L0 1 (UO 3 [iI x0,iI A,Q9])] (leaf (WT n U O m r v x0 A))))))) (U6.may True (U6.may True (U6.may (n=0) (need [40<=140737488355328,L0 1 (UO 3 [iI x0,iI A,Q9])] (leaf (J6 x0 A))) (need [(0+n)*40<=140737488355328,∀(i:Nat),i<n-> ∀(a:AV),a∈[iI (U i),iI (O i),rdl (m i) (r i) (v i)]->AV.one a=true] (need [(0+n+1)*40<=140737488355328,L0 1 (UO 3 [iI x0,iI A,Q9])] (leaf (WT n U O m r v x0 A))))) (U6.may (n=0) (need [40<=140737488355328,L0 1 (UO 3 [iI x0,iI A,Q9])] (leaf (J6 x0 A))) (need [(0+n)*40<=140737488355328,∀(i:Nat),i<n-> ∀(a:AV),a∈[iI (U i),iI (O i),rdl (m i) (r i) (v i)]->AV.one a=true] (need [(0+n+1)*40<=140737488355328,L0 1 (UO 3 [iI x0,iI A,Q9])] (leaf (WT n U O m r v x0 A)))))) (U6.may (n=0) (need [40<=140737488355328,L0 1 (UO 3 [iI x0,iI A,Q9])] (leaf (J6 x0 A))) (need [(0+n)*40<=140737488355328,∀(i:Nat),i<n-> ∀(a:AV),a∈[iI (U i),iI (O i),rdl (m i) (r i) (v i)]->AV.one a=true] (need [(0+n+1)*40<=140737488355328,L0 1 (UO 3 [iI x0,iI A,Q9])] (leaf (WT n U O m r v x0 A))))))) UD ?_;intro Q hQ;have hA: ∀(k:Nat),k<1-> ∀(a:AV),a∈UO 3 [i x0,i A,AV.x (.slice none 0 0)] k->a.one=true:=by
  intro k hk a ha;obtain rfl:k=0:=U3;have ha:a∈[i x0,i A,AV.x (.slice none 0 0)]:=ha;simp only [HA,F8,or_false] at ha;rcases ha with rfl|rfl|rfl<;>simp [AV.one,Value.oneCell']
 have hB: ∀(k:Nat),k<n-> ∀(a:AV),a∈[i (U k),i (O k),rdl (m k) (r k) (v k)]->a.one=true:=by
  intro k hk a ha;simp only [HA,F8,or_false] at ha;rcases ha with rfl|rfl|rfl<;>simp [AV.one,Value.oneCell']
 have hI: ∀(k:Nat),∀x∈[i (D2 n U x0 k),i (D2 n O A k),rdl (if k<n then m k else 0) (r k) (v k)],Idf x:=by
  intro k x hx;simp only [HA,F8,or_false] at hx;rcases hx with rfl|rfl|rfl;exact .x _;exact .x _;exact VQ
 have hL: ∀k,n<=k->k<n+1->wV [i x0,i A,AV.x (.slice none 0 0)] [i (D2 n U x0 k),i (D2 n O A k),rdl (if k<n then m k else 0) (r k) (v k)]:=by
  intro k h _;simp only [D2,if_neg (Nat.not_lt.2 h)];exact ⟨(B6 _).2,(B6 _).2,⟨Ak,rfl⟩,trivial⟩
 have h1:n=0-> ∃r',rG (lst 3 1 (GX 0 (λx=>[]) (UO 3 [i x0,i A,AV.x (.slice none 0 0)]))) r'/\Q r':=by
  intro h0;refine ⟨lst 3 (n+1) (λk=>[i (D2 n U x0 k),i (D2 n O A k),rdl (if k<n then m k else 0) (r k) (v k)]),⟨rfl,U3,λk hk=>⟨?_,hI k⟩⟩,hQ⟩
  obtain rfl:k=0:=U3;exact hL 0 U3 U3
 have h2: ∃r',rG (lst 3 (0+n+1) (GX (0+n) (GX 0 (λx=>[]) λk=>[i (U k),i (O k),lst 2 (m k) λj=>[i (r k j),i (v k j)]]) (UO 3 [i x0,i A,Q9]))) r'/\Q r':=by
  refine ⟨lst 3 (n+1) (λk=>[i (D2 n U x0 k),i (D2 n O A k),rdl (if k<n then m k else 0) (r k) (v k)]),⟨rfl,U3,λk hk=>⟨?_,hI k⟩⟩,hQ⟩
  show wV (HX (decide (k<0+n)) (GX 0 (λx=>[]) (λk=>[i (U k),i (O k),lst 2 (m k) λj=>[i (r k j),i (v k j)]]) k) (UO 3 [i x0,i A,Q9] (k-(0+n)))) _
  rw [fH,show k-(0+n)=0 by omega]
  by_cases h:k<n;rw [show decide (k<0+n)=true from decide_eq_true U3];simp only [D2,if_pos h];exact ⟨(B6 _).2,(B6 _).2,⟨rfl,rfl,λ_ _=>rfl⟩,trivial⟩;rw [show decide (k<0+n)=false from decide_eq_false U3];exact hL k U3 U3
 simp only [U6.sat,UU,G4]
 (with_reducible repeat' first|apply Al|intro _)
 all_goals first|exact Ak|omega|exact hA _ (by assumption) _ (by assumption)|exact hB _ (by assumption) _ (by assumption)|exact h2|exact h1 (by assumption)
def Qp6:DX:=λl=>match l with
 |[.lst 3 n1 f1,.agg [.x (.int .i64 x0),.x (.int .i64 A),.x z]]=>some (.need [lst 3 n1 f1= .lst 3 n (λk=>[i (U k),i (O k),rdl (m k) (r k) (v k)]),z= .slice none 0 0,n<=100000] (.leaf (.lst 3 (n+1) (λk=>[i (D2 n U x0 k),i (D2 n O A k),rdl (if k<n then m k else 0) (r k) (v k)]))))
 |_=>none
theorem Xq1:Sx.Enters Tryz.prog 206/\ ∀avs t,Qp6 n U O m r v avs=some t->G6 U8 206 avs t:=by
 refine ⟨(UZ Tryz.func206),?_⟩;intro avs t h;unfold Qp6 at h;split at h;cases h;intro Q hQ;obtain ⟨h1,h2⟩:=hQ;have e1:=h1.1;have e2:=h1.2.1;have e3:=h1.2.2;rw [e1,e2];exact Zu1 _ _ _ _ _ _ _ _ e3 Q h2;cases h
end
noncomputable abbrev Qp9(s:HS):FO:=C5 Tryz.prog [(36,LE)] {R:=[],H:=[],C:=[(206,(Qp6 s.nb s.ql s.qh s.qm s.qr s.qv))] } [(145,RZ)] [] Tryz.f177 (UP Tryz.f177)
theorem Qw9(s:HS):DW U8 177 (Qp9 s):=
 RM (G:=[(36,LE)]) (X:={R:=[],H:=[],C:=[(206,(Qp6 s.nb s.ql s.qh s.qm s.qr s.qv))] }) (PX:=[(145,RZ)]) (L:=[]) (Ae BR Aa) (Aj Ab Ac (Ah (Xq1 s.nb s.ql s.qh s.qm s.qr s.qv) (UV.nil _))) (GG.cons LG (GG.nil _)) UI (UZ Tryz.func177) Tryz.func177 (GF Tryz.f177) (λj cj _ sp hsp=>by simp at hsp)
theorem Xo3(V:Cf)(n:Nat)(str:ByteArray)(s:HS)(UB:uY str n (UQ (GB 3) V))(UY:s.nb<=6):xK U8 106 [.ptr 0 0,.x (.string str)] (XB s) 901 [[.ptr 0 0,.row 1,.row 2]] 211 (OS (btS s (UK (V 0)) (UK (V 1)))) (OX s) (rsE (fmE (UQ (GB 3) V) n 2 (btE s (UK (V 0)) (UK (V 1))))):=by
 refine P8 (PX:=[(145,RZ),(146,kI),(177,(Qp9 s))]) (L:=[uG (UQ (GB 3) V) n 2 177 s]) (Ae (P1 UB) (Ae xI Aa)) Ad (GG.cons LG (GG.cons xR (GG.cons (Qw9 s) (GG.nil _)))) UI (UZ Tryz.func106) Tryz.func106 (GF Tryz.f106) (P5 (lpE (b:= .loop OJ) UD<|dL (UQ (GB 3) V) n 2 177 s UB.2.2.2 (BY UB))) (N:=[]) (t:=let z0:=(btS s (UK (V 0)) (UK (V 1)));let z1:=(UQ (GB 3) V (0:Int).toNat);let z2:=(need [[Q5]=[Q5],HW (hL s) QW,QB s,QC s] (leaf (false,(4:Int))));let z3:=(need [[Q5]=[Q5],HW (hL s) QW,QB s,QC s] (leaf (false,(2:Int))));(need [OA str str {data:=#[32] }] (need [G7 0 n] (branch (wdO z1) (need [U5 (wdM (wdK z1)+1)] (branch (!(n:Int)==wdM (wdK z1)+1) z2 (need [(0:Int)<=1/\(1:Int)<=(n:Int)/\(n:Int)<=(n:Int)] (need [QO,UJ (lst 1 n λk=>[HP (UQ (GB 3) V k)]),ZT,W0,(lst 1 (n-(1:Int).toNat) λi=>[AV.x (.string (UQ (GB 3) V ((1:Int).toNat+i)))])=lst 1 (n-1) λj=>[HP (UQ (GB 3) V (1+j))],(↑(n-(1:Int).toNat):Int)=(↑(n-1):Int),(0:Int)=((0:Nat):Int),0=0,∀(i:Nat),i<0->[]=[iI (UK (UQ (GB 3) V (1+i)))],wdM (wdK z1)=2,UJ (AV.fn (Fn.func 177) [] []),XK s,JZ s,K1 s,XZ s,XR s,XS s,KV s,∀(i:Nat),i<s.xn->s.xg i=s.xg i,KW s,∀(i:Nat),i<s.yn->s.yg i=s.yg i,QO,K8,K9] (branch (nuB (UQ (GB 3) V) n) (need [G7 0 (↑(n-1):Int)] (need [(0:Int).toNat<n-1] (need [G7 1 (↑(n-1):Int)] (need [(1:Int).toNat<n-1] (branch (bt (0:Int) (UK (UQ (GB 3) V 1)) (UK (UQ (GB 3) V 2))) (need [G7 1 (↑(n-1):Int)] (need [(1:Int).toNat<n-1] (branch (!decide (UK (UQ (GB 3) V 2)<=1000)) z3 (branch (!decide ((↑s.nb:Int)<6)) (need [[Q5]=[Q5],HW (hL s) QW,QB s,QC s] (leaf (false,(3:Int)))) (need [G7 0 (↑(n-1):Int)] (need [(0:Int).toNat<n-1] (need [G7 1 (↑(n-1):Int)] (need [(1:Int).toNat<n-1] (need [(hY s.nb s)=lst 3 s.nb λk=>[iI (s.ql k),iI (s.qh k),lst 2 (s.qm k) λk_1=>[iI (s.qr k k_1),iI (s.qv k k_1)]],J8=J8,s.nb<=100000] (need [[Q5]=[Q5],HW [hR s.nr s,iI s.pl,iI s.ph,lst 3 (s.nb+1) λk=>[iI (D2 s.nb (s.ql) (UK (UQ (GB 3) V 1)) k),iI (D2 s.nb (s.qh) (UK (UQ (GB 3) V 2)) k),lst 2 (if k<s.nb then s.qm k else 0) λk_1=>[iI (s.qr k k_1),iI (s.qv k k_1)]],hC s.nc s,hT s.ns s] (hL z0),((23:TypeId),1,s.xn,s.xg)=((23:TypeId),1,z0.xn,z0.xg),((9:TypeId),1,s.yn,s.yg)=((9:TypeId),1,z0.yn,z0.yg)] (leaf (true,(0:Int))))))))))))) z3))))) (need [[Q5]=[Q5],HW QW QW,QB s,QC s] (leaf (false,(4:Int))))))))) z2)))) UD ?_
 have hw:wdO (UQ (GB 3) V (Int.toNat 0))=true:=UD;have hm:wdM (wdK (UQ (GB 3) V (Int.toNat 0)))=2:=UD;have hn1:1<=n:=by have:=UB.2.1;omega
 have hnl:=BY UB;simp only [U6.sat,UU,G4,hm,hw,true_imp_iff];refine ⟨⟨rfl,rfl⟩,⟨U3,U3⟩,⟨by simp only [U5];omega,λh4=>?_,λh4=>?_⟩,λh=>by cases h⟩
 exact VN
 ·have hN:n=2+1:=by
   simp at h4;omega
  refine ⟨⟨U3,U3,U3⟩,?_,λh5=>?_,λh5=>?_⟩
  rotate_left 2
  exact VO
  ·all_goals exact vV
  have hk1:n-1=2:=U3;have hx0:UK (UQ (GB 3) V 1)=UK (V 0):=rfl;have hx1:UK (UQ (GB 3) V 2)=UK (V 1):=rfl;rw [hk1];simp only [hx0,hx1,Int.toNat_zero];refine ⟨U3,U3,U3,by decide,λhb=>⟨U3,by decide,λh6=>⟨FB _ _ _ _ _ _,FX hN h5 ?_ (by decide)⟩,λh6=>⟨λh7=>⟨FB _ _ _ _ _ _,FX hN h5 ?_ (by decide)⟩,λh7=>⟨U3,U3,U3,by decide,U3,⟨⟨qA s,jL _,jL _,qC (btS s (UK (V 0)) (UK (V 1))),qB s,B8 s,trivial⟩,rfl,rfl⟩,hO hN h5 ?_⟩⟩⟩,λhb=>⟨FB _ _ _ _ _ _,FX hN h5 ?_ (by decide)⟩⟩
  simp at h6;exact if_neg λh=>U3;simp at h6 h7;unfold btE;rw [if_pos ⟨hb,h6⟩,if_neg U3];simp at h6 h7;unfold btE;rw [if_pos ⟨hb,h6⟩,if_pos U3];exact if_neg λh=>by
   rw [hb] at h;cases h.1
def thS(s:HS)(x0 A I x3:Int):HS:={s with nr:=s.nr+1,ra:=D2 s.nr s.ra x0,rb:=D2 s.nr s.rb A,ru:=D2 s.nr s.ru I,rv:=D2 s.nr s.rv x3}
def thD(x0 A I x3:Int):Int:=eB 4 100 20 30 1 (λ_=>x0) (λ_=>A) (λ_=>I) (λ_=>x3)
def thE(s:HS)(x0 A I x3:Int):Int:=if (thD x0 A I x3==0||thD x0 A I x3==9)=true then (if s.nr<12 then (if inE (thS s x0 A I x3)=0 then 0 else 9) else 3) else 2
def cR(S:GM):DX:=λl=>match S l with
 |some (ns,r)=>some (.needT ns (.leaf r))
 |none=>none
theorem Ql4{P:Program}{f:FuncId}{S:GM}(h:PS P f S):Sx.Enters P f/\ ∀avs t,cR S avs=some t->G6 P f avs t:=by
 refine ⟨h.1,λavs t ht=>?_⟩;unfold cR at ht;split at ht;rename_i ns r hS;cases ht;intro Q hQ e w args h1 h2 h3 h4;obtain ⟨q1,q2⟩:=U6.sat_needT hQ;refine (h.2 _ _ _ hS (GY q1) e w args h1 h2 h3 h4).mono ?_;rintro en w' ⟨v,rfl,g1,g2⟩;exact ⟨v,r,rfl,q2,g1,g2⟩;cases ht
def fL:GM
 |[.agg [.x (.int .i64 c),.x (.int .i64 T),.x (.int .i64 U),.x (.int .i64 O)],.lst 4 n f]=>match f 0 with
  |[.x (.int .i64 a),.x (.int .i64 b),.x (.int .i64 u),.x (.int .i64 v)]=>some ([n=1],.tup [i (dtB c T U O 1 (λ_=>a) (λ_=>b) (λ_=>u) (λ_=>v)),i (eB c T U O 1 (λ_=>a) (λ_=>b) (λ_=>u) (λ_=>v))])
  |_=>none
 |_=>none
theorem Wb1:UA U8 203 fL:=by
 refine ⟨(UZ Tryz.func203),?_⟩;intro avs ns res h hn;unfold fL at h;split at h;rename_i c T U O n f;split at h;rename_i a b u v hf;cases h;obtain rfl:n=1:=hn _ H0;exact (Xj7 c T U O 1 (λ_=>a) (λ_=>b) (λ_=>u) (λ_=>v)).same (.cons (.refl _) (.cons (.lst 4 1 f _ (λk hk=>by
  obtain rfl:k=0:=U3;exact hf)) .nil))
 cases h;cases h
theorem bnf{b:Bool}(h:(!b)=false):b=true:=by cases b<;>simp_all
theorem bnt{b:Bool}(h:(!b)=true):b=false:=by cases b<;>simp_all
section
variable {s:HS}{x0 A I x3:Int}
theorem Jg4(h:(thD x0 A I x3==0)=false)(h':(thD x0 A I x3==9)=false):thE s x0 A I x3=2:=by
 unfold thE;rw [h,h'];rfl
theorem Xz7(h:(thD x0 A I x3==0||thD x0 A I x3==9)=true)(h8:(!decide ((s.nr:Int)<12))=true):thE s x0 A I x3=3:=by
 unfold thE;simp at h8;rw [if_pos h,if_neg U3]
theorem Xz6(h:(thD x0 A I x3==0||thD x0 A I x3==9)=true)(h8:(!decide ((s.nr:Int)<12))=false)(h9:(!inE (thS s x0 A I x3)==0)=true):thE s x0 A I x3=9:=by
 unfold thE;simp at h8 h9;rw [if_pos h,if_pos U3,if_neg h9]
theorem Xz8(h:(thD x0 A I x3==0||thD x0 A I x3==9)=true)(h8:(!decide ((s.nr:Int)<12))=false)(h9:(!inE (thS s x0 A I x3)==0)=false):thE s x0 A I x3=0:=by
 unfold thE;simp at h8 h9;rw [if_pos h,if_pos U3,if_pos h9]
end
noncomputable abbrev TV(s:HS):FO:=C5 Tryz.prog [(203,fL),(17,FJ),(204,(Qp4 s.nr s.ra s.rb s.ru s.rv))] {R:=[(44,LY)],H:=[],C:=[(44,(cR LY))] } [(145,RZ)] [] Tryz.f174 (UP Tryz.f174)
theorem mA(s:HS):DW U8 174 (TV s):=
 RM (G:=[(203,fL),(17,FJ),(204,(Qp4 s.nr s.ra s.rb s.ru s.rv))]) (X:={R:=[(44,LY)],H:=[],C:=[(44,(cR LY))] }) (PX:=[(145,RZ)]) (L:=[]) (Ae Wb1 (Ae wQ (Ae (Xp9 s.nr s.ra s.rb s.ru s.rv) Aa))) (Aj (Af R9 Ab) Ac (Ah (Ql4 R9) (UV.nil _))) (GG.cons LG (GG.nil _)) UI (UZ Tryz.func174) Tryz.func174 (GF Tryz.f174) (λj cj _ sp hsp=>by simp at hsp)
abbrev WC(s:HS)(V:Cf):List AV:=[lst 4 (s.nr+1) λk=>[iI (D2 s.nr (s.ra) (UK (UQ (GB 0) V 1)) k),iI (D2 s.nr (s.rb) (UK (UQ (GB 0) V 2)) k),iI (D2 s.nr (s.ru) (UK (UQ (GB 0) V 3)) k),iI (D2 s.nr (s.rv) (UK (UQ (GB 0) V 4)) k)],iI s.pl,iI s.ph,hY s.nb s,hC s.nc s,hT s.ns s]
theorem Qu6(V:Cf)(n:Nat)(str:ByteArray)(s:HS)(UB:uY str n (UQ (GB 0) V))(UY:s.nr<=12):xK U8 106 [.ptr 0 0,.x (.string str)] (XB s) 901 [[.ptr 0 0,.row 1,.row 2]] 211 (OS (thS s (UK (V 0)) (UK (V 1)) (UK (V 2)) (UK (V 3)))) (OX s) (rsE (fmE (UQ (GB 0) V) n 4 (thE s (UK (V 0)) (UK (V 1)) (UK (V 2)) (UK (V 3))))):=by
 refine P8 (PX:=[(145,RZ),(146,kI),(174,(TV s))]) (L:=[uG (UQ (GB 0) V) n 4 174 s]) (Ae (P1 UB) (Ae xI Aa)) Ad (GG.cons LG (GG.cons xR (GG.cons (mA s) (GG.nil _)))) UI (UZ Tryz.func106) Tryz.func106 (GF Tryz.f106) (P5 (lpE (b:= .loop OJ) UD<|dL (UQ (GB 0) V) n 4 174 s UB.2.2.2 (BY UB))) (N:=[]) (t:=let z1:=(thS s (UK (V 0)) (UK (V 1)) (UK (V 2)) (UK (V 3)));let z0:=(branch (!decide ((↑s.nr:Int)<12)) (need [[Q5]=[Q5],HW (hL s) QW,QB s,QC s] (leaf (false,(3:Int)))) (need [XK s,s.nr<=100000] (need [G0 4 (s.nr+1) λk=>[Bo.i (D2 s.nr (s.ra) (UK (UQ (GB 0) V 1)) k),Bo.i (D2 s.nr (s.rb) (UK (UQ (GB 0) V 2)) k),Bo.i (D2 s.nr (s.ru) (UK (UQ (GB 0) V 3)) k),Bo.i (D2 s.nr (s.rv) (UK (UQ (GB 0) V 4)) k)],G0 2 3 λk=>[i (tbP k),i (tbQ k)]] (branch (!rdE (4:Int) (100:Int) (20:Int) (30:Int) (s.nr+1) (D2 s.nr (s.ra) (UK (UQ (GB 0) V 1))) (D2 s.nr (s.rb) (UK (UQ (GB 0) V 2))) (D2 s.nr (s.ru) (UK (UQ (GB 0) V 3))) (D2 s.nr (s.rv) (UK (UQ (GB 0) V 4))) 3 tbP tbQ s.pl s.ph (1:Int) (3:Int)==0) (need [[Q5]=[Q5],HW (WC s V) QW,QB s,QC s] (leaf (false,(9:Int)))) (need [[Q5]=[Q5],HW (WC s V) (hL z1),((23:TypeId),1,s.xn,s.xg)=((23:TypeId),1,z1.xn,z1.xg),((9:TypeId),1,s.yn,s.yg)=((9:TypeId),1,z1.yn,z1.yg)] (leaf (true,(0:Int))))))));let z2:=(eB (4:Int) (100:Int) (20:Int) (30:Int) 1 (λx=>UK (UQ (GB 0) V 1)) (λx=>UK (UQ (GB 0) V 2)) (λx=>UK (UQ (GB 0) V 3)) λx=>UK (UQ (GB 0) V 4));let z3:=(UQ (GB 0) V (0:Int).toNat);let z4:=(need [[Q5]=[Q5],HW (hL s) QW,QB s,QC s] (leaf (false,(4:Int))));(need [OA str str {data:=#[32] }] (need [G7 0 n] (branch (wdO z3) (need [U5 (wdM (wdK z3)+1)] (branch (!(n:Int)==wdM (wdK z3)+1) z4 (need [(0:Int)<=1/\(1:Int)<=(n:Int)/\(n:Int)<=(n:Int)] (need [QO,UJ (lst 1 n λk=>[HP (UQ (GB 0) V k)]),ZT,W0,(lst 1 (n-(1:Int).toNat) λi=>[AV.x (.string (UQ (GB 0) V ((1:Int).toNat+i)))])=lst 1 (n-1) λj=>[HP (UQ (GB 0) V (1+j))],(↑(n-(1:Int).toNat):Int)=(↑(n-1):Int),(0:Int)=((0:Nat):Int),0=0,∀(i:Nat),i<0->[]=[iI (UK (UQ (GB 0) V (1+i)))],wdM (wdK z3)=4,UJ (AV.fn (Fn.func 174) [] []),XK s,JZ s,K1 s,XZ s,XR s,XS s,KV s,∀(i:Nat),i<s.xn->s.xg i=s.xg i,KW s,∀(i:Nat),i<s.yn->s.yg i=s.yg i,QO,K8,K9] (branch (nuB (UQ (GB 0) V) n) (need [G7 0 (↑(n-1):Int)] (need [(0:Int).toNat<n-1] (need [G7 1 (↑(n-1):Int)] (need [(1:Int).toNat<n-1] (need [G7 2 (↑(n-1):Int)] (need [(2:Int).toNat<n-1] (need [G7 3 (↑(n-1):Int)] (need [(3:Int).toNat<n-1] (need [1=1] (branch (z2==0) z0 (branch (!z2==9) (need [[Q5]=[Q5],HW (hL s) QW,QB s,QC s] (leaf (false,(2:Int)))) z0))))))))))) (need [[Q5]=[Q5],HW QW QW,QB s,QC s] (leaf (false,(4:Int))))))))) z4)))) UD ?_
 have hw:wdO (UQ (GB 0) V (Int.toNat 0))=true:=UD;have hm:wdM (wdK (UQ (GB 0) V (Int.toNat 0)))=4:=UD;have hn1:1<=n:=by have:=UB.2.1;omega
 have hnl:=BY UB;simp only [U6.sat,UU,G4,hm,hw,true_imp_iff];refine ⟨⟨rfl,rfl⟩,⟨U3,U3⟩,⟨by simp only [U5];omega,λh4=>?_,λh4=>?_⟩,λh=>by cases h⟩
 exact VN
 ·have hN:n=4+1:=by
   simp at h4;omega
  refine ⟨⟨U3,U3,U3⟩,?_,λh5=>?_,λh5=>?_⟩
  rotate_left 2
  exact VO
  ·all_goals exact vV
  have hk1:n-1=4:=U3;have hx0:UK (UQ (GB 0) V 1)=UK (V 0):=rfl;have hx1:UK (UQ (GB 0) V 2)=UK (V 1):=rfl;have hx2:UK (UQ (GB 0) V 3)=UK (V 2):=rfl;have hx3:UK (UQ (GB 0) V 4)=UK (V 3):=rfl;rw [hk1];simp only [hx0,hx1,hx2,hx3];refine ⟨U3,by decide,U3,by decide,U3,by decide,U3,by decide,λh6=>⟨λh8=>⟨FB _ _ _ _ _ _,FX hN h5 (Xz7 (Bool.or_eq_true_iff.2 (.inl h6)) h8) (by decide)⟩,λh8=>⟨U3,⟨Bo.isRec4 _ _ _ _ _,Pt.isRec2 _ _ _⟩,λh9=>⟨FB _ _ _ _ _ _,FX hN h5 (Xz6 (Bool.or_eq_true_iff.2 (.inl h6)) h8 h9) (by decide)⟩,λh9=>⟨⟨⟨qA (thS s (UK (V 0)) (UK (V 1)) (UK (V 2)) (UK (V 3))),jL _,jL _,qC s,qB s,B8 s,trivial⟩,rfl,rfl⟩,hO hN h5 (Xz8 (Bool.or_eq_true_iff.2 (.inl h6)) h8 h9)⟩⟩⟩,λh6=>⟨λh7=>⟨FB _ _ _ _ _ _,FX hN h5 (Jg4 h6 (bnt h7)) (by decide)⟩,λh7=>⟨λh8=>⟨FB _ _ _ _ _ _,FX hN h5 (Xz7 (Bool.or_eq_true_iff.2 (.inr (bnf h7))) h8) (by decide)⟩,λh8=>⟨U3,⟨Bo.isRec4 _ _ _ _ _,Pt.isRec2 _ _ _⟩,λh9=>⟨FB _ _ _ _ _ _,FX hN h5 (Xz6 (Bool.or_eq_true_iff.2 (.inr (bnf h7))) h8 h9) (by decide)⟩,λh9=>⟨⟨⟨qA (thS s (UK (V 0)) (UK (V 1)) (UK (V 2)) (UK (V 3))),jL _,jL _,qC s,qB s,B8 s,trivial⟩,rfl,rfl⟩,hO hN h5 (Xz8 (Bool.or_eq_true_iff.2 (.inr (bnf h7))) h8 h9)⟩⟩⟩⟩⟩
section
variable {s:HS}{x0 A I x3:Int}
theorem Jn2(h6:(!asE 4 100 20 30 s.nr s.ra s.rb s.ru s.rv 3 tbP tbQ s.pl s.ph 1 3 x0 A I x3==0)=true):isE s x0 A I x3=2:=by
 unfold isE;simp at h6;rw [if_neg h6]
theorem Jn1(h6:(!asE 4 100 20 30 s.nr s.ra s.rb s.ru s.rv 3 tbP tbQ s.pl s.ph 1 3 x0 A I x3==0)=false)(h7:(!decide ((s.nc:Int)<10))=true):isE s x0 A I x3=3:=by
 unfold isE;simp at h6 h7;rw [if_pos h6,if_neg U3]
theorem Zt3(h6:(!asE 4 100 20 30 s.nr s.ra s.rb s.ru s.rv 3 tbP tbQ s.pl s.ph 1 3 x0 A I x3==0)=false)(h7:(!decide ((s.nc:Int)<10))=false)(h8:(!kpB 4 100 20 30 s.nr s.ra s.rb s.ru s.rv 3 tbP tbQ s.pl s.ph 1 3 x0 A I x3)=true):isE s x0 A I x3=10:=by
 unfold isE;simp at h6 h7 h8;rw [if_pos h6,if_pos U3,h8,if_neg (by decide)]
theorem Jn3(h6:(!asE 4 100 20 30 s.nr s.ra s.rb s.ru s.rv 3 tbP tbQ s.pl s.ph 1 3 x0 A I x3==0)=false)(h7:(!decide ((s.nc:Int)<10))=false)(h8:(!kpB 4 100 20 30 s.nr s.ra s.rb s.ru s.rv 3 tbP tbQ s.pl s.ph 1 3 x0 A I x3)=false):isE s x0 A I x3=0:=by
 unfold isE;simp at h6 h7 h8;rw [if_pos h6,if_pos U3,h8,if_pos rfl]
end
noncomputable abbrev oM(s:HS):FO:=C5 Tryz.prog [(26,cZ),(211,(Qp5 s.nc s.ca s.cb s.cc s.cd s.cv))] {R:=[],H:=[],C:=[(44,(cR LY))] } [(145,RZ)] [] Tryz.f179 (UP Tryz.f179)
theorem tW(s:HS):DW U8 179 (oM s):=
 RM (G:=[(26,cZ),(211,(Qp5 s.nc s.ca s.cb s.cc s.cd s.cv))]) (X:={R:=[],H:=[],C:=[(44,(cR LY))] }) (PX:=[(145,RZ)]) (L:=[]) (Ae Qq3 (Ae (Xq0 s.nc s.ca s.cb s.cc s.cd s.cv) Aa)) (Aj Ab Ac (Ah (Ql4 R9) (UV.nil _))) (GG.cons LG (GG.nil _)) UI (UZ Tryz.func179) Tryz.func179 (GF Tryz.f179) (λj cj _ sp hsp=>by simp at hsp)
theorem Wn3(V:Cf)(n:Nat)(str:ByteArray)(s:HS)(UB:uY str n (UQ (GB 5) V))(UY:s.nc<=10):xK U8 106 [.ptr 0 0,.x (.string str)] (XB s) 901 [[.ptr 0 0,.row 1,.row 2]] 211 (OS (isS s (UK (V 0)) (UK (V 1)) (UK (V 2)) (UK (V 3)))) (OX s) (rsE (fmE (UQ (GB 5) V) n 4 (isE s (UK (V 0)) (UK (V 1)) (UK (V 2)) (UK (V 3))))):=by
 refine P8 (PX:=[(145,RZ),(146,kI),(179,(oM s))]) (L:=[uG (UQ (GB 5) V) n 4 179 s]) (Ae (P1 UB) (Ae xI Aa)) Ad (GG.cons LG (GG.cons xR (GG.cons (tW s) (GG.nil _)))) UI (UZ Tryz.func106) Tryz.func106 (GF Tryz.f106) (P5 (lpE (b:= .loop OJ) UD<|dL (UQ (GB 5) V) n 4 179 s UB.2.2.2 (BY UB))) (N:=[]) (t:=let z0:=(isS s (UK (V 0)) (UK (V 1)) (UK (V 2)) (UK (V 3)));let z1:=(UQ (GB 5) V (0:Int).toNat);let z2:=(need [[Q5]=[Q5],HW (hL s) QW,QB s,QC s] (leaf (false,(4:Int))));let z3:=(UK (UQ (GB 5) V 1));let z4:=(UK (UQ (GB 5) V 2));let z5:=(UK (UQ (GB 5) V 3));let z6:=(UK (UQ (GB 5) V 4));(need [OA str str {data:=#[32] }] (need [G7 0 n] (branch (wdO z1) (need [U5 (wdM (wdK z1)+1)] (branch (!(n:Int)==wdM (wdK z1)+1) z2 (need [(0:Int)<=1/\(1:Int)<=(n:Int)/\(n:Int)<=(n:Int)] (need [QO,UJ (lst 1 n λk=>[HP (UQ (GB 5) V k)]),ZT,W0,(lst 1 (n-(1:Int).toNat) λi=>[AV.x (.string (UQ (GB 5) V ((1:Int).toNat+i)))])=lst 1 (n-1) λj=>[HP (UQ (GB 5) V (1+j))],(↑(n-(1:Int).toNat):Int)=(↑(n-1):Int),(0:Int)=((0:Nat):Int),0=0,∀(i:Nat),i<0->[]=[iI (UK (UQ (GB 5) V (1+i)))],wdM (wdK z1)=4,UJ (AV.fn (Fn.func 179) [] []),XK s,JZ s,K1 s,XZ s,XR s,XS s,KV s,∀(i:Nat),i<s.xn->s.xg i=s.xg i,KW s,∀(i:Nat),i<s.yn->s.yg i=s.yg i,QO,K8,K9] (branch (nuB (UQ (GB 5) V) n) (need [G7 0 (↑(n-1):Int)] (need [(0:Int).toNat<n-1] (need [G7 1 (↑(n-1):Int)] (need [(1:Int).toNat<n-1] (need [G7 2 (↑(n-1):Int)] (need [(2:Int).toNat<n-1] (need [G7 3 (↑(n-1):Int)] (need [(3:Int).toNat<n-1] (need [G0 4 s.nr λk=>[Bo.i (s.ra k),Bo.i (s.rb k),Bo.i (s.ru k),Bo.i (s.rv k)],G0 2 3 λk=>[i (tbP k),i (tbQ k)]] (branch (!asE (4:Int) (100:Int) (20:Int) (30:Int) s.nr (s.ra) (s.rb) (s.ru) (s.rv) 3 tbP tbQ s.pl s.ph (1:Int) (3:Int) z3 z4 z5 z6==0) (need [[Q5]=[Q5],HW (hL s) QW,QB s,QC s] (leaf (false,(2:Int)))) (branch (!decide ((↑s.nc:Int)<10)) (need [[Q5]=[Q5],HW (hL s) QW,QB s,QC s] (leaf (false,(3:Int)))) (branch (!kpB (4:Int) (100:Int) (20:Int) (30:Int) s.nr (s.ra) (s.rb) (s.ru) (s.rv) 3 tbP tbQ s.pl s.ph (1:Int) (3:Int) z3 z4 z5 z6) (need [[Q5]=[Q5],HW (hL s) QW,QB s,QC s] (leaf (false,(10:Int)))) (need [XR s,s.nc<=100000] (need [[Q5]=[Q5],HW [hR s.nr s,iI s.pl,iI s.ph,hY s.nb s,lst 5 (s.nc+1) λk=>[iI (D2 s.nc (s.ca) z3 k),iI (D2 s.nc (s.cb) z4 k),iI (D2 s.nc (s.cc) z5 k),iI (D2 s.nc (s.cd) z6 k),AV.x (.bool (apB s.nc (s.cv) false k))],hT s.ns s] (hL z0),((23:TypeId),1,s.xn,s.xg)=((23:TypeId),1,z0.xn,z0.xg),((9:TypeId),1,s.yn,s.yg)=((9:TypeId),1,z0.yn,z0.yg)] (leaf (true,(0:Int))))))))))))))))) (need [[Q5]=[Q5],HW QW QW,QB s,QC s] (leaf (false,(4:Int))))))))) z2)))) UD ?_
 have hw:wdO (UQ (GB 5) V (Int.toNat 0))=true:=UD;have hm:wdM (wdK (UQ (GB 5) V (Int.toNat 0)))=4:=UD;have hn1:1<=n:=by have:=UB.2.1;omega
 have hnl:=BY UB;simp only [U6.sat,UU,G4,hm,hw,true_imp_iff];refine ⟨⟨rfl,rfl⟩,⟨U3,U3⟩,⟨by simp only [U5];omega,λh4=>?_,λh4=>?_⟩,λh=>by cases h⟩
 exact VN
 ·have hN:n=4+1:=by
   simp at h4;omega
  refine ⟨⟨U3,U3,U3⟩,?_,λh5=>?_,λh5=>?_⟩
  rotate_left 2
  exact VO
  ·all_goals exact vV
  have hk1:n-1=4:=U3;have hx0:UK (UQ (GB 5) V 1)=UK (V 0):=rfl;have hx1:UK (UQ (GB 5) V 2)=UK (V 1):=rfl;have hx2:UK (UQ (GB 5) V 3)=UK (V 2):=rfl;have hx3:UK (UQ (GB 5) V 4)=UK (V 3):=rfl;rw [hk1];simp only [hx0,hx1,hx2,hx3];refine ⟨U3,by decide,U3,by decide,U3,by decide,U3,by decide,⟨Bo.isRec4 _ _ _ _ _,Pt.isRec2 _ _ _⟩,λh6=>⟨FB _ _ _ _ _ _,FX hN h5 (Jn2 h6) (by decide)⟩,λh6=>⟨λh7=>⟨FB _ _ _ _ _ _,FX hN h5 (Jn1 h6 h7) (by decide)⟩,λh7=>⟨λh8=>⟨FB _ _ _ _ _ _,FX hN h5 (Zt3 h6 h7 h8) (by decide)⟩,λh8=>⟨U3,⟨⟨qA s,jL _,jL _,qC s,qB (isS s (UK (V 0)) (UK (V 1)) (UK (V 2)) (UK (V 3))),B8 s,trivial⟩,rfl,rfl⟩,hO hN h5 (Jn3 h6 h7 h8)⟩⟩⟩⟩
section
variable (s:HS)(x0 A I x3 x4:Int)
def slS:HS:={s with ns:=s.ns+1,sa:=D2 s.ns s.sa x0,sb:=D2 s.ns s.sb A,sc:=D2 s.ns s.sc I,sl:=D2 s.ns s.sl x3,sh:=D2 s.ns s.sh x4}
def slE:Int:=if saB x0 A I x3 x4=true then (if s.ns<8 then (if orE (s.ns+1) (D2 s.ns s.sa x0) (D2 s.ns s.sb A) (D2 s.ns s.sc I) (D2 s.ns s.sl x3) (D2 s.ns s.sh x4)=0 then 0 else 9) else 3) else 2
end
def vM:GM
 |[.agg [.x (.int .i64 c),.x (.int .i64 t),.lst 5 n f]]=>match f 0 with
  |[.x (.int .i64 x0),.x (.int .i64 A),.x (.int .i64 I),.x (.int .i64 x3),.x (.int .i64 x4)]=>some ([n=1,c=4,t=10],i (if saB x0 A I x3 x4=true then 0 else 1))
  |_=>none
 |_=>none
def rZ(n:Nat)(a b c U O:Cg):GM:=λl=>some ([sV n a b c U O,l=[.agg [i 4,i 10,sls n a b c U O]]],.tup [.top,.top,i (orE n a b c U O)])
theorem sB:UA U8 83 vM:=by
 refine ⟨(UZ Tryz.func83),?_⟩;intro avs ns res h hn;unfold vM at h;split at h;rename_i c t n f;split at h;rename_i x0 A I x3 x4 hf;cases h;obtain rfl:n=1:=hn _ UE;obtain rfl:c=4:=hn (c=4) UE;obtain rfl:t=10:=hn (t=10) UE;have h1:=(S2 1 (λ_=>x0) (λ_=>A) (λ_=>I) (λ_=>x3) (λ_=>x4) U3).same (.cons (PM.same (.cons (.refl _) (.cons (.refl _) (.cons (.lst 5 1 f _ (λk hk=>by
  obtain rfl:k=0:=U3;exact hf)) .nil)))) .nil)
 have e:kC 1 (λ_=>x0) (λ_=>A) (λ_=>I) (λ_=>x3) (λ_=>x4)=saB x0 A I x3 x4:=by
  unfold kC;cases hb:saB x0 A I x3 x4 with
  |true=>exact HG.2 λj _=>hb
  |false=>exact Bool.eq_false_iff.2 λh=>Bool.noConfusion (hb.symm.trans (HG.1 h 0 U3))
 rw [e] at h1;exact h1;cases h;cases h
theorem sA(n:Nat)(a b c U O:Cg):UA U8 213 (rZ n a b c U O):=by
 refine ⟨(UZ Tryz.func213),?_⟩;intro avs ns res h hn;cases h;have e:=hn _ (DB _ H0);subst e;exact Qt4 n a b c U O (hn _ H0)
section
variable {s:HS}{x0 A I x3 x4:Int}
theorem Jh2(h:saB x0 A I x3 x4=false):slE s x0 A I x3 x4=2:=by
 unfold slE;rw [h];rfl
theorem Jh1(h:saB x0 A I x3 x4=true)(h7:(!decide ((s.ns:Int)<8))=true):slE s x0 A I x3 x4=3:=by
 unfold slE;simp at h7;rw [if_pos h,if_neg U3]
theorem Jh0(h:saB x0 A I x3 x4=true)(h7:(!decide ((s.ns:Int)<8))=false)(h8:(!orE (s.ns+1) (D2 s.ns s.sa x0) (D2 s.ns s.sb A) (D2 s.ns s.sc I) (D2 s.ns s.sl x3) (D2 s.ns s.sh x4)==0)=true):slE s x0 A I x3 x4=9:=by
 unfold slE;simp at h7 h8;rw [if_pos h,if_pos U3,if_neg h8]
theorem Jh3(h:saB x0 A I x3 x4=true)(h7:(!decide ((s.ns:Int)<8))=false)(h8:(!orE (s.ns+1) (D2 s.ns s.sa x0) (D2 s.ns s.sb A) (D2 s.ns s.sc I) (D2 s.ns s.sl x3) (D2 s.ns s.sh x4)==0)=false):slE s x0 A I x3 x4=0:=by
 unfold slE;simp at h7 h8;rw [if_pos h,if_pos U3,if_pos h8]
theorem slV(h:saB x0 A I x3 x4=true)(h7:(!decide ((s.ns:Int)<8))=false)(hs:sV s.ns s.sa s.sb s.sc s.sl s.sh):sV (s.ns+1) (D2 s.ns s.sa x0) (D2 s.ns s.sb A) (D2 s.ns s.sc I) (D2 s.ns s.sl x3) (D2 s.ns s.sh x4):=by
 simp at h7;refine ⟨U3,λk hk=>?_⟩;unfold D2;by_cases hk':k<s.ns;simp only [if_pos hk'];exact hs.2 k hk';simp only [if_neg hk'];exact h
end
theorem ifB{b:Bool}(h:(!(if b=true then (0:Int) else 1)==0)=false):b=true:=by cases b<;>simp_all
theorem ifB'{b:Bool}(h:(!(if b=true then (0:Int) else 1)==0)=true):b=false:=by cases b<;>simp_all
noncomputable def NO:DK:=vP Tryz.prog [] {} [] Tryz.f39 (UP Tryz.f39)
theorem Qa2:GT U8 39 NO:=
 RT (G:=[]) (X:=WI) (L:=[]) Aa Ad UI (UZ Tryz.func39) Tryz.func39 (GF Tryz.f39) UN
section
variable (s:HS)(x0 A I x3 x4:Int)
noncomputable abbrev Qp8:FO:=C5 Tryz.prog [(83,vM),(212,(Qp3 s.ns s.sa s.sb s.sc s.sl s.sh)),(213,(rZ (s.ns+1) (D2 s.ns s.sa x0) (D2 s.ns s.sb A) (D2 s.ns s.sc I) (D2 s.ns s.sl x3) (D2 s.ns s.sh x4)))] {R:=[],H:=[(39,NO)] } [(145,RZ)] [] Tryz.f181 (UP Tryz.f181)
theorem Qw3:DW U8 181 (Qp8 s x0 A I x3 x4):=
 RM (G:=[(83,vM),(212,(Qp3 s.ns s.sa s.sb s.sc s.sl s.sh)),(213,(rZ (s.ns+1) (D2 s.ns s.sa x0) (D2 s.ns s.sb A) (D2 s.ns s.sc I) (D2 s.ns s.sl x3) (D2 s.ns s.sh x4)))]) (X:={R:=[],H:=[(39,NO)] }) (PX:=[(145,RZ)]) (L:=[]) (Ae sB (Ae (Xp8 s.ns s.sa s.sb s.sc s.sl s.sh) (Ae (sA (s.ns+1) (D2 s.ns s.sa x0) (D2 s.ns s.sb A) (D2 s.ns s.sc I) (D2 s.ns s.sl x3) (D2 s.ns s.sh x4)) Aa))) (Ai Ab (Ag Qa2 Ac)) (GG.cons LG (GG.nil _)) UI (UZ Tryz.func181) Tryz.func181 (GF Tryz.f181) (λj cj _ sp hsp=>by simp at hsp)
end
abbrev ZC(s:HS)(V:Cf):List AV:=[hR s.nr s,iI s.pl,iI s.ph,hY s.nb s,hC s.nc s,lst 5 (s.ns+1) λk=>[iI (D2 s.ns (s.sa) (UK (UQ (GB 7) V 1)) k),iI (D2 s.ns (s.sb) (UK (UQ (GB 7) V 2)) k),iI (D2 s.ns (s.sc) (UK (UQ (GB 7) V 3)) k),iI (D2 s.ns (s.sl) (UK (UQ (GB 7) V 4)) k),iI (D2 s.ns (s.sh) (UK (UQ (GB 7) V 5)) k)]]
theorem Xo2(V:Cf)(n:Nat)(str:ByteArray)(s:HS)(UB:uY str n (UQ (GB 7) V))(UY:sV s.ns s.sa s.sb s.sc s.sl s.sh):xK U8 106 [.ptr 0 0,.x (.string str)] (XB s) 901 [[.ptr 0 0,.row 1,.row 2]] 211 (OS (slS s (UK (V 0)) (UK (V 1)) (UK (V 2)) (UK (V 3)) (UK (V 4)))) (OX s) (rsE (fmE (UQ (GB 7) V) n 5 (slE s (UK (V 0)) (UK (V 1)) (UK (V 2)) (UK (V 3)) (UK (V 4))))):=by
 refine P8 (PX:=[(145,RZ),(146,kI),(181,(Qp8 s (UK (V 0)) (UK (V 1)) (UK (V 2)) (UK (V 3)) (UK (V 4))))]) (L:=[uG (UQ (GB 7) V) n 5 181 s]) (Ae (P1 UB) (Ae xI Aa)) Ad (GG.cons LG (GG.cons xR (GG.cons (Qw3 s (UK (V 0)) (UK (V 1)) (UK (V 2)) (UK (V 3)) (UK (V 4))) (GG.nil _)))) UI (UZ Tryz.func106) Tryz.func106 (GF Tryz.f106) (P5 (lpE (b:= .loop OJ) UD<|dL (UQ (GB 7) V) n 5 181 s UB.2.2.2 (BY UB))) (N:=[]) (t:=let z0:=(slS s (UK (V 0)) (UK (V 1)) (UK (V 2)) (UK (V 3)) (UK (V 4)));let z1:=(UQ (GB 7) V (0:Int).toNat);let z2:=(need [[Q5]=[Q5],HW (hL s) QW,QB s,QC s] (leaf (false,(4:Int))));(need [OA str str {data:=#[32] }] (need [G7 0 n] (branch (wdO z1) (need [U5 (wdM (wdK z1)+1)] (branch (!(n:Int)==wdM (wdK z1)+1) z2 (need [(0:Int)<=1/\(1:Int)<=(n:Int)/\(n:Int)<=(n:Int)] (need [QO,UJ (lst 1 n λk=>[HP (UQ (GB 7) V k)]),ZT,W0,(lst 1 (n-(1:Int).toNat) λi=>[AV.x (.string (UQ (GB 7) V ((1:Int).toNat+i)))])=lst 1 (n-1) λj=>[HP (UQ (GB 7) V (1+j))],(↑(n-(1:Int).toNat):Int)=(↑(n-1):Int),(0:Int)=((0:Nat):Int),0=0,∀(i:Nat),i<0->[]=[iI (UK (UQ (GB 7) V (1+i)))],wdM (wdK z1)=5,UJ (AV.fn (Fn.func 181) [] []),XK s,JZ s,K1 s,XZ s,XR s,XS s,KV s,∀(i:Nat),i<s.xn->s.xg i=s.xg i,KW s,∀(i:Nat),i<s.yn->s.yg i=s.yg i,QO,K8,K9] (branch (nuB (UQ (GB 7) V) n) (need [G7 0 (↑(n-1):Int)] (need [(0:Int).toNat<n-1] (need [G7 1 (↑(n-1):Int)] (need [(1:Int).toNat<n-1] (need [G7 2 (↑(n-1):Int)] (need [(2:Int).toNat<n-1] (need [G7 3 (↑(n-1):Int)] (need [(3:Int).toNat<n-1] (need [G7 4 (↑(n-1):Int)] (need [(4:Int).toNat<n-1] (need [1=1,W5,WD] (branch (!(if saB (UK (UQ (GB 7) V 1)) (UK (UQ (GB 7) V 2)) (UK (UQ (GB 7) V 3)) (UK (UQ (GB 7) V 4)) (UK (UQ (GB 7) V 5))=true then (0:Int) else (1:Int))==0) (need [[Q5]=[Q5],HW (hL s) QW,QB s,QC s] (leaf (false,(2:Int)))) (branch (!decide ((↑s.ns:Int)<8)) (need [[Q5]=[Q5],HW (hL s) QW,QB s,QC s] (leaf (false,(3:Int)))) (need [XS s,s.ns<=100000] (need [sV (s.ns+1) (D2 s.ns (s.sa) (UK (V 0))) (D2 s.ns (s.sb) (UK (V 1))) (D2 s.ns (s.sc) (UK (V 2))) (D2 s.ns (s.sl) (UK (V 3))) (D2 s.ns (s.sh) (UK (V 4))),[agg [iI 4,iI 10,lst 5 (s.ns+1) λk=>[iI (D2 s.ns (s.sa) (UK (UQ (GB 7) V 1)) k),iI (D2 s.ns (s.sb) (UK (UQ (GB 7) V 2)) k),iI (D2 s.ns (s.sc) (UK (UQ (GB 7) V 3)) k),iI (D2 s.ns (s.sl) (UK (UQ (GB 7) V 4)) k),iI (D2 s.ns (s.sh) (UK (UQ (GB 7) V 5)) k)]]]=[agg [iI 4,iI 10,lst 5 (s.ns+1) λk=>[iI (D2 s.ns (s.sa) (UK (V 0)) k),iI (D2 s.ns (s.sb) (UK (V 1)) k),iI (D2 s.ns (s.sc) (UK (V 2)) k),iI (D2 s.ns (s.sl) (UK (V 3)) k),iI (D2 s.ns (s.sh) (UK (V 4)) k)]]]] (branch (!orE (s.ns+1) (D2 s.ns (s.sa) (UK (V 0))) (D2 s.ns (s.sb) (UK (V 1))) (D2 s.ns (s.sc) (UK (V 2))) (D2 s.ns (s.sl) (UK (V 3))) (D2 s.ns (s.sh) (UK (V 4)))==0) (need [[Q5]=[Q5],HW (ZC s V) QW,QB s,QC s] (leaf (false,(9:Int)))) (need [[Q5]=[Q5],HW (ZC s V) (hL z0),((23:TypeId),1,s.xn,s.xg)=((23:TypeId),1,z0.xn,z0.xg),((9:TypeId),1,s.yn,s.yg)=((9:TypeId),1,z0.yn,z0.yg)] (leaf (true,(0:Int)))))))))))))))))))) (need [[Q5]=[Q5],HW QW QW,QB s,QC s] (leaf (false,(4:Int))))))))) z2)))) UD ?_
 have hw:wdO (UQ (GB 7) V (Int.toNat 0))=true:=UD;have hm:wdM (wdK (UQ (GB 7) V (Int.toNat 0)))=5:=UD;have hn1:1<=n:=by have:=UB.2.1;omega
 have hnl:=BY UB;simp only [U6.sat,UU,G4,hm,hw,true_imp_iff];refine ⟨⟨rfl,rfl⟩,⟨U3,U3⟩,⟨by simp only [U5];omega,λh4=>?_,λh4=>?_⟩,λh=>by cases h⟩
 exact VN
 ·have hN:n=5+1:=by
   simp at h4;omega
  refine ⟨⟨U3,U3,U3⟩,?_,λh5=>?_,λh5=>?_⟩
  rotate_left 2
  exact VO
  ·all_goals exact vV
  have hk1:n-1=5:=U3;have hx0:UK (UQ (GB 7) V 1)=UK (V 0):=rfl;have hx1:UK (UQ (GB 7) V 2)=UK (V 1):=rfl;have hx2:UK (UQ (GB 7) V 3)=UK (V 2):=rfl;have hx3:UK (UQ (GB 7) V 4)=UK (V 3):=rfl;have hx4:UK (UQ (GB 7) V 5)=UK (V 4):=rfl;rw [hk1];simp only [hx0,hx1,hx2,hx3,hx4];have hns:=UY.1;refine ⟨U3,by decide,U3,by decide,U3,by decide,U3,by decide,U3,by decide,λh6=>⟨FB _ _ _ _ _ _,FX hN h5 (Jh2 (ifB' h6)) (by decide)⟩,λh6=>⟨λh7=>⟨FB _ _ _ _ _ _,FX hN h5 (Jh1 (ifB h6) h7) (by decide)⟩,λh7=>⟨U3,⟨slV (ifB h6) h7 UY,trivial⟩,λh8=>⟨FB _ _ _ _ _ _,FX hN h5 (Jh0 (ifB h6) h7 h8) (by decide)⟩,λh8=>⟨⟨⟨qA s,jL _,jL _,qC s,qB s,B8 (slS s (UK (V 0)) (UK (V 1)) (UK (V 2)) (UK (V 3)) (UK (V 4))),trivial⟩,rfl,rfl⟩,hO hN h5 (Jh3 (ifB h6) h7 h8)⟩⟩⟩⟩
theorem Wt8(r v:Int)(m:Nat)(g:Cg)(UB:1<=m):UH U8 208 [.agg [i r,i v],.ro [.lst 1 m (λk=>[i (g k)])]] (bl (!(r==g 0))):=by
 refine HL Tryz.func208 (t:=need [G7 0 m] (leaf (RV.x (.bool (r != g (0:Int).toNat))))) UD ?_;simp only [U6.sat,UU,GS,UX,G4,Int.toNat_zero];refine ⟨U3,?_⟩;show (r != g 0)=_;rfl
def Qn6(m:Nat)(g:Cg):GM
 |[.agg [.x (.int .i64 r),.x (.int .i64 v)],b]=>some ([1<=m,[b]=[.ro [.lst 1 m (λk=>[i (g k)])]]],bl (!(r==g 0)))
 |_=>none
theorem Wt7(m:Nat)(g:Cg):UA U8 208 (Qn6 m g):=by
 refine ⟨(UZ Tryz.func208),?_⟩;intro avs ns res h hn;unfold Qn6 at h;split at h;cases h;have e:=hn _ (DB _ H0);injection e with e _
 subst e;exact Wt8 _ _ m g (hn _ H0);cases h
theorem Qx3(r v:Int)(m:Nat)(g:Cg)(UB:1<=m):UH U8 236 [.agg [i r,i v],.ro [.fn (.func 208) [] [.ro [.lst 1 m (λk=>[i (g k)])]]]] (bl (r==g 0)):=by
 refine UL (L:=[]) (Ae (Wt7 m g) Aa) UI Tryz.func236 (GF Tryz.f236) UN (t:=need [1<=m,UJ ([AV.ro [lst 1 m λk=>[iI (g k)]]])] (leaf (RV.x (.bool !!r==g 0)))) UD ?_;simp only [U6.sat,UU,GS,UX,G4];refine ⟨UB,?_⟩;show (!!(r==g 0))=_;simp
def oB(m:Nat)(g:Cg):GM
 |[.agg [.x (.int .i64 r),.x (.int .i64 v)],b]=>some ([1<=m,[b]=[.ro [.fn (.func 208) [] [.ro [.lst 1 m (λk=>[i (g k)])]]]]],bl (r==g 0))
 |_=>none
theorem SV(m:Nat)(g:Cg):UA U8 236 (oB m g):=by
 refine ⟨(UZ Tryz.func236),?_⟩;intro avs ns res h hn;unfold oB at h;split at h;cases h;have e:=hn _ (DB _ H0);injection e with e _
 subst e;exact Qx3 _ _ m g (hn _ H0);cases h
def seJ(r:Cg)(x:Int)(j:Nat):Bool:=r j==x
def seN(n:Nat)(r:Cg)(x:Int):Bool:=F1 (λj=> !(r j==x)) n
abbrev WA(m:Nat)(g:Cg):AV:=AV.fn (Fn.func 236) [] [AV.ro [AV.fn (Fn.func 208) [] [AV.ro [lst 1 m λk=>[iI (g k)]]]]]
section
variable (n:Nat)
abbrev ZN(r:Cg)(v:Cg):AV:=lst 2 n λk=>[iI (r k),iI (v k)]
def fM(r v:Cg)(m:Nat)(g:Cg):St:={σ:=[ZN n r v,WA m g]++D6 5 [iI (n:Int)]++D6 11 [],m:=[],nx:=4}
noncomputable def Qq9:Code:=UT (UC (UP Tryz.f252) 0)
def SI(r v:Cg)(m:Nat)(g:Cg)(k:Nat):St:=(upM [(8,i k)] (fM n r v m g))
def w8(r v:Cg)(m:Nat)(g:Cg)(k:Nat):GR->Option St
 | .ret=>some (upM [(4,i (HJ ((seJ r (g 0))) n))] (fM n r v m g))
 | .exit 0=>some (upM [] (fM n r v m g))
 |_=>none
def Qm2(r v:Cg)(m:Nat)(g:Cg):CT:= .branch (decide (HJ ((seJ r (g 0))) n<n)) (.leaf (.ret,(w8 n r v m g 0 .ret).getD (fM n r v m g))) (.leaf (.exit 0,(w8 n r v m g 0 (.exit 0)).getD (fM n r v m g)))
def oN(r v:Cg)(m:Nat)(g:Cg):G5:=(D1 (SI n r v m g (0)) (Qm2 n r v m g))
end
abbrev KE(m:Nat)(g:Cg):List AV:=[AV.ro [AV.fn (Fn.func 208) [] [AV.ro [lst 1 m λk=>[iI (g k)]]]]]
section
variable (n:Nat)(r v:Cg)(m:Nat)(g:Cg)
theorem Wb6(UB:n<=100000)(UY:1<=m):GU U8 (.loop Qq9) (oN n r v m g):=by
 refine D4 (L:=[]) (Ae (SV m g) Aa) UI UN (X:=Nat) (SI n r v m g) (λk=>k<=n/\ ∀j,j<k->(seJ r (g 0)) j=false) (λk=>n-k) (w8 n r v m g) (x0:=0) ⟨U3,λj hj=>U3⟩ ?_ ?_ ?_;rintro k;kernel_rfl;rintro k y E h;unfold w8 at h;split at h;cases h;kernel_rfl;cases h;kernel_rfl;cases h
 ·rintro Q hQ k hx;refine ⟨(k+1),?_⟩;(with_reducible refine F4 (t:=branch (decide ((k:Int)<(n:Int))) (need [G7 k n] (need [1<=m,UJ (KE m g)] (branch (r k==g 0) (need [UJ (ZN n r v),UJ (WA m g),(k:Int)=(↑(HJ (seJ r (g 0)) n):Int),UJ (n:Int)] (leaf GR.ret)) (need [U5 ((k:Int)+1)] (need [UJ (ZN n r v),UJ (WA m g),UJ (n:Int),(k:Int)+1=(↑(k+1):Int)] (leaf GR.normal)))))) (need [UJ (ZN n r v),UJ (WA m g),UJ (n:Int)] (leaf (GR.exit 0)))) UD ?_);simp only [Qm2,w8,U6.sat,HF,HU] at hQ;simp only [U6.sat,UU,G4,HU,U5,w8,FA];have Xq6:k<n->((seJ r (g 0))) k=true->HJ ((seJ r (g 0))) n=k:=λh hb=>jT h hb hx.2;have B0: ¬k<n->HJ ((seJ r (g 0))) n=n:=λh=>wA (λj hj=>hx.2 j U3);have hgo:((seJ r (g 0))) k=false-> ∀j,j<k+1->((seJ r (g 0))) j=false:=by
   intro hb j hj;rcases (show j<k\/j=k by omega) with h1|rfl
   exact hx.2 j h1;exact hb
  refine ⟨λh=>⟨U3,UY,?_⟩,λh=>?_⟩
  rotate_left
  intro E hE;cases hE;exact hQ.2 (by rw [B0 U3];omega)
  have hk:k<n:=U3;refine ⟨λhb=>?_,λhb=>?_⟩;exact VW;exact ⟨U3,U3,⟨U3,hgo hb⟩,U3⟩
theorem Xp5(UB:n<=100000)(UY:1<=m):UH U8 252 [rdl n r v,.fn (.func 236) [] [.ro [.fn (.func 208) [] [.ro [.lst 1 m (λk=>[i (g k)])]]]]] (i (if HJ ((seJ r (g 0))) n<n then (HJ ((seJ r (g 0))) n:Int) else -1)):=by
 refine UL (L:=[oN n r v m g]) (Ae (SV m g) Aa) UI Tryz.func252 (GF Tryz.f252) (GJ (lpE (b:= .loop Qq9) UD<|Wb6 n r v m g UB UY)) (t:=need [UJ (ZN n r v),UJ (WA m g),UJ (n:Int),(0:Int)=((0:Nat):Int)] (branch (decide (HJ (seJ r (g 0)) n<n)) (leaf (RV.x (.int .i64 (↑(HJ (seJ r (g 0)) n):Int)))) (leaf (RV.x (KR))))) UD ?_
 exact VT
def Zy3:GM:=λl=>some ([l=[rdl n r v,.fn (.func 236) [] [.ro [.fn (.func 208) [] [.ro [.lst 1 m (λk=>[i (g k)])]]]]]],i (if HJ (seJ r (g 0)) n<n then (HJ (seJ r (g 0)) n:Int) else -1))
theorem Wt1(UB:n<=100000)(UY:1<=m):UA U8 252 (Zy3 n r v m g):=by
 refine ⟨(UZ Tryz.func252),?_⟩;intro avs ns res h hn;cases h;have e:=hn _ H0;subst e;exact Xp5 n r v m g UB UY
theorem Xr2(UB:n<=100000)(UY:1<=m):UH U8 235 [rdl n r v,.fn (.func 236) [] [.ro [.fn (.func 208) [] [.ro [.lst 1 m (λk=>[i (g k)])]]]]] (bl (!seN n r (g 0))):=by
 refine UL (L:=[]) (Ae (Wt1 n r v m g UB UY) Aa) UI Tryz.func235 (GF Tryz.f235) UN (t:=need [UJ ([ZN n r v,WA m g])] (leaf (RV.x (.bool (decide ((if HJ (seJ r (g 0)) n<n then (↑(HJ (seJ r (g 0)) n):Int) else (-1:Int))>=(0:Int))))))) UD ?_
 simp only [U6.sat,UU,GS,UX,G4];unfold seN;rw [yL];have e:(λk=> !(λj=> !(r j==g 0)) k)=seJ r (g 0):=by
  funext k;simp [seJ]
 rw [e];have:=FI (seJ r (g 0)) n;show decide ((if HJ (seJ r (g 0)) n<n then (HJ (seJ r (g 0)) n:Int) else -1)>=0)=_
 split<;>simp<;>omega
def Zy5:GM:=λl=>some ([l=[rdl n r v,.fn (.func 236) [] [.ro [.fn (.func 208) [] [.ro [.lst 1 m (λk=>[i (g k)])]]]]]],bl (!seN n r (g 0)))
theorem Ww0(UB:n<=100000)(UY:1<=m):UA U8 235 (Zy5 n r v m g):=by
 refine ⟨(UZ Tryz.func235),?_⟩;intro avs ns res h hn;cases h;have e:=hn _ H0;subst e;exact Xr2 n r v m g UB UY
theorem Ww4(UB:n<=100000)(UY:1<=m):UH U8 207 [rdl n r v,.fn (.func 208) [] [.ro [.lst 1 m (λk=>[i (g k)])]]] (bl (seN n r (g 0))):=by
 refine UL (L:=[]) (Ae (Ww0 n r v m g UB UY) Aa) UI Tryz.func207 (GF Tryz.f207) UN (t:=need [UJ ([ZN n r v,WA m g])] (leaf (RV.x (.bool !!seN n r (g 0))))) UD ?_;simp only [U6.sat,UU,GS,UX,G4];show (!!seN n r (g 0))=_;simp
end
section
variable (s:HS)
def laB:Nat:=((s.nb:Int)-1).toNat
def seM(k:Nat):Nat:=if k=laB s then s.qm k+1 else s.qm k
def seR(x0:Int)(k j:Nat):Int:=if k=laB s then D2 (s.qm k) (s.qr k) x0 j else s.qr k j
def seV(A:Int)(k j:Nat):Int:=if k=laB s then D2 (s.qm k) (s.qv k) A j else s.qv k j
def seS(x0 A:Int):HS:={s with qm:=seM s,qr:=seR s x0,qv:=seV s A}
def seE(x0 A:Int):Int:=if 1<=s.nb then (if bt 0 x0 2=true then (if seN (s.qm (laB s)) (s.qr (laB s)) x0=true then (if bt (-1000) A 2000=true then (if boE s.nb s.ql s.qh (seM s) (seR s x0) (seV s A)=0 then 0 else 9) else 2) else 6) else 7) else 8
end
section
variable (N:Nat)(U O:Cg)(m:Ch)(r v:Nat->Cg)
def xJ:GM
 |[.agg l']=>some ([bV N U O m r v,HW l' [ofs,i 1,bds N U O m r v]],.tup [.top,i (boE N U O m r v)])
 |_=>none
theorem Qj1:Idf (bds N U O m r v):= .lst _ _ _ λk _ x hx=>by
 simp only [HA,F8,or_false] at hx;rcases hx with rfl|rfl|rfl;exact .x _;exact .x _;exact VQ
end
theorem Wn2{e:G8}{w:World}{l l':List AV}{u:Value}(h:HW l l')(r:Rep e w (.agg l) u):Rep e w (.agg l') u:=by
 cases r with
 |agg _ vs h1 h2=>exact Rep.aggL (rF h ⟨h1,h2⟩)
theorem cM(N:Nat)(U O:Cg)(m:Ch)(r v:Nat->Cg):UA U8 19 (xJ N U O m r v):=by
 refine ⟨(UZ Tryz.func19),?_⟩;intro avs ns res h hn;unfold xJ at h;split at h;rename_i l';cases h;have h1:bV N U O m r v:=hn _ H0;have h2:HW l' [ofs,i 1,bds N U O m r v]:=hn _ (DB _ H0);intro e w args q1 q2 q3 q4;have q5:UM e w [.agg [ofs,i 1,bds N U O m r v]] args:=by
  obtain ⟨u,us,rfl,g1,g2⟩:=q4.cons_inv;exact .cons (Wn2 h2 g1) g2
 refine (yK N U O m r v h1 e w args q1 q2 (λa ha=>?_) q5).mono ?_;rcases BE.1 ha with rfl;refine .agg _ λx hx=>?_;simp only [HA,F8,or_false] at hx;rcases hx with rfl|rfl|rfl;exact VQ;exact .x _;exact Qj1 _ _ _ _ _ _;rintro en w' ⟨u,rfl,g1,g2⟩;have k:FR (tup [.lst 2 (boN N U O m r v) (λk=>[i (boL N U O m r v k),i (boH N U O m r v k)]),i (boE N U O m r v)]) (.tup [.top,i (boE N U O m r v)]):=⟨trivial,(B6 _).2,trivial⟩;exact ⟨u,rfl,g1,FY k g2⟩;cases h
section
variable {s:HS}
theorem Ji6{x0 A:Int}(h:bV s.nb s.ql s.qh s.qm s.qr s.qv)(h1:1<=s.nb)(h2:bt 0 x0 2=true)(h3:seN (s.qm (laB s)) (s.qr (laB s)) x0=true)(h4:bt (-1000) A 2000=true):bV s.nb s.ql s.qh (seM s) (seR s x0) (seV s A):=by
 rw [bt_iff] at h2 h4;have h3: ∀j,j<s.qm (laB s)->s.qr (laB s) j≠x0:=λj hj=>by simpa using HG.1 h3 j hj
 have hla:laB s<s.nb:=by unfold laB;omega
 obtain ⟨⟨g0,g1⟩,g2⟩:=h;have hq:s.qm (laB s)<=3:=by
  rcases An 3 (s.qm (laB s)) with hq|hq;obtain ⟨_,_,_,_,g3⟩:=g1 _ hla;have a0:=g3 0 U3;have a1:=g3 1 U3;have a2:=g3 2 U3;have a3:=g3 3 U3;have b01:=g2 _ hla 0 1 U3 U3;have b02:=g2 _ hla 0 2 U3 U3;have b03:=g2 _ hla 0 3 U3 U3;have b12:=g2 _ hla 1 2 U3 U3;have b13:=g2 _ hla 1 3 U3 U3;have b23:=g2 _ hla 2 3 U3 U3;omega;exact hq
 refine ⟨⟨g0,λb hb=>?_⟩,λb hb j k hjk hk=>?_⟩;obtain ⟨k1,k2,k3,k4,k5⟩:=g1 b hb;unfold seM seR seV D2;by_cases e:b=laB s;subst e;simp only [if_true];refine ⟨U3,k2,k3,k4,λj hj=>?_⟩;by_cases e:j<s.qm (laB s);simp only [if_pos e];exact k5 j e;simp only [if_neg e];omega;simp only [if_neg e];exact ⟨k1,k2,k3,k4,k5⟩;unfold seM at hk;unfold seR D2;by_cases e:b=laB s;subst e;simp only [if_true] at hk ⊢;by_cases e:k<s.qm (laB s);simp only [if_pos e,if_pos (show j<s.qm (laB s) by omega)]
 exact g2 _ hb j k hjk e;simp only [if_neg e,if_pos (show j<s.qm (laB s) by omega)]
 exact h3 j U3;simp only [if_neg e] at hk ⊢;exact g2 _ hb j k hjk hk
theorem Jh8{k:Nat}(h:k=laB s):seM s k=s.qm (laB s)+1:=by rw [h];exact if_pos rfl
theorem Jh9{k:Nat}(h: ¬k=laB s):seM s k=s.qm k:=if_neg h
theorem Jh6{x:Int}{k j:Nat}(h:k=laB s):seR s x k j=D2 (s.qm (laB s)) (s.qr (laB s)) x j:=by rw [h];exact if_pos rfl
theorem Jh7{x:Int}{k j:Nat}(h: ¬k=laB s):seR s x k j=s.qr k j:=if_neg h
theorem Jh4{x:Int}{k j:Nat}(h:k=laB s):seV s x k j=D2 (s.qm (laB s)) (s.qv (laB s)) x j:=by rw [h];exact if_pos rfl
theorem Jh5{x:Int}{k j:Nat}(h: ¬k=laB s):seV s x k j=s.qv k j:=if_neg h
theorem Ji1{x0 A:Int}(h:(!decide ((s.nb:Int)-1>=0))=true):seE s x0 A=8:=by
 simp at h;exact if_neg U3
theorem Ji2{x0 A:Int}(h1:1<=s.nb)(h2:bt 0 x0 2=false):seE s x0 A=7:=by
 unfold seE;rw [if_pos h1,h2];rfl
theorem Ji3{x0 A:Int}(h1:1<=s.nb)(h2:bt 0 x0 2=true)(h3:seN (s.qm (laB s)) (s.qr (laB s)) x0=false):seE s x0 A=6:=by
 unfold seE;rw [if_pos h1,if_pos h2,h3];rfl
theorem Ji4{x0 A:Int}(h1:1<=s.nb)(h2:bt 0 x0 2=true)(h3:seN (s.qm (laB s)) (s.qr (laB s)) x0=true)(h4:bt (-1000) A 2000=false):seE s x0 A=2:=by
 unfold seE;rw [if_pos h1,if_pos h2,if_pos h3,h4];rfl
theorem Ji0{x0 A:Int}(h1:1<=s.nb)(h2:bt 0 x0 2=true)(h3:seN (s.qm (laB s)) (s.qr (laB s)) x0=true)(h4:bt (-1000) A 2000=true)(h5:(!boE s.nb s.ql s.qh (seM s) (seR s x0) (seV s A)==0)=true):seE s x0 A=9:=by
 unfold seE;simp at h5;rw [if_pos h1,if_pos h2,if_pos h3,if_pos h4,if_neg h5]
theorem Ji5{x0 A:Int}(h1:1<=s.nb)(h2:bt 0 x0 2=true)(h3:seN (s.qm (laB s)) (s.qr (laB s)) x0=true)(h4:bt (-1000) A 2000=true)(h5:(!boE s.nb s.ql s.qh (seM s) (seR s x0) (seV s A)==0)=false):seE s x0 A=0:=by
 unfold seE;simp at h5;rw [if_pos h1,if_pos h2,if_pos h3,if_pos h4,if_pos h5]
end
theorem Zt6(s:HS)(k:Nat): ∀x∈[i (s.ql k),i (s.qh k),bts (s.qm k) (s.qr k) (s.qv k)],Idf x:=λx hx=>by
 simp only [HA,F8,or_false] at hx;rcases hx with rfl|rfl|rfl;exact .x _;exact .x _;exact VQ
noncomputable def A3:DK:=vP Tryz.prog [] {} [] Tryz.f46 (UP Tryz.f46)
theorem mF:GT U8 46 A3:=
 RT (G:=[]) (X:=WI) (L:=[]) Aa Ad UI (UZ Tryz.func46) Tryz.func46 (GF Tryz.f46) UN
section
variable (n:Nat)(r v:Cg)(m:Nat)(g:Cg)
def NI:GM:=λl=>some ([n<=100000,1<=m,l=[rdl n r v,.fn (.func 208) [] [.ro [.lst 1 m (λk=>[i (g k)])]]]],bl (seN n r (g 0)))
theorem Qx2:UA U8 207 (NI n r v m g):=by
 refine ⟨(UZ Tryz.func207),?_⟩;intro avs ns res h hn;cases h;have e:=hn _ (DB _ (DB _ H0));subst e;exact Ww4 n r v m g (hn _ H0) (hn _ (DB _ H0))
end
section
variable (s:HS)(x0 A:Int)(m:Nat)(g:Cg)
noncomputable abbrev Xf7:FO:=C5 Tryz.prog [(36,LE),(207,(NI (s.qm (laB s)) (s.qr (laB s)) (s.qv (laB s)) m g)),(210,(Qp2 (s.qm (laB s)) (s.qr (laB s)) (s.qv (laB s)))),(19,(xJ s.nb s.ql s.qh (seM s) (seR s x0) (seV s A)))] {R:=[],H:=[(209,A5),(46,A3)],C:=[(46,(cR j5))] } [(145,RZ)] [] Tryz.f178 (UP Tryz.f178)
theorem Wt6:DW U8 178 (Xf7 s x0 A m g):=
 RM (G:=[(36,LE),(207,(NI (s.qm (laB s)) (s.qr (laB s)) (s.qv (laB s)) m g)),(210,(Qp2 (s.qm (laB s)) (s.qr (laB s)) (s.qv (laB s)))),(19,(xJ s.nb s.ql s.qh (seM s) (seR s x0) (seV s A)))]) (X:={R:=[],H:=[(209,A5),(46,A3)],C:=[(46,(cR j5))] }) (PX:=[(145,RZ)]) (L:=[]) (Ae BR (Ae (Qx2 (s.qm (laB s)) (s.qr (laB s)) (s.qv (laB s)) m g) (Ae (Xp7 (s.qm (laB s)) (s.qr (laB s)) (s.qv (laB s))) (Ae (cM s.nb s.ql s.qh (seM s) (seR s x0) (seV s A)) Aa)))) (Aj Ab (Ag mR (Ag mF Ac)) (Ah (Ql4 L3) (UV.nil _))) (GG.cons LG (GG.nil _)) UI (UZ Tryz.func178) Tryz.func178 (GF Tryz.f178) (λj cj _ sp hsp=>by simp at hsp)
end
theorem VJ{p:Prop}(h:p:=by
 refine ⟨rfl,Ap _,λk hk=>⟨?_,Zt6 (seS s (UK (V 0)) (UK (V 1))) k⟩⟩
 dsimp only
 by_cases h:k=laB s;rw [show decide (k=((s.nb:Int)-1).toNat)=true from decide_eq_true h];refine ⟨(B6 _).2,(B6 _).2,⟨rfl,(Jh8 h).symm,λj hj=>?_⟩,trivial⟩;show _=[i (seR s (UK (V 0)) k j),i (seV s (UK (V 1)) k j)];rw [Jh6 h,Jh4 h];rfl;rw [show decide (k=((s.nb:Int)-1).toNat)=false from decide_eq_false h];refine ⟨(B6 _).2,(B6 _).2,⟨rfl,(Jh9 h).symm,λj hj=>?_⟩,trivial⟩;show _=[i (seR s (UK (V 0)) k j),i (seV s (UK (V 1)) k j)];rw [Jh7 h,Jh5 h];rfl):p:=h
theorem Zs8(V:Cf)(n:Nat)(str:ByteArray)(s:HS)(UB:uY str n (UQ (GB 4) V))(UY:bV s.nb s.ql s.qh s.qm s.qr s.qv):xK U8 106 [.ptr 0 0,.x (.string str)] (XB s) 901 [[.ptr 0 0,.row 1,.row 2]] 211 (OS (seS s (UK (V 0)) (UK (V 1)))) (OX s) (rsE (fmE (UQ (GB 4) V) n 2 (seE s (UK (V 0)) (UK (V 1))))):=by
 refine P8 (PX:=[(145,RZ),(146,kI),(178,(Xf7 s (UK (V 0)) (UK (V 1)) (n-1) (λk=>UK (UQ (GB 4) V (k+1)))))]) (L:=[uG (UQ (GB 4) V) n 2 178 s]) (Ae (P1 UB) (Ae xI Aa)) Ad (GG.cons LG (GG.cons xR (GG.cons (Wt6 s (UK (V 0)) (UK (V 1)) (n-1) (λk=>UK (UQ (GB 4) V (k+1)))) (GG.nil _)))) UI (UZ Tryz.func106) Tryz.func106 (GF Tryz.f106) (P5 (lpE (b:= .loop OJ) UD<|dL (UQ (GB 4) V) n 2 178 s UB.2.2.2 (BY UB))) (N:=[(.cell 0 3,0,0,0)]) (t:=let z5:=(UK (UQ (GB 4) V (1+(0:Int).toNat)));let z6:=(UK (UQ (GB 4) V (1+(1:Int).toNat)));let z0:=([hR s.nr s,iI s.pl,iI s.ph,lst 3 (0+s.nb) λk=>iI (if decide (k=((↑s.nb:Int)-1).toNat)=true then s.ql (k-0) else s.ql (k-0))::iI (if decide (k=((↑s.nb:Int)-1).toNat)=true then s.qh (k-0) else s.qh (k-0))::Bool.rec (bts (s.qm (k-0)) (s.qr (k-0)) (s.qv (k-0))) (lst 2 (s.qm (laB s)+1) λk=>[i (D2 (s.qm (laB s)) (s.qr (laB s)) z5 k),i (D2 (s.qm (laB s)) (s.qv (laB s)) z6 k)]) (decide (k=((↑s.nb:Int)-1).toNat))::Bool.rec ([]) ([]) (decide (k=((↑s.nb:Int)-1).toNat)),hC s.nc s,hT s.ns s]);let z1:=(seS s (UK (V 0)) (UK (V 1)));let z2:=(UQ (GB 4) V (0:Int).toNat);let z3:=((↑s.nb:Int)-1).toNat;let z4:=(need [[Q5]=[Q5],HW (hL s) QW,QB s,QC s] (leaf (false,(4:Int))));(need [OA str str {data:=#[32] }] (need [G7 0 n] (branch (wdO z2) (need [U5 (wdM (wdK z2)+1)] (branch (!(n:Int)==wdM (wdK z2)+1) z4 (need [(0:Int)<=1/\(1:Int)<=(n:Int)/\(n:Int)<=(n:Int)] (need [QO,UJ (lst 1 n λk=>[HP (UQ (GB 4) V k)]),ZT,W0,(lst 1 (n-(1:Int).toNat) λi=>[AV.x (.string (UQ (GB 4) V ((1:Int).toNat+i)))])=lst 1 (n-1) λj=>[HP (UQ (GB 4) V (1+j))],(↑(n-(1:Int).toNat):Int)=(↑(n-1):Int),(0:Int)=((0:Nat):Int),0=0,∀(i:Nat),i<0->[]=[iI (UK (UQ (GB 4) V (1+i)))],wdM (wdK z2)=2,UJ (AV.fn (Fn.func 178) [] []),XK s,JZ s,K1 s,XZ s,XR s,XS s,KV s,∀(i:Nat),i<s.xn->s.xg i=s.xg i,KW s,∀(i:Nat),i<s.yn->s.yg i=s.yg i,QO,K8,K9] (branch (nuB (UQ (GB 4) V) n) (need [U5 ((↑s.nb:Int)-1)] (branch (!decide ((↑s.nb:Int)-1>=(0:Int))) (need [[Q5]=[Q5],HW (hL s) QW,QB s,QC s] (leaf (false,(8:Int)))) (need [G7 0 (↑(n-1):Int)] (need [(0:Int).toNat<n-1] (need [U5 (((3:Nat):Int)-1)] (branch (!bt (0:Int) (UK (UQ (GB 4) V 1)) (((3:Nat):Int)-1)) (need [[Q5]=[Q5],HW (hL s) QW,QB s,QC s] (leaf (false,(7:Int)))) (need [G7 ((↑s.nb:Int)-1) s.nb] (need [s.qm (laB s)<=100000,1<=n-1,[lst 2 (s.qm z3) λj=>[iI (s.qr z3 j),iI (s.qv z3 j)],AV.fn (Fn.func 208) [] [AV.ro [lst 1 (n-1) λj=>[iI (UK (UQ (GB 4) V (1+j)))]]]]=[lst 2 (s.qm (laB s)) λk=>[iI (s.qr (laB s) k),iI (s.qv (laB s) k)],AV.fn (Fn.func 208) [] [AV.ro [lst 1 (n-1) λk=>[iI (UK (UQ (GB 4) V (k+1)))]]]]] (branch (!seN (s.qm (laB s)) (s.qr (laB s)) (UK (UQ (GB 4) V 1))) (need [[Q5]=[Q5],HW (hL s) QW,QB s,QC s] (leaf (false,(6:Int)))) (need [G7 1 (↑(n-1):Int)] (need [(1:Int).toNat<n-1] (branch (!bt (-1000:Int) (UK (UQ (GB 4) V 2)) (2000:Int)) (need [[Q5]=[Q5],HW (hL s) QW,QB s,QC s] (leaf (false,(2:Int)))) (U6.may (s.nb=0) U6.fail (need [(0+s.nb)*40<=140737488355328,∀(i:Nat),i<s.nb-> ∀(a:AV),a∈[iI (s.ql i),iI (s.qh i),bts (s.qm i) (s.qr i) (s.qv i)]->AV.one a=true] (need [G7 ((↑s.nb:Int)-1) (↑(0+s.nb):Int)] (need [((↑s.nb:Int)-1).toNat<0+s.nb] (need [G7 0 (↑(n-1):Int)] (need [(0:Int).toNat<n-1] (need [G7 1 (↑(n-1):Int)] (need [(1:Int).toNat<n-1] (need [(lst 2 (s.qm (((↑s.nb:Int)-1).toNat-0)) λj=>[iI (s.qr (((↑s.nb:Int)-1).toNat-0) j),iI (s.qv (((↑s.nb:Int)-1).toNat-0) j)])=lst 2 (s.qm (laB s)) λk=>[iI (s.qr (laB s) k),iI (s.qv (laB s) k)],s.qm (laB s)<=100000] (need [G7 ((↑s.nb:Int)-1) (↑(0+s.nb):Int)] (need [((↑s.nb:Int)-1).toNat<0+s.nb] (need [bV s.nb (s.ql) (s.qh) (seM s) (seR s (UK (V 0))) (seV s (UK (V 1))),HW [Y7,iI 1,lst 3 (0+s.nb) λk=>iI (if decide (k=((↑s.nb:Int)-1).toNat)=true then s.ql (k-0) else s.ql (k-0))::iI (if decide (k=((↑s.nb:Int)-1).toNat)=true then s.qh (k-0) else s.qh (k-0))::Bool.rec (bts (s.qm (k-0)) (s.qr (k-0)) (s.qv (k-0))) (lst 2 (s.qm (laB s)+1) λk=>[i (D2 (s.qm (laB s)) (s.qr (laB s)) z5 k),i (D2 (s.qm (laB s)) (s.qv (laB s)) z6 k)]) (decide (k=((↑s.nb:Int)-1).toNat))::Bool.rec ([]) ([]) (decide (k=((↑s.nb:Int)-1).toNat))] [lst 2 3 λk=>[iI (oL k),iI (oH k)],iI 1,lst 3 s.nb λk=>[iI (s.ql k),iI (s.qh k),lst 2 (seM s k) λj=>[iI (seR s (UK (V 0)) k j),iI (seV s (UK (V 1)) k j)]]]] (branch (!boE s.nb (s.ql) (s.qh) (seM s) (seR s (UK (V 0))) (seV s (UK (V 1)))==0) (need [[Q5]=[Q5],HW z0 QW,QB s,QC s] (leaf (false,(9:Int)))) (need [[Q5]=[Q5],HW z0 (hL z1),((23:TypeId),1,s.xn,s.xg)=((23:TypeId),1,z1.xn,z1.xg),((9:TypeId),1,s.yn,s.yg)=((9:TypeId),1,z1.yn,z1.yg)] (leaf (true,(0:Int))))))))))))))))))))))))))))) (need [[Q5]=[Q5],HW QW QW,QB s,QC s] (leaf (false,(4:Int))))))))) z4)))) UD ?_
 have hw:wdO (UQ (GB 4) V (Int.toNat 0))=true:=UD;have hm:wdM (wdK (UQ (GB 4) V (Int.toNat 0)))=2:=UD;have hn1:1<=n:=by have:=UB.2.1;omega
 have hnl:=BY UB;simp only [U6.sat,UU,G4,hm,hw,true_imp_iff];refine ⟨⟨rfl,rfl⟩,⟨U3,U3⟩,⟨by simp only [U5];omega,λh4=>?_,λh4=>?_⟩,λh=>by cases h⟩
 exact VN
 ·have hN:n=2+1:=by
   simp at h4;omega
  refine ⟨⟨U3,U3,U3⟩,?_,λh5=>?_,λh5=>?_⟩
  rotate_left 2
  exact VO
  ·all_goals exact vV
  have hk1:n-1=2:=U3;have hx0:UK (UQ (GB 4) V 1)=UK (V 0):=rfl;have hx1:UK (UQ (GB 4) V 2)=UK (V 1):=rfl;have hq:s.nb<=6:=UY.1.1;rw [hk1];refine ⟨by simp only [U5];omega,λh6=>⟨FB _ _ _ _ _ _,FX hN h5 (Ji1 h6) (by decide)⟩,λh6=>?_⟩
  have h6:1<=s.nb:=by simp at h6;omega
  have hla:laB s<s.nb:=by unfold laB;omega
  have hm10:=(UY.1.2 _ hla).1;refine ⟨U3,by decide,by simp only [U5];omega,λh7=>⟨FB _ _ _ _ _ _,FX hN h5 (Ji2 h6 (bnt h7)) (by decide)⟩,λh7=>?_⟩
  have h7:bt 0 (UK (V 0)) 2=true:=bnf h7;refine ⟨U3,⟨U3,U3,by simp only [Bh 1];rfl⟩,λh8=>⟨FB _ _ _ _ _ _,FX hN h5 (Ji3 h6 h7 (bnt h8)) (by decide)⟩,λh8=>?_⟩
  have h8:seN (s.qm (laB s)) (s.qr (laB s)) (UK (V 0))=true:=bnf h8;refine ⟨U3,by decide,λh9=>⟨FB _ _ _ _ _ _,FX hN h5 (Ji4 h6 h7 h8 (bnt h9)) (by decide)⟩,λh9=>?_⟩
  have h9:bt (-1000) (UK (V 1)) 2000=true:=bnf h9;refine ⟨λh=>U3,⟨U3,λk hk a ha=>?_⟩,U3,U3,U3,by decide,U3,by decide,⟨rfl,U3⟩,U3,U3,⟨Ji6 UY h6 h7 h8 h9,?_⟩,λh=>⟨FB _ _ _ _ _ _,FX hN h5 (Ji0 h6 h7 h8 h9 h) (by decide)⟩,λh=>⟨⟨⟨qA s,jL _,jL _,?_,qB s,B8 s,trivial⟩,rfl,rfl⟩,hO hN h5 (Ji5 h6 h7 h8 h9 h)⟩⟩
  simp only [HA,F8,or_false] at ha;rcases ha with rfl|rfl|rfl<;>simp [AV.one,Value.oneCell'];refine ⟨⟨rfl,rfl,λk hk=>⟨?_,?_⟩⟩,jL _,?_,trivial⟩;rcases (show k=0\/k=1\/k=2 by omega) with rfl|rfl|rfl<;>exact ⟨(B6 _).2,(B6 _).2,trivial⟩
  intro x hx;simp only [HA,F8,or_false] at hx;rcases hx with rfl|rfl<;>exact .x _;exact VJ;exact VJ
open Go Go.Shelf
def lT:Go.Shelf.Ren:=⟨λ| 4=>234|n=>n,λ| 22=>36| 25=>145|n=>n,λn=>n⟩
theorem Qi1:Go.Proofs.Lays8.n4 Tryz.prog lT:=by
 constructor
 case f4=>exact ⟨Tryz.f234.name,(of_decide_eq_true (by kernel_rfl)),Tryz.func234.trans (congrArg some (by kernel_rfl))⟩
 all_goals first|(intro _;kernel_rfl)|kernel_rfl
theorem Zt4: ∃i0 z,Tryz.prog.info? 145=some i0/\i0.zero=some z/\i0.size=4/\i0.bytes=32/\z.cells.size=4:=by
 have h:((Tryz.prog.info? 145).bind λi=>i.zero.map λz=>(i.size,i.bytes,z.cells.size))=some (4,32,4):=UD;cases O:Tryz.prog.info? 145 with
 |none=>rw [O] at h;cases h
 |some i0=>
  rw [O] at h;cases hz:i0.zero with
  |none=>
   have h:(i0.zero.map λz=>(i0.size,i0.bytes,z.cells.size))=some (4,32,4):=h;rw [hz] at h;cases h
  |some z=>
   have h:(i0.zero.map λz=>(i0.size,i0.bytes,z.cells.size))=some (4,32,4):=h;rw [hz] at h;simp only [Bt,D0,RA] at h;exact ⟨i0,z,rfl,hz,h.1,h.2.1,h.2.2⟩
theorem Qa3(k:Nat)(hk:k<=100000)(w:World):Calls Tryz.prog 234 #[.slice none 0 0,.int .i64 k] w λen w'=> ∃v,en= .returned v/\Below w.heap.size w w'/\w'.ownsRow 0 145 4 v 0 []/\ ∀b,v.ownBlock=some b->w.heap.size<=b/\b<w'.heap.size:=by
 rcases Nat.eq_zero_or_pos k with rfl|h0;refine Calls.mono (Any8.slices_Grow_room Qi1 none 0 0 0 w U3 U3 U3 U3) ?_;rintro en w' ⟨rfl,rfl⟩;exact ⟨_,rfl,Below.refl _ _,⟨rfl,.inl ⟨rfl,rfl⟩⟩,λb h=>by cases h⟩
 obtain ⟨i0,z,e0,e1,e2,e3,e4⟩:=Zt4;refine Calls.mono (Any8.slices_Grow_grow Qi1 i0 z e0 e1 U3 none 0 0 k [] w U3 U3 (by rw [e3];omega) U3 UE (λ_=>rfl) (λa h=>by cases h)) ?_
 rintro en w' ⟨rfl,rfl⟩;have g1:k<=grownCap w (0+k) 0 145:=by have:=grownCap_ge w (0+k) 0 145;omega
 refine ⟨_,rfl,((Below.refl _ _).drew).alloc (Am _) _,⟨rfl,.inr ⟨w.heap.size,grownCap w (0+k) 0 145,#[]++Builtin.zeroCells z.cells (0+k-0)++Builtin.zeroCells z.cells (grownCap w (0+k) 0 145-(0+k)),rfl,Ao _,?_,Ao _,grownCap_le_maxLen w (0+k) 0 145 (by unfold maxLen;omega),?_,UE⟩⟩,?_⟩
 show (w.drew.heap.push _)[w.heap.size]? =_;exact Array.getElem?_push_size ..;rw [Ap] at g1 ⊢;simp [Builtin.zeroCells,e4];omega;intro b h;cases h;exact ⟨Am _,by show w.heap.size<(w.drew.heap.push _).size;rw [Array.size_push];exact Bk _⟩
def eA:qN:=λl=>match l with
 |[.x (.slice none 0 0),.x (.int .i64 k)]=>some ([0<=k/\k<=100000],145,4,0,λ_=>[])
 |_=>none
theorem Wx0:Sx.Enters Tryz.prog 234/\ ∀avs ns T sz n g,eA avs=some (ns,T,sz,n,g)->(∀q∈ns,q)->FC U8 234 avs T sz n g:=by
 refine ⟨(UZ Tryz.func234),?_⟩;intro avs ns T sz n g h I;unfold eA at h;split at h;rename_i k;cases h;obtain ⟨h1,h2⟩:0<=k/\k<=100000:=I _ H0;intro e w args q1 q2 q3 q4;obtain ⟨u,us,rfl,r1,q5⟩:=q4.cons_inv;obtain ⟨u',us',rfl,r2,q6⟩:=q5.cons_inv;obtain rfl:=q6.nil_inv;cases r1;cases r2;obtain ⟨k',rfl⟩:=Int.eq_ofNat_of_zero_le h1;refine (Qa3 k' U3 w).mono ?_;rintro en w' ⟨v,rfl,g1,g2,g3⟩;exact ⟨v,[],rfl,g1,g2,g3,λi O=>U3,λi j a u O=>U3⟩;cases h
theorem Ww9:GT U8 234 (Ww6 eA):=E8 Wx0
theorem pH{S:Code->G5->Prop}{c:Code}{s0 s1:G5}(h0: ∀cj,UC c 0=some cj->S cj s0)(h1: ∀cj,UC c 1=some cj->S cj s1):
  ∀j cj,UC c j=some cj-> ∀sp,[s0,s1][j]? =some sp->S cj sp:=by
 intro j cj hj sp hsp
 match j with
 | 0=>simp at hsp;subst hsp;exact h0 cj hj
 | 1=>simp at hsp;subst hsp;exact h1 cj hj
 |j+2=>simp at hsp
def ctI(p:Nat)(a b:Cg)(k:Nat):Int:=if k<p then a k else b (k-p)
def CO:GM
 |[.lst 1 n F]=>match F 0,F 1 with
  |[.lst 4 p f],[.lst 4 q g]=>some ([n=2,G0 4 p f,G0 4 q g,p<=10000,q<=10000],.lst 4 (p+q) (λk=>[i (ctI p (col 0 f) (col 0 g) k),i (ctI p (col 1 f) (col 1 g) k),i (ctI p (col 2 f) (col 2 g) k),i (ctI p (col 3 f) (col 3 g) k)]))
  |_,_=>none
 |_=>none
theorem Ww8(p:Nat)(a b u v:Cg)(q:Nat)(a1 b1 u1 v1:Cg)(UB:p<=10000)(UY:q<=10000):UH U8 205 [.lst 1 2 (UO 1 [rds p a b u v,rds q a1 b1 u1 v1])] (.lst 4 (p+q) (λk=>[i (ctI p a a1 k),i (ctI p b b1 k),i (ctI p u u1 k),i (ctI p v v1 k)])):=by
 refine GW (X:={R:=[],H:=[(234,(Ww6 eA))] }) (L:=[(λs=>some (j8 Tryz.prog [] [] (UT (UC (UP Tryz.f205) 0)) 3 s)),(λs=>some (j8 Tryz.prog [] [] (UT (UC (UP Tryz.f205) 1)) 3 s))]) Aa (Ai Ab (Ag Ww9 Ac)) UI Tryz.func205 (GF Tryz.f205) (pH (lpE (b:= .loop (UT (UC (UP Tryz.f205) 0))) UD<|(P0 Aa UI UN _).N) (lpE (b:= .loop (UT (UC (UP Tryz.f205) 1))) UD<|(P0 Aa UI UN _).N)) (t:=let z1:=(need [(0:Int)<=0+1+1/\(0:Int)+1+1<((2:Nat):Int)] U6.fail);let z2:=(GX 0 (λx=>[]) (rq4 a b u v));let z0:=(branch (decide ((0:Int)<((2:Nat):Int))) (need [G7 0 2] (need [(0+p)*32<=140737488355328,∀(i:Nat),i<p-> ∀(a_2:AV),a_2∈[Bo.i (a i),Bo.i (b i),Bo.i (u i),Bo.i (v i)]->AV.one a_2=true] (need [U5 ((0:Int)+1)] (branch (decide ((0:Int)+1<((2:Nat):Int))) (need [(0:Int)<=0+1/\(0:Int)+1<((2:Nat):Int)] (need [(0+p+q)*32<=140737488355328,∀(i:Nat),i<q-> ∀(a:AV),a∈[Bo.i (a1 i),Bo.i (b1 i),Bo.i (u1 i),Bo.i (v1 i)]->AV.one a=true] (need [U5 ((0:Int)+1+1)] (branch (decide ((0:Int)+1+1<((2:Nat):Int))) z1 (leaf (RV.lst 4 (0+p+q) (GX (0+p) z2 (rq4 a1 b1 u1 v1)))))))) (leaf (RV.lst 4 (0+p) z2)))))) (leaf (RV.lst 4 0 λx=>[])));(branch (decide ((0:Int)<((2:Nat):Int))) (need [G7 0 2] (need [U5 ((0:Int)+(p:Int))] (branch (decide ((0:Int)+(p:Int)<0)) U6.fail (need [U5 ((0:Int)+1)] (branch (decide ((0:Int)+1<((2:Nat):Int))) (need [(0:Int)<=0+1/\(0:Int)+1<((2:Nat):Int)] (need [U5 ((0:Int)+(p:Int)+(q:Int))] (branch (decide ((0:Int)+(p:Int)+(q:Int)<0)) U6.fail (need [U5 ((0:Int)+1+1)] (branch (decide ((0:Int)+1+1<((2:Nat):Int))) z1 (need [(0:Int)<=0+(p:Int)+(q:Int)/\(0:Int)+(p:Int)+(q:Int)<=100000] z0)))))) (need [(0:Int)<=0+(p:Int)/\(0:Int)+(p:Int)<=100000] z0)))))) (need [(0:Int)<=0/\(0:Int)<=100000] z0))) UD ?_
 have hX: ∀(k:Nat),k<p+q->GX (0+p) (GX 0 (λ_=>[]) λk=>[i (a k),i (b k),i (u k),i (v k)]) (λk=>[i (a1 k),i (b1 k),i (u1 k),i (v1 k)]) k=[i (ctI p a a1 k),i (ctI p b b1 k),i (ctI p u u1 k),i (ctI p v v1 k)]/\ ∀x∈[i (ctI p a a1 k),i (ctI p b b1 k),i (ctI p u u1 k),i (ctI p v v1 k)],isX x:=by
  intro k hk;refine ⟨?_,λx hx=>?_⟩;show HX (decide (k<0+p)) (GX 0 (λ_=>[]) (λk=>[i (a k),i (b k),i (u k),i (v k)]) k) [i (a1 (k-(0+p))),i (b1 (k-(0+p))),i (u1 (k-(0+p))),i (v1 (k-(0+p)))]=_
  rw [fH,Ap];unfold ctI;by_cases h:k<p;rw [decide_eq_true h];simp only [if_pos h];rfl;rw [decide_eq_false h];simp only [if_neg h];rfl;simp only [HA,F8,or_false] at hx;rcases hx with rfl|rfl|rfl|rfl<;>exact Ak
 have hA: ∀(a b u v:Cg) (n k:Nat),k<n-> ∀(x:AV),x∈[i (a k),i (b k),i (u k),i (v k)]->x.one=true:=by
  intro a b u v n k hk x hx;simp only [HA,F8,or_false] at hx;rcases hx with rfl|rfl|rfl|rfl<;>simp [AV.one,Value.oneCell']
 simp only [U6.sat,UU,GS,H6,UX,true_and,HU,U5]
 (repeat' first|exact hA _ _ _ _ _|exact hX|with_reducible apply Al|with_reducible intro _)
 all_goals omega
theorem Ww7:UA U8 205 CO:=by
 refine ⟨(UZ Tryz.func205),?_⟩;intro avs ns res h I;unfold CO at h;split at h;rename_i n F;split at h;rename_i p f q g h0 h1;cases h;obtain rfl:n=2:=I _ UE;have r0:G0 4 p f:=I (G0 4 p f) UE;have r1:G0 4 q g:=I (G0 4 q g) UE;have hp:p<=10000:=I (p<=10000) UE;have hq:q<=10000:=I (q<=10000) UE;refine (Ww8 p (col 0 f) (col 1 f) (col 2 f) (col 3 f) q (col 0 g) (col 1 g) (col 2 g) (col 3 g) hp hq).same (.cons (.deep 1 2 F _ (λk hk=>?_) (λk j a b hk ha hb=>?_)) .nil);rcases (show k=0\/k=1 by omega) with rfl|rfl
 rw [h0];rfl;rw [h1];rfl;rcases (show k=0\/k=1 by omega) with rfl|rfl
 rw [h0] at ha;have hb:[rds p (col 0 f) (col 1 f) (col 2 f) (col 3 f)][j]? =some b:=hb;cases j with
 |zero=>
  cases ha;cases hb;exact .lst 4 p f _ r0
 |succ j=>simp at ha
 rw [h1] at ha;have hb:[rds q (col 0 g) (col 1 g) (col 2 g) (col 3 g)][j]? =some b:=hb;cases j with
 |zero=>
  cases ha;cases hb;exact .lst 4 q g _ r1
 |succ j=>simp at ha
 cases h;cases h
def skF(x0:Int)(a:Cg)(k:Nat):Int:=if k<x0.toNat then a k else a (k+1)
def stS(s:HS)(x0:Int):HS:={s with nr:=s.nr-1,ra:=skF x0 s.ra,rb:=skF x0 s.rb,ru:=skF x0 s.ru,rv:=skF x0 s.rv}
def stE(s:HS)(x0:Int):Int:=if bt 0 x0 ((s.nr:Int)-1)=true then 0 else 7
theorem aG{x:Int}(h:0<=x)(a:Cg)(k:Nat):ctI (x.toNat-Int.toNat 0) (λi=>a (Int.toNat 0+i)) (λi=>a ((x+1).toNat+i)) k=skF x a k:=by
 unfold ctI skF;by_cases h':k<x.toNat;rw [if_pos (show k<x.toNat-Int.toNat 0 by simpa using h'),if_pos h']
 exact congrArg a UE;rw [if_neg (show ¬k<x.toNat-Int.toNat 0 by simpa using h'),if_neg h']
 exact congrArg a (by simp;omega)
noncomputable abbrev TW(s:HS):FO:=C5 Tryz.prog [(205,CO),(36,LE)] {} [(145,RZ)] [] Tryz.f175 (UP Tryz.f175)
theorem mD(s:HS):DW U8 175 (TW s):=
 RM (G:=[(205,CO),(36,LE)]) (X:=WI) (PX:=[(145,RZ)]) (L:=[]) (Ae Ww7 (Ae BR Aa)) Ad (GG.cons LG (GG.nil _)) UI (UZ Tryz.func175) Tryz.func175 (GF Tryz.f175) (λj cj _ sp hsp=>by simp at hsp)
theorem Qu7(V:Cf)(n:Nat)(str:ByteArray)(s:HS)(UB:uY str n (UQ (GB 1) V))(UY:s.nr<=12):xK U8 106 [.ptr 0 0,.x (.string str)] (XB s) 901 [[.ptr 0 0,.row 1,.row 2]] 211 (OS (stS s (UK (V 0)))) (OX s) (rsE (fmE (UQ (GB 1) V) n 1 (stE s (UK (V 0))))):=by
 refine P8 (PX:=[(145,RZ),(146,kI),(175,(TW s))]) (L:=[uG (UQ (GB 1) V) n 1 175 s]) (Ae (P1 UB) (Ae xI Aa)) Ad (GG.cons LG (GG.cons xR (GG.cons (mD s) (GG.nil _)))) UI (UZ Tryz.func106) Tryz.func106 (GF Tryz.f106) (P5 (lpE (b:= .loop OJ) UD<|dL (UQ (GB 1) V) n 1 175 s UB.2.2.2 (BY UB))) (N:=[]) (t:=let z0:=(UK (UQ (GB 1) V 1));let z1:=(UQ (GB 1) V (0:Int).toNat);let z2:=(need [[Q5]=[Q5],HW (hL s) QW,QB s,QC s] (leaf (false,(4:Int))));(need [OA str str {data:=#[32] }] (need [G7 0 n] (branch (wdO z1) (need [U5 (wdM (wdK z1)+1)] (branch (!(n:Int)==wdM (wdK z1)+1) z2 (need [(0:Int)<=1/\(1:Int)<=(n:Int)/\(n:Int)<=(n:Int)] (need [QO,UJ (lst 1 n λk=>[HP (UQ (GB 1) V k)]),ZT,W0,(lst 1 (n-(1:Int).toNat) λi=>[AV.x (.string (UQ (GB 1) V ((1:Int).toNat+i)))])=lst 1 (n-1) λj=>[HP (UQ (GB 1) V (1+j))],(↑(n-(1:Int).toNat):Int)=(↑(n-1):Int),(0:Int)=((0:Nat):Int),0=0,∀(i:Nat),i<0->[]=[iI (UK (UQ (GB 1) V (1+i)))],wdM (wdK z1)=1,UJ (AV.fn (Fn.func 175) [] []),XK s,JZ s,K1 s,XZ s,XR s,XS s,KV s,∀(i:Nat),i<s.xn->s.xg i=s.xg i,KW s,∀(i:Nat),i<s.yn->s.yg i=s.yg i,QO,K8,K9] (branch (nuB (UQ (GB 1) V) n) (need [G7 0 (↑(n-1):Int)] (need [(0:Int).toNat<n-1] (need [U5 ((↑s.nr:Int)-1)] (branch (!bt (0:Int) z0 ((↑s.nr:Int)-1)) (need [[Q5]=[Q5],HW (hL s) QW,QB s,QC s] (leaf (false,(7:Int)))) (need [G7 0 (↑(n-1):Int)] (need [(0:Int).toNat<n-1] (need [(0:Int)<=0/\(0:Int)<=UK (UQ (GB 1) V 1)/\UK (UQ (GB 1) V 1)<=(↑s.nr:Int)] (need [G7 0 (↑(n-1):Int)] (need [(0:Int).toNat<n-1] (need [U5 (UK (UQ (GB 1) V 1)+1)] (need [(0:Int)<=UK (UQ (GB 1) V 1)+1/\UK (UQ (GB 1) V 1)+1<=(↑s.nr:Int)/\(↑s.nr:Int)<=(↑s.nr:Int)] (need [2=2,G0 4 (Int.toNat z0-(0:Int).toNat) λi=>[Bo.i (s.ra ((0:Int).toNat+i)),Bo.i (s.rb ((0:Int).toNat+i)),Bo.i (s.ru ((0:Int).toNat+i)),Bo.i (s.rv ((0:Int).toNat+i))],G0 4 (s.nr-(UK (UQ (GB 1) V 1)+1).toNat) λi=>[Bo.i (s.ra ((UK (UQ (GB 1) V 1)+1).toNat+i)),Bo.i (s.rb ((UK (UQ (GB 1) V 1)+1).toNat+i)),Bo.i (s.ru ((UK (UQ (GB 1) V 1)+1).toNat+i)),Bo.i (s.rv ((UK (UQ (GB 1) V 1)+1).toNat+i))],Int.toNat z0-(0:Int).toNat<=10000,s.nr-(UK (UQ (GB 1) V 1)+1).toNat<=10000] (need [[Q5]=[Q5],HW [lst 4 (Int.toNat z0-(0:Int).toNat+(s.nr-(UK (UQ (GB 1) V 1)+1).toNat)) λk=>[iI (ctI (Int.toNat z0-(0:Int).toNat) (λi=>s.ra ((0:Int).toNat+i)) (λi=>s.ra ((UK (UQ (GB 1) V 1)+1).toNat+i)) k),iI (ctI (Int.toNat z0-(0:Int).toNat) (λi=>s.rb ((0:Int).toNat+i)) (λi=>s.rb ((UK (UQ (GB 1) V 1)+1).toNat+i)) k),iI (ctI (Int.toNat z0-(0:Int).toNat) (λi=>s.ru ((0:Int).toNat+i)) (λi=>s.ru ((UK (UQ (GB 1) V 1)+1).toNat+i)) k),iI (ctI (Int.toNat z0-(0:Int).toNat) (λi=>s.rv ((0:Int).toNat+i)) (λi=>s.rv ((UK (UQ (GB 1) V 1)+1).toNat+i)) k)],iI s.pl,iI s.ph,hY s.nb s,hC s.nc s,hT s.ns s] (hL (stS s (UK (V 0)))),((23:TypeId),1,s.xn,s.xg)=((23:TypeId),1,(stS s (UK (V 0))).xn,(stS s (UK (V 0))).xg),((9:TypeId),1,s.yn,s.yg)=((9:TypeId),1,(stS s (UK (V 0))).yn,(stS s (UK (V 0))).yg)] (leaf (true,(0:Int)))))))))))))))) (need [[Q5]=[Q5],HW QW QW,QB s,QC s] (leaf (false,(4:Int))))))))) z2)))) UD ?_
 have hw:wdO (UQ (GB 1) V (Int.toNat 0))=true:=UD;have hm:wdM (wdK (UQ (GB 1) V (Int.toNat 0)))=1:=UD;have hn1:1<=n:=by have:=UB.2.1;omega
 have hnl:=BY UB;simp only [U6.sat,UU,G4,hm,hw,true_imp_iff];refine ⟨⟨rfl,rfl⟩,⟨U3,U3⟩,⟨by simp only [U5];omega,λh4=>?_,λh4=>?_⟩,λh=>by cases h⟩
 exact VN
 ·have hN:n=1+1:=by
   simp at h4;omega
  refine ⟨⟨U3,U3,U3⟩,?_,λh5=>?_,λh5=>?_⟩
  rotate_left 2
  exact VO
  ·all_goals exact vV
  have hk1:n-1=1:=U3;have hx0:UK (UQ (GB 1) V 1)=UK (V 0):=rfl;rw [hk1];simp only [hx0];refine ⟨U3,by decide,by simp only [U5];omega,λh6=>⟨FB _ _ _ _ _ _,FX hN h5 ?_ (by decide)⟩,λh6=>?_⟩
  unfold stE;rw [bnt h6];rfl;have h7:=bnf h6;have h8:=(bt_iff _ _ _).1 h7;refine ⟨U3,by decide,U3,U3,by decide,by simp only [U5];omega,U3,⟨Bo.isRec4 _ _ _ _ _,Bo.isRec4 _ _ _ _ _,U3,U3⟩,⟨⟨⟨rfl,?_,λk hk=>⟨?_,?_⟩⟩,jL _,jL _,qC s,qB s,B8 s,trivial⟩,rfl,rfl⟩,hO hN h5 ?_⟩
  show _=s.nr-1;have e0:Int.toNat 0=0:=rfl;omega
  dsimp only
  rw [aG h8.1 s.ra k,aG h8.1 s.rb k,aG h8.1 s.ru k,aG h8.1 s.rv k];exact ⟨(B6 _).2,(B6 _).2,(B6 _).2,(B6 _).2,trivial⟩;intro x hx;simp only [HA,F8,or_false] at hx;rcases hx with rfl|rfl|rfl|rfl<;>exact .x _;unfold stE;rw [h7];rfl
def Qo7:GM
 |[]=>some ([],.mpr (λ_=>[.any1,.any1]) wdO)
 |_=>none
theorem Xd3:UH U8 144 [] (.mpr (λ_=>[.any1,.any1]) wdO):=by
 intro e w args hro hgl RL hr;obtain rfl:=hr.nil_inv;refine (NB w).mono ?_;rintro en w' ⟨rfl,rfl⟩;have hsz:(w.alloc (.map wdE.toArray 8)).heap.size=w.heap.size+1:=UE;refine ⟨_,rfl,(Below.refl _ _).alloc (Am _) _,?_⟩;refine .mpr _ wdO wdV w.heap.size wdE.toArray 8 (show w.heap.size<=w.heap.size/\w.heap.size<(w.alloc (.map wdE.toArray 8)).heap.size by omega) U3 (λs a ha=>?_) (World.alloc_heap_new w _) (λs hs=>by simpa using nC hs) (λs hs=>⟨by simpa using Qk1 hs,λa ha=>?_⟩) (λs hs=>rfl) (λs k a v hs ha A=>?_)
 simp only [HA,F8,or_false,or_self] at ha;subst ha;exact .any1;exact .inr (by simpa using ha)
 match k,ha,A with
 | 0,ha,A=>
  simp only [wdV,List.getElem?_cons_zero,D0] at ha A;subst ha A;exact .any1 _ rfl
 | 1,ha,A=>
  simp only [wdV,List.getElem?_cons_succ,List.getElem?_cons_zero,D0] at ha A;subst ha A;exact .any1 _ rfl
 |k+2,ha,A=>simp at ha
theorem Xd2:UA U8 144 Qo7:=by
 refine ⟨(UZ Tryz.func144),?_⟩;intro avs ns res h I;unfold Qo7 at h;split at h;cases h;exact Xd3;cases h
theorem Jm1(W:Cf)(n:Nat)(str:ByteArray)(s:HS)(UB:uY str n W)(UY:wdO (W 0)=false):xK U8 106 [.ptr 0 0,.x (.string str)] (XB s) 901 [[.ptr 0 0,.row 1,.row 2]] 211 (OS s) (OX s) (rsE 4):=by
 refine P8 (PX:=[(145,RZ),(146,kI)]) (L:=[uG W n 0 0 s]) (Ae (P1 UB) (Ae Xd2 Aa)) Ad (GG.cons LG (GG.cons xR (GG.nil _))) UI (UZ Tryz.func106) Tryz.func106 (GF Tryz.f106) (P5 (lpE (b:= .loop OJ) UD<|dL W n 0 0 s UB.2.2.2 (BY UB))) (N:=[]) (t:=need [OA str str {data:=#[32] }] (need [G7 0 n] (branch (wdO (W (0:Int).toNat)) U6.fail (need [[Q5]=[Q5],HW (hL s) QW,QB s,QC s] (leaf (false,(4:Int))))))) UD ?_
 have hn1:1<=n:=by have:=UB.2.1;omega
 have h0:wdO (W (Int.toNat 0))=false:=UY;simp only [U6.sat,UU,G4,h0];exact ⟨⟨rfl,rfl⟩,⟨U3,U3⟩,(λh=>by cases h),λ_=>⟨FB _ _ _ _ _ _,rfl⟩⟩
abbrev lns(n:Nat)(L:Cf):AV:= .lst 1 n (λk=>[.x (.string (L k))])
def lgB(L:Cf)(mx:Int)(j:Nat):Bool:= !decide (((L j).size:Int)<=mx)
section
variable (n:Nat)(L:Cf)
def shB(mx:Int):Bool:=F1 (λj=>decide (((L j).size:Int)<=mx)) n
def ckE:Int:=if n<=50/\shB n L 200=true then 0 else 3
end
def oA:GM
 |[.x (.int .i64 mx),.x (.string s)]=>some ([],bl (decide ((s.size:Int)<=mx)))
 |_=>none
theorem Qw1(s:ByteArray)(mx:Int):UH U8 65 [i mx,.x (.string s)] (bl (decide ((s.size:Int)<=mx))):=by
 refine HL Tryz.func65 (t:=leaf (RV.x (.bool (decide ((ByteArray.size s:Int)<=mx))))) UD ?_;exact VG
theorem Qw0:UA U8 65 oA:=by
 refine ⟨(UZ Tryz.func65),?_⟩;intro avs ns res h I;unfold oA at h;split at h;cases h;exact Qw1 _ _;cases h
def oC:GM
 |[.x (.string s),.ro [.fn (.func 65) [.x (.int .i64 mx)] []]]=>some ([],bl (!decide ((s.size:Int)<=mx)))
 |_=>none
theorem Qx5(s:ByteArray)(mx:Int):UH U8 110 [.x (.string s),.ro [.fn (.func 65) [i mx] []]] (bl (!decide ((s.size:Int)<=mx))):=by
 refine UL (L:=[]) (Ae Qw0 Aa) UI Tryz.func110 (GF Tryz.f110) UN (t:=leaf (RV.x (.bool !decide ((ByteArray.size s:Int)<=mx)))) UD ?_;exact VG
theorem SW:UA U8 110 oC:=by
 refine ⟨(UZ Tryz.func110),?_⟩;intro avs ns res h I;unfold oC at h;split at h;cases h;exact Qx5 _ _;cases h
abbrev Q8(n:Nat)(L:Cf):AV:=lst 1 n λk=>[HP (L k)]
abbrev WQ(mx:Int):AV:=AV.fn (Fn.func 110) [] [AV.ro [AV.fn (Fn.func 65) [iI mx] []]]
section
variable (n:Nat)(L:Cf)(mx:Int)
def fN:St:={σ:=[Q8 n L,WQ mx]++D6 5 [iI (n:Int)]++D6 11 [],m:=[],nx:=4}
noncomputable def Qr0:Code:=UT (UC (UP Tryz.f148) 0)
def SJ(k:Nat):St:=(upM [(8,i k)] (fN n L mx))
def w9(k:Nat):GR->Option St
 | .ret=>some (upM [(4,i (HJ ((lgB L mx)) n))] (fN n L mx))
 | .exit 0=>some (upM [] (fN n L mx))
 |_=>none
def Qm3:CT:= .branch (decide (HJ ((lgB L mx)) n<n)) (.leaf (.ret,(w9 n L mx 0 .ret).getD (fN n L mx))) (.leaf (.exit 0,(w9 n L mx 0 (.exit 0)).getD (fN n L mx)))
def oO:G5:=(D1 (SJ n L mx (0)) (Qm3 n L mx))
theorem Wb7(UB:n<=100000):GU U8 (.loop Qr0) (oO n L mx):=by
 refine D4 (L:=[]) (Ae SW Aa) UI UN (X:=Nat) (SJ n L mx) (λk=>k<=n/\ ∀j,j<k->(lgB L mx) j=false) (λk=>n-k) (w9 n L mx) (x0:=0) ⟨U3,λj hj=>U3⟩ ?_ ?_ ?_;rintro k;kernel_rfl;rintro k y E h;unfold w9 at h;split at h;cases h;kernel_rfl;cases h;kernel_rfl;cases h
 ·rintro Q hQ k hx;refine ⟨(k+1),?_⟩;(with_reducible refine F4 (t:=branch (decide ((k:Int)<(n:Int))) (need [G7 k n] (branch (!decide ((↑(ByteArray.size (L k)):Int)<=mx)) (need [UJ (Q8 n L),WQ mx=WQ mx,(k:Int)=(↑(HJ (lgB L mx) n):Int),UJ (n:Int)] (leaf GR.ret)) (need [U5 ((k:Int)+1)] (need [UJ (Q8 n L),WQ mx=WQ mx,UJ (n:Int),(k:Int)+1=(↑(k+1):Int)] (leaf GR.normal))))) (need [UJ (Q8 n L),WQ mx=WQ mx,UJ (n:Int)] (leaf (GR.exit 0)))) UD ?_);simp only [Qm3,w9,U6.sat,HF,HU] at hQ;simp only [U6.sat,UU,G4,HU,U5,w9,FA];have Xq6:k<n->((lgB L mx)) k=true->HJ ((lgB L mx)) n=k:=λh hb=>jT h hb hx.2;have B0: ¬k<n->HJ ((lgB L mx)) n=n:=λh=>wA (λj hj=>hx.2 j U3);have hgo:((lgB L mx)) k=false-> ∀j,j<k+1->((lgB L mx)) j=false:=by
   intro hb j hj;rcases (show j<k\/j=k by omega) with h1|rfl
   exact hx.2 j h1;exact hb
  refine ⟨λh=>⟨U3,?_⟩,λh=>?_⟩
  rotate_left
  intro E hE;cases hE;exact hQ.2 (by rw [B0 U3];omega)
  have hk:k<n:=U3;refine ⟨λhb=>?_,λhb=>?_⟩;exact VW;exact ⟨U3,U3,⟨U3,hgo hb⟩,U3⟩
theorem Xp6(UB:n<=100000):UH U8 148 [lns n L,.fn (.func 110) [] [.ro [.fn (.func 65) [i mx] []]]] (i (if HJ ((lgB L mx)) n<n then (HJ ((lgB L mx)) n:Int) else -1)):=by
 refine UL (L:=[oO n L mx]) (Ae SW Aa) UI Tryz.func148 (GF Tryz.f148) (GJ (lpE (b:= .loop Qr0) UD<|Wb7 n L mx UB)) (t:=need [UJ (Q8 n L),WQ mx=WQ mx,UJ (n:Int),(0:Int)=((0:Nat):Int)] (branch (decide (HJ (lgB L mx) n<n)) (leaf (RV.x (.int .i64 (↑(HJ (lgB L mx) n):Int)))) (leaf (RV.x (KR))))) UD ?_
 exact VT
def Zy4:GM:=λl=>some ([l=[lns n L,.fn (.func 110) [] [.ro [.fn (.func 65) [i mx] []]]]],i (if HJ (lgB L mx) n<n then (HJ (lgB L mx) n:Int) else -1))
theorem Wt2(UB:n<=100000):UA U8 148 (Zy4 n L mx):=by
 refine ⟨(UZ Tryz.func148),?_⟩;intro avs ns res h I;cases h;have e:=I _ H0;subst e;exact Xp6 n L mx UB
theorem Xr3(UB:n<=100000):UH U8 109 [lns n L,.fn (.func 110) [] [.ro [.fn (.func 65) [i mx] []]]] (bl (!shB n L mx)):=by
 refine UL (L:=[]) (Ae (Wt2 n L mx UB) Aa) UI Tryz.func109 (GF Tryz.f109) UN (t:=need [UJ ([Q8 n L,WQ mx])] (leaf (RV.x (.bool (decide ((if HJ (lgB L mx) n<n then (↑(HJ (lgB L mx) n):Int) else (-1:Int))>=(0:Int))))))) UD ?_
 simp only [U6.sat,UU,GS,UX,G4];unfold shB;rw [yL];have:=FI (lgB L mx) n;have e:(λk=> !(λj=>decide (((L j).size:Int)<=mx)) k)=lgB L mx:=rfl;rw [e];show decide ((if HJ (lgB L mx) n<n then (HJ (lgB L mx) n:Int) else -1)>=0)=_
 split<;>simp<;>omega
def Zy6:GM:=λl=>some ([l=[lns n L,.fn (.func 110) [] [.ro [.fn (.func 65) [i mx] []]]]],bl (!shB n L mx))
theorem Ww1(UB:n<=100000):UA U8 109 (Zy6 n L mx):=by
 refine ⟨(UZ Tryz.func109),?_⟩;intro avs ns res h I;cases h;have e:=I _ H0;subst e;exact Xr3 n L mx UB
theorem Ww5(UB:n<=100000):UH U8 66 [lns n L,.fn (.func 65) [i mx] []] (bl (shB n L mx)):=by
 refine UL (L:=[]) (Ae (Ww1 n L mx UB) Aa) UI Tryz.func66 (GF Tryz.f66) UN (t:=need [UJ ([Q8 n L,WQ mx])] (leaf (RV.x (.bool !!shB n L mx)))) UD ?_;simp only [U6.sat,UU,GS,UX,G4];show (!!shB n L mx)=_;simp
def Xw1:GM:=λl=>some ([l=[lns n L,.fn (.func 65) [i mx] []]],bl (shB n L mx))
theorem Qx4(UB:n<=100000):UA U8 66 (Xw1 n L mx):=by
 refine ⟨(UZ Tryz.func66),?_⟩;intro avs ns res h I;cases h;have e:=I _ H0;subst e;exact Ww5 n L mx UB
end
section
variable (n:Nat)(L:Cf)
abbrev YY:List AV:=[Q8 n L,AV.fn (Fn.func 65) [iI 200] []]
theorem ST(UB:n<=100000):UH U8 35 [lns n L] (i (ckE n L)):=by
 refine UL (L:=[]) (Ae (Qx4 n L 200 UB) Aa) UI Tryz.func35 (GF Tryz.f35) UN (t:=branch (decide ((n:Int)>50)) (leaf (RV.x (KT))) (need [UJ (YY n L)] (branch (!shB n L (200:Int)) (leaf (RV.x (KT))) (leaf (RV.x (X3)))))) UD ?_;simp only [U6.sat,UU,GS,UX,G4,HU];have hc: ∀b:Bool,shB n L 200=b->ckE n L=if n<=50/\b=true then 0 else 3:=λb h=>by unfold ckE;rw [h]
 cases hs:shB n L 200
 all_goals
  rw [hc _ hs];simp
  try omega
def Xg2:GM:=λl=>some ([l=[lns n L]],i (ckE n L))
theorem LT(UB:n<=100000):UA U8 35 (Xg2 n L):=by
 refine ⟨(UZ Tryz.func35),?_⟩;intro avs ns res h I;cases h;have e:=I _ H0;subst e;exact ST n L UB
end
def Qd1:GM
 |[.lst 4 n f]=>some ([n<=100000,gdX 4 n f],.lst 4 n f)
 |_=>none
theorem VK{p:Prop}(h:p:=by
 simp only [U6.sat,UU,GS,true_and];refine ⟨λh=>⟨Ak,h⟩,⟨U3,λk hk x hm=>((UY k hk).2 x hm).2⟩,Ap n,?_⟩;exact λk hk=>⟨fH f k,λx hm=>((UY k hk).2 x hm).1⟩):p:=h
theorem Xr0(n:Nat)(f:Ci)(UB:n<=100000)(UY:gdX 4 n f):UH U8 99 [.lst 4 n f] (.lst 4 n f):=by
 refine GW (L:=[]) Aa Ad UI Tryz.func99 (GF Tryz.f99) GN (t:=U6.may (n=0) (leaf (RV.x (J8))) (need [(0+n)*32<=140737488355328,∀(i:Nat),i<n-> ∀(a:AV),a∈f i->AV.one a=true] (leaf (RV.lst 4 (0+n) (GX 0 (λx=>[]) λa=>f a))))) UD ?_;exact VK
theorem Qj6:UA U8 99 Qd1:=by
 refine ⟨(UZ Tryz.func99),?_⟩;intro avs ns res h I;unfold Qd1 at h;split at h;cases h;exact Xr0 _ _ (I _ UE) (I _ UE);cases h
def Qd2:GM
 |[.lst 5 n f]=>some ([n<=100000,gdX 5 n f],.lst 5 n f)
 |_=>none
theorem Xr1(n:Nat)(f:Ci)(UB:n<=100000)(UY:gdX 5 n f):UH U8 100 [.lst 5 n f] (.lst 5 n f):=by
 refine GW (L:=[]) Aa Ad UI Tryz.func100 (GF Tryz.f100) GN (t:=U6.may (n=0) (leaf (RV.x (J8))) (need [(0+n)*40<=140737488355328,∀(i:Nat),i<n-> ∀(a:AV),a∈f i->AV.one a=true] (leaf (RV.lst 5 (0+n) (GX 0 (λx=>[]) λa=>f a))))) UD ?_;exact VK
theorem Qj7:UA U8 100 Qd2:=by
 refine ⟨(UZ Tryz.func100),?_⟩;intro avs ns res h I;unfold Qd2 at h;split at h;cases h;exact Xr1 _ _ (I _ UE) (I _ UE);cases h
def Qd0:GM
 |[.lst 5 n f]=>some ([n<=100000,gdX 5 n f],.lst 5 n f)
 |_=>none
theorem Xq9(n:Nat)(f:Ci)(UB:n<=100000)(UY:gdX 5 n f):UH U8 101 [.lst 5 n f] (.lst 5 n f):=by
 refine GW (L:=[]) Aa Ad UI Tryz.func101 (GF Tryz.f101) GN (t:=U6.may (n=0) (leaf (RV.x (J8))) (need [(0+n)*40<=140737488355328,∀(i:Nat),i<n-> ∀(a:AV),a∈f i->AV.one a=true] (leaf (RV.lst 5 (0+n) (GX 0 (λx=>[]) λa=>f a))))) UD ?_;exact VK
theorem Qj5:UA U8 101 Qd0:=by
 refine ⟨(UZ Tryz.func101),?_⟩;intro avs ns res h I;unfold Qd0 at h;split at h;cases h;exact Xq9 _ _ (I _ UE) (I _ UE);cases h
def Qc9:GM
 |[.lst 2 n f]=>some ([n<=100000,gdX 2 n f],.lst 2 n f)
 |_=>none
theorem Xq8(n:Nat)(f:Ci)(UB:n<=100000)(UY:gdX 2 n f):UH U8 102 [.lst 2 n f] (.lst 2 n f):=by
 refine GW (L:=[]) Aa Ad UI Tryz.func102 (GF Tryz.f102) GN (t:=U6.may (n=0) (leaf (RV.x (J8))) (need [(0+n)*16<=140737488355328,∀(i:Nat),i<n-> ∀(a:AV),a∈f i->AV.one a=true] (leaf (RV.lst 2 (0+n) (GX 0 (λx=>[]) λa=>f a))))) UD ?_;exact VK
theorem Qj4:UA U8 102 Qc9:=by
 refine ⟨(UZ Tryz.func102),?_⟩;intro avs ns res h I;unfold Qc9 at h;split at h;cases h;exact Xq8 _ _ (I _ UE) (I _ UE);cases h
open Go Go.Sx Go.RowKit
def FV(W:Cf)(s:HS):HS:=match wdK (W 0) with
 | 0=>thS s (UK (W 1)) (UK (W 2)) (UK (W 3)) (UK (W 4))
 | 1=>stS s (UK (W 1))
 | 2=>baS s (UK (W 1)) (UK (W 2))
 | 3=>btS s (UK (W 1)) (UK (W 2))
 | 4=>seS s (UK (W 1)) (UK (W 2))
 | 5=>isS s (UK (W 1)) (UK (W 2)) (UK (W 3)) (UK (W 4))
 | 6=>voS s (UK (W 1))
 | 7=>slS s (UK (W 1)) (UK (W 2)) (UK (W 3)) (UK (W 4)) (UK (W 5))
 |_=>s
def PC(W:Cf)(n:Nat)(s:HS):Int:=match wdK (W 0) with
 | 0=>fmE W n 4 (thE s (UK (W 1)) (UK (W 2)) (UK (W 3)) (UK (W 4)))
 | 1=>fmE W n 1 (stE s (UK (W 1)))
 | 2=>fmE W n 2 (baE s (UK (W 1)) (UK (W 2)))
 | 3=>fmE W n 2 (btE s (UK (W 1)) (UK (W 2)))
 | 4=>fmE W n 2 (seE s (UK (W 1)) (UK (W 2)))
 | 5=>fmE W n 4 (isE s (UK (W 1)) (UK (W 2)) (UK (W 3)) (UK (W 4)))
 | 6=>fmE W n 1 (voE s (UK (W 1)))
 | 7=>fmE W n 5 (slE s (UK (W 1)) (UK (W 2)) (UK (W 3)) (UK (W 4)) (UK (W 5)))
 |_=>4
structure xV (s:HS):Prop where
 nr:s.nr<=12
 bV:bV s.nb s.ql s.qh s.qm s.qr s.qv
 nc:s.nc<=10
 sV:sV s.ns s.sa s.sb s.sc s.sl s.sh
abbrev hsM(s:HS):HO:=[(0,.cells 99 (hsL s)),(1,.row 23 1 s.xn s.xg),(2,.row 9 1 s.yn s.yg)]
theorem Qu8{str:ByteArray}{n:Nat}{W:Cf}{s:HS}(h:uY str n W)(hs:xV s):
  xK U8 106 [.ptr 0 0,.x (.string str)] (hsM s) 901 [[.ptr 0 0,.row 1,.row 2]] 211 (OS (FV W s)) (OX s) (rsE (PC W n s)):=by
 rcases CV (W 0) with ⟨h1,h2⟩|⟨h1,_⟩
 ·have hV: ∀q,wdL[q]? =some (W 0)->UQ (GB q) (λk=>W (k+1))=W:=by
   intro q hq;funext k;cases k with
   |zero=>
    show GB q=W 0;unfold GB;rw [List.getD_eq_getElem?_getD,hq];rfl
   |succ k=>rfl
  unfold FV PC;rcases (show wdK (W 0)=0\/wdK (W 0)=1\/wdK (W 0)=2\/wdK (W 0)=3\/wdK (W 0)=4\/wdK (W 0)=5\/wdK (W 0)=6\/wdK (W 0)=7 by omega) with h3|h3|h3|h3|h3|h3|h3|h3
  all_goals
   rw [h3] at h2 ⊢;have e:=hV _ h2;have h':=h;rw [←e] at h'
  have k:=Qu6 (λk=>W (k+1)) n str s h' hs.nr;rw [e] at k;exact k;have k:=Qu7 (λk=>W (k+1)) n str s h' hs.nr;rw [e] at k;exact k;have k:=Xo4 (λk=>W (k+1)) n str s h';rw [e] at k;exact k;have k:=Xo3 (λk=>W (k+1)) n str s h' hs.bV.1.1;rw [e] at k;exact k;have k:=Zs8 (λk=>W (k+1)) n str s h' hs.bV;rw [e] at k;exact k;have k:=Wn3 (λk=>W (k+1)) n str s h' hs.nc;rw [e] at k;exact k;have k:=Xo1 (λk=>W (k+1)) n str s h' hs.nc;rw [e] at k;exact k;have k:=Xo2 (λk=>W (k+1)) n str s h' hs.sV;rw [e] at k;exact k
 have h0:wdO (W 0)=false:=by
  unfold wdO;rw [h1];rfl
 have k:=Jm1 W n str s h h0;unfold PC;rw [h1];show xK _ _ _ _ _ _ _ (OS (FV W s)) _ _;have e:FV W s=s:=by
  unfold FV;rw [h1];rfl
 rw [e];exact k
theorem fm0{W:Cf}{n many:Nat}{e:Int}(h:fmE W n many e=0):e=0:=by
 unfold fmE at h;split at h;exact h;exact absurd h (by decide)
theorem Xl5{W:Cf}{n:Nat}{s:HS}(hs:xV s)(h0:PC W n s=0):xV (FV W s):=by
 unfold PC at h0;unfold FV;split at h0;have h:=fm0 h0;unfold thE at h;split at h;split at h;exact ⟨by show s.nr+1<=12;omega,hs.bV,hs.nc,hs.sV⟩
 exact absurd h (by decide)
 exact absurd h (by decide)
 exact ⟨by show s.nr-1<=12;have:=hs.nr;omega,hs.bV,hs.nc,hs.sV⟩
 exact ⟨hs.nr,hs.bV,hs.nc,hs.sV⟩;have h:=fm0 h0;unfold btE at h;split at h;rename_i hb;split at h;rename_i h6;have hx:=(bt_iff _ _ _).1 hb.1;refine ⟨hs.nr,⟨⟨by show s.nb+1<=6;omega,λb hb'=>?_⟩,λb hb' j k hjk hk=>?_⟩,hs.nc,hs.sV⟩
 have hb':b<s.nb+1:=hb';show (if b<s.nb then s.qm b else 0)<=10/\0<=D2 s.nb s.ql _ b/\D2 s.nb s.ql _ b<=D2 s.nb s.qh _ b/\D2 s.nb s.qh _ b<=1000/\ ∀j,j<(if b<s.nb then s.qm b else 0)->0<=s.qr b j/\s.qr b j<=2/\ -1000<=s.qv b j/\s.qv b j<=2000
 unfold D2;by_cases e:b<s.nb;simp only [if_pos e];exact hs.bV.1.2 b e;simp only [if_neg e];exact ⟨U3,hx.1,hx.2,hb.2,λj hj=>U3⟩;have hk:k<(if b<s.nb then s.qm b else 0):=hk
 by_cases e:b<s.nb;rw [if_pos e] at hk;exact hs.bV.2 b e j k hjk hk;rw [if_neg e] at hk;omega;exact absurd h (by decide)
 exact absurd h (by decide)
 have h:=fm0 h0;unfold seE at h;split at h;rename_i g1;split at h;rename_i g2;split at h;rename_i g3;split at h;rename_i g4;exact ⟨hs.nr,Ji6 hs.bV g1 g2 g3 g4,hs.nc,hs.sV⟩;exact absurd h (by decide)
 exact absurd h (by decide)
 exact absurd h (by decide)
 exact absurd h (by decide)
 have h:=fm0 h0;unfold isE at h;split at h;split at h;exact ⟨hs.nr,hs.bV,by show s.nc+1<=10;omega,hs.sV⟩
 exact absurd h (by decide)
 exact absurd h (by decide)
 exact ⟨hs.nr,hs.bV,hs.nc,hs.sV⟩;have h:=fm0 h0;unfold slE at h;split at h;rename_i g1;split at h;rename_i g2;exact ⟨hs.nr,hs.bV,hs.nc,slV g1 (by simp;omega) hs.sV⟩
 exact absurd h (by decide)
 exact absurd h (by decide)
 exact absurd h0 (by decide)
def LN(e:G8)(q r t:Nat)(x:Nat):Option Nat:=if x=e.blk q then some q else if (e.val r).ownBlock=some x then some r else if (e.val t).ownBlock=some x then some t else none
theorem Qj0(s:HS): ∀a∈hsL s,Idf a:=by
 intro a ha;simp only [HA,F8,or_false] at ha;rcases ha with rfl|rfl|rfl|rfl|rfl|rfl;exact .lst _ _ _ λk _ x hx=>by
  simp only [HA,F8,or_false] at hx;rcases hx with rfl|rfl|rfl|rfl<;>exact .x _
 exact .x _;exact .x _;exact Qj1 _ _ _ _ _ _;exact U2;exact U2
theorem Zs9{str:ByteArray}{s s':HS}{er:Int}(hE:xK U8 106 [.ptr 0 0,.x (.string str)] (hsM s) 901 [[.ptr 0 0,.row 1,.row 2]] 211 (OS s') (OX s) (rsE er))(hx:s'.xn=s.xn/\s'.xg=s.xg/\s'.yn=s.yn/\s'.yg=s.yg)
  {e:G8}{w0 w:World}{T:Nat->Prop}{q r t:Nat}(hEv:GK e w0.heap.size w)(hB:Below w0.heap.size w0 w)(hT: ∀b,T b->b<w0.heap.size/\ ¬e.ro b)
  (hq:H2 e w q (.cells 99 (hsL s)))(hr:H2 e w r (.row 23 1 s.xn s.xg))(ht:H2 e w t (.row 9 1 s.yn s.yg))(hqr:q≠r)(hqt:q≠t)(hrt:r≠t)(hrv: ∃a b c,e.val r= .slice a b c)(htv: ∃a b c,e.val t= .slice a b c):
  Calls Tryz.prog 106 #[.pointer (some ⟨e.blk q,0,none⟩),.string str] w λen w1=>en=Xs5 211 (rsE er)/\Below w0.heap.size w0 w1/\w.heap.size<=w1.heap.size/\
   (∀x,(e.ro x\/(w0.heap.size<=x/\x<w.heap.size/\e.own x≠some q/\e.own x≠some r/\e.own x≠some t))->w1.heap[x]? =w.heap[x]?)/\
   ∃ro1:Nat->Prop,(∀x,e.ro x->ro1 x)/\(∀x,T x-> ¬ro1 x)/\GK {e with ro:=ro1,own:=LN e q r t} w0.heap.size w1/\
    H2 {e with ro:=ro1,own:=LN e q r t} w1 q (.cells 99 (cond (rsE er).1 (hsL s') [.top,.top,.top,.top,.top,.top]))/\
    H2 {e with ro:=ro1,own:=LN e q r t} w1 r (.row 23 1 s.xn s.xg)/\H2 {e with ro:=ro1,own:=LN e q r t} w1 t (.row 9 1 s.yn s.yg):=by
 let e0:G8:={ro:=λx=>e.ro x\/(w0.heap.size<=x/\x<w.heap.size/\e.own x≠some q/\e.own x≠some r/\e.own x≠some t),own:=λx=>if e.own x=some q then some 0 else if e.own x=some r then some 1 else if e.own x=some t then some 2 else none,live:=λk=>k<901,blk:=λ_=>e.blk q,val:=λk=>if k=1 then e.val r else e.val t}
 obtain ⟨ql,qo,vs,qh,qv⟩:=hq;obtain ⟨rl,ro,rf,rxs,rh,rv⟩:=hr;obtain ⟨tl,to,tf,txs,th,tv⟩:=ht;have oq: ∀{x},e.own x=some q->e0.own x=some 0:=λh=>if_pos h;have or_: ∀{x},e.own x=some r->e0.own x=some 1:=λh=>by simp [e0,h,hqr.symm]
 have ot: ∀{x},e.own x=some t->e0.own x=some 2:=λh=>by simp [e0,h,hqt.symm,hrt.symm]
 have hE0:GK e0 w0.heap.size w:=by
  refine ⟨λx hx=>?_,λx k hk=>?_,λg p hp=>⟨.inl (hEv.glob g p hp).1,(hEv.glob g p hp).2⟩⟩;rcases hx with hx|⟨_,h2,h3,h4,h5⟩;obtain ⟨h1,h2⟩:=hEv.apart x hx;exact ⟨by simp [e0,h1],h2⟩
  exact ⟨by simp [e0,h3,h4,h5],h2⟩
  have hk:(if e.own x=some q then some 0 else if e.own x=some r then some 1 else if e.own x=some t then some 2 else none)=some k:=hk
  split at hk;rename_i h;exact hEv.owned x _ h;split at hk;rename_i h;exact hEv.owned x _ h;split at hk;rename_i h;exact hEv.owned x _ h;cases hk
 have sub0: ∀b,e.ro b->e0.ro b:=λb h=> .inl h;have idfL:=Qj0 s;have hM:GH e0 (hsM s) w:=by
  intro p hp;simp only [HA,F8,or_false] at hp;rcases hp with rfl|rfl|rfl;exact ⟨show 0<901 by omega,oq qo,vs,qh,⟨qv.1,λi a v ha A=>Rep.idf sub0 (qv.2 i a v ha A) (idfL a (FN ha))⟩⟩
  exact ⟨show 1<901 by omega,λb hb=>or_ (ro b hb),rf,rxs,rh,λi j a v O ha A=>Rep.idf sub0 (rv i j a v O ha A) ((rf i O).2 a (FN ha))⟩
  exact ⟨show 2<901 by omega,λb hb=>ot (to b hb),tf,txs,th,λi j a v O ha A=>Rep.idf sub0 (tv i j a v O ha A) ((tf i O).2 a (FN ha))⟩
 let c0:Cx:={M:=λ_=>False,Φ:=λ_ _ _=>True,K:=λx o=>e0.ro x/\w.heap[x]? =some o,saved:=[[.pointer (some ⟨e.blk q,0,none⟩),e.val r,e.val t]],sz:=w.heap.size}
 have hS:UM e0 w [.ptr 0 0,.row 1,.row 2] [.pointer (some ⟨e.blk q,0,none⟩),e.val r,e.val t]:=by
  obtain ⟨a1,b1,d1,h1⟩:=hrv;obtain ⟨a2,b2,d2,h2⟩:=htv;refine .cons (.ptr 0 0 (show 0<901 by omega)) (.cons ?_ (.cons ?_ (.nil _ _)))
  rw [h1];exact .row 1 _ _ _ (show 1<901 by omega) h1
  rw [h2];exact .row 2 _ _ _ (show 2<901 by omega) h2
 have hX:Xt c0 e0 [[.ptr 0 0,.row 1,.row 2]] [] w:=
  ⟨⟨λd hd=>(by cases hd),By⟩,λx o hk=>⟨hk.1,(hE0.apart x hk.1).2,hk.2⟩,LM.cons hS ⟨rfl,λi a v h=>by simp at h⟩,Am _⟩
 have hT0: ∀b,T b->b<w0.heap.size/\ ¬e0.ro b:=λb hb=>⟨(hT b hb).1,λh=>by
  rcases h with h|⟨h,_⟩;exact (hT b hb).2 h;have:=(hT b hb).1;omega⟩
 have hA:UM e0 w [.ptr 0 0,.x (.string str)] [.pointer (some ⟨e.blk q,0,none⟩),.string str]:= .cons (.ptr 0 0 (show 0<901 by omega)) (.cons (.x _) (.nil _ _))
 refine (hE c0 w0 T e0 [] _ w hE0 hB hM (λk hk=>hk) hT0 hX hA).mono ?_;rintro en w1 ⟨hen,e1,g1,g2,g3,g4,g5,g6⟩;have SQ: ∀x,e0.ro x->e1.ro x/\w1.heap[x]? =w.heap[x]? :=by
  intro x hx;have hlt:=(hE0.apart x hx).2;have hk:=g6.kept x w.heap[x] ⟨hx,by simp [hlt]⟩
  exact ⟨hk.1,by rw [hk.2.2];simp [hlt]⟩
 have hsv:(cond (rsE er).1 (OS s') (OX s)).sv=[[.ptr 0 0,.row 1,.row 2]]:=by
  cases (rsE er).1<;>rfl
 have hsd:=g6.saved;rw [hsv] at hsd;have hs1:=hsd.2 0 _ _ rfl rfl;obtain ⟨v0,l0,q0,r0,hs1⟩:=hs1.cons_inv;obtain ⟨rfl,rfl⟩:=List.cons.inj q0;obtain ⟨v1,l1,q1,r1,hs1⟩:=hs1.cons_inv;obtain ⟨rfl,rfl⟩:=List.cons.inj q1;obtain ⟨v2,l2,q2,r2,_⟩:=hs1.cons_inv;obtain ⟨rfl,rfl⟩:=List.cons.inj q2;have b0:e1.blk 0=e.blk q:=by
  generalize A:Value.pointer (some ⟨e.blk q,0,none⟩)=v at r0;cases r0;injection A with A
  injection A with A
  injection A with A _
  exact A.symm
 have u1:e1.val 1=e.val r:=by
  generalize A:e.val r=v at r1;cases r1;assumption
 have u2:e1.val 2=e.val t:=by
  generalize A:e.val t=v at r2;cases r2;assumption
 have m0:H2 e1 w1 0 (.cells 99 (cond (rsE er).1 (hsL s') [.top,.top,.top,.top,.top,.top])):=by
  cases hb:(rsE er).1;rw [hb] at g3;exact g3 (0,.cells 99 [.top,.top,.top,.top,.top,.top]) (by simp [OX])
  rw [hb] at g3;exact g3 (0,.cells 99 (hsL s')) (by simp [OS])
 have m1:H2 e1 w1 1 (.row 23 1 s.xn s.xg):=by
  cases hb:(rsE er).1;rw [hb] at g3;exact g3 (1,.row 23 1 s.xn s.xg) (by simp [OX])
  rw [hb] at g3;have:=g3 (1,.row 23 1 s'.xn s'.xg) (by simp [OS]);rw [hx.1,hx.2.1] at this;exact this
 have m2:H2 e1 w1 2 (.row 9 1 s.yn s.yg):=by
  cases hb:(rsE er).1;rw [hb] at g3;exact g3 (2,.row 9 1 s.yn s.yg) (by simp [OX])
  rw [hb] at g3;have:=g3 (2,.row 9 1 s'.yn s'.yg) (by simp [OS]);rw [hx.2.2.1,hx.2.2.2] at this;exact this
 have hsz:w.heap.size<=w1.heap.size:=g6.size;obtain ⟨_,n0,vs1,k0,k1⟩:=m0;obtain ⟨_,n1,f1,xs1,p1,p2⟩:=m1;obtain ⟨_,n2,f2,xs2,y1,y2⟩:=m2;rw [b0] at n0 k0;rw [u1] at n1 p1;rw [u2] at n2 y1;have idfC: ∀a∈(cond (rsE er).1 (hsL s') [.top,.top,.top,.top,.top,.top]),Idf a:=by
  cases (rsE er).1;intro a ha;simp only [cond_false,HA,F8,or_false,or_self] at ha;subst ha;exact .top;exact Qj0 s'
 have oq1:LN e q r t (e.blk q)=some q:=if_pos rfl;have or1: ∀b,(e.val r).ownBlock=some b->LN e q r t b=some r:=by
  intro b hb;have:b≠e.blk q:=by
   rintro rfl;have:=n1 _ hb;rw [n0] at this;cases this
  unfold LN;rw [if_neg this,if_pos hb]
 have ot1: ∀b,(e.val t).ownBlock=some b->LN e q r t b=some t:=by
  intro b hb;have h1:b≠e.blk q:=by
   rintro rfl;have:=n2 _ hb;rw [n0] at this;cases this
  have h2:(e.val r).ownBlock≠some b:=by
   intro h;have h3:=n1 _ h;rw [n2 _ hb] at h3;cases h3
  unfold LN;rw [if_neg h1,if_neg h2,if_pos hb]
 have cv: ∀{a:AV} {v:Value},Rep e1 w1 a v->Idf a->Rep {e with ro:=e1.ro,own:=LN e q r t} w1 a v:=λh k=>Rep.idf (e:=e1) (e':={e with ro:=e1.ro,own:=LN e q r t}) (λ_ h=>h) h k
 refine ⟨hen,g2,hsz,λx hx=>(SQ x hx).2,e1.ro,λx hx=>(SQ x (sub0 x hx)).1,λx hx=>(g5 x hx).2,⟨λx hx=>⟨?_,(g1.apart x hx).2⟩,λx k hk=>?_,λg p hp=>g1.glob g p hp⟩,⟨ql,oq1,vs1,k0,⟨k1.1,λi a v ha A=>cv (k1.2 i a v ha A) (idfC a (FN ha))⟩⟩,⟨rl,or1,f1,xs1,p1,λi j a v O ha A=>cv (p2 i j a v O ha A) ((f1 i O).2 a (FN ha))⟩,⟨tl,ot1,f2,xs2,y1,λi j a v O ha A=>cv (y2 i j a v O ha A) ((f2 i O).2 a (FN ha))⟩⟩;have h0:=(g1.apart x hx).1;have c1:x≠e.blk q:=by
  rintro rfl;rw [n0] at h0;cases h0
 have c2:(e.val r).ownBlock≠some x:=λh=>by
  rw [n1 _ h] at h0;cases h0
 have c3:(e.val t).ownBlock≠some x:=λh=>by
  rw [n2 _ h] at h0;cases h0
 show LN e q r t x=none;unfold LN;rw [if_neg c1,if_neg c2,if_neg c3];have up: ∀{x j},e.own x=some j->w0.heap.size<=x/\x<w1.heap.size:=λh=>⟨(hEv.owned _ _ h).1,qY (hEv.owned _ _ h).2 hsz⟩;have hk:LN e q r t x=some k:=hk;unfold LN at hk;split at hk;rename_i h;rw [h];exact up qo;split at hk;rename_i h;exact up (ro _ h);split at hk;rename_i h;exact up (to _ h);cases hk
open Go Go.RowKit
section
variable (w:World)
theorem N8(o:Obj)(y:Nat)(hy:y<w.heap.size):(w.alloc o).drew.heap[y]? =w.heap[y]? :=Go.RowKit.Below.heap_alloc w o y hy
theorem Qt8(o:Obj):(w.alloc o).output=w.output:=rfl
theorem Wk6:w.drew.output=w.output:=rfl
theorem Xn6(a:Addr)(v:Value):(w.setCell a v).output=w.output:=rfl
theorem Zw2:(binOp .eql 20 .nilIface .nilIface).run Tryz.prog w= .ok (.bool true) w:=run_eql_nil_nil w 20 (by kernel_rfl)
end
theorem Xs3(k:Int)(w:World):(binOp .eql 20 (.iface 211 (.agg #[.int .i64 k])) .nilIface).run Tryz.prog w= .ok (.bool false) w:=run_eql_held_nil w 20 211 _ (by kernel_rfl)
theorem Qc3(v:Value)(w:World):(Instr.typeAssert (.iface 211 v) 20 211 true).run Tryz.prog w= .ok (.tuple #[v,.bool true]) w:=by kernel_rfl
set_option maxHeartbeats 2000000 in
theorem Qu1(p5 p2 W:Addr)(w:World):
  CallsD Tryz.prog 105 #[.pointer (some p5),.pointer (some p2),.pointer (some W)] .returning w λe u' w'=>e= .returned (.tuple #[])/\u'= .returning/\w'=w:=by
 refine callsD_of_wpS Tryz.func105 rfl λc₀ cs hu=>?_;apply wpS_seq;apply wpS_region;simp [wpOpsS,go_sem,recoverD,hu,Tryz.ntmps105,Exit.thenS];rw [show (#[.pointer (some p5),.pointer (some p2),.pointer (some W)]++(Array.replicate 15 undef).setIfInBounds 3 (.nilIface):Array Value)=#[.pointer (some p5),.pointer (some p2),.pointer (some W),undef,undef,undef,.nilIface,undef,undef,undef,undef,undef,undef,undef,undef,undef,undef,undef] from rfl];refine wpS_of_wp ?_;have q1:=Zw2
 go_wp2
 all_goals (cases c₀;simp_all [bodyPostS,results,Tryz.results105])
set_option maxHeartbeats 2000000 in
theorem sU(b p2 W p5:Nat)(k x:Int)(S a3 a4 a5:Option Addr)(I A l3 q3 l4 q4 l5 q5:Nat)(i1 i2:Int)(c0 c1 c2 c3 c4 c5:Value)(older:List PanicEntry)(w:World)(h2:w.heap[p2]? =some (.cells #[.pointer (some ⟨b,0,none⟩)] 95 (0,0)))(h5:w.heap[p5]? =some (.cells #[.slice S I A,.int .i64 i1,.int .i64 i2,.slice a3 l3 q3,.slice a4 l4 q4,.slice a5 l5 q5] 43 (0,0)))(h4:w.heap[W]? =some (.cells #[.int .i64 x] 23 (0,0)))(hb:w.heap[b]? =some (.cells #[c0,c1,c2,c3,c4,c5] 99 (0,0)))(h4b:W≠b):
  CallsD Tryz.prog 105 #[.pointer (some ⟨p5,0,none⟩),.pointer (some ⟨p2,0,none⟩),.pointer (some ⟨W,0,none⟩)] (.panicking ({v:= .iface 211 (.agg #[.int .i64 k]),recovered:=false}::older)) w λe u' w'=>e= .returned (.tuple #[])/\u'= .panicking ({v:= .iface 211 (.agg #[.int .i64 k]),recovered:=true}::older)/\w.heap.size<=w'.heap.size/\w'.heap[b]? =some (.cells #[.slice S I A,.int .i64 i1,.int .i64 i2,.slice a3 l3 q3,.slice a4 l4 q4,.slice a5 l5 q5] 99 (0,0))/\w'.heap[W]? =some (.cells #[.int .i64 k] 23 (0,0))/\(w'.os=w.os/\w'.tape=w.tape/\w'.output=w.output)/\ ∀y,y<w.heap.size->y≠b->y≠W->w'.heap[y]? =w.heap[y]? :=by
 refine callsD_of_wpS Tryz.func105 rfl λc₀ cs hu=>?_;apply wpS_seq;apply wpS_region;simp [wpOpsS,go_sem,recoverD,hu,Tryz.ntmps105,Exit.thenS];rw [show (#[.pointer (some ⟨p5,0,none⟩),.pointer (some ⟨p2,0,none⟩),.pointer (some ⟨W,0,none⟩)]++(Array.replicate 15 undef).setIfInBounds 3 (.iface 211 (.agg #[.int .i64 k])):Array Value)=#[.pointer (some ⟨p5,0,none⟩),.pointer (some ⟨p2,0,none⟩),.pointer (some ⟨W,0,none⟩),undef,undef,undef,.iface 211 (.agg #[.int .i64 k]),undef,undef,undef,undef,undef,undef,undef,undef,undef,undef,undef] from rfl];refine wpS_of_wp ?_;have q1:=Xs3 k;have q2:=Qc3;have lt: ∀{y o},w.heap[y]? =some o->y<w.heap.size:=λh=>(Array.getElem?_eq_some_iff.1 h).1;have hW: ∀y,y<w.heap.size->(w.alloc (Obj.cells #[Value.int IntKind.i64 k] 211)).drew.heap[y]? =w.heap[y]? :=λy hy=>N8 w _ y hy;have hN:(w.alloc (Obj.cells #[Value.int IntKind.i64 k] 211)).drew.heap[w.heap.size]? =some (.cells #[.int .i64 k] 211 (0,0)):=World.alloc_heap_new w _;have k2:=(hW _ (lt h2)).trans h2;have k4:=(hW _ (lt h4)).trans h4;have k5:=(hW _ (lt h5)).trans h5;have kb:=(hW _ (lt hb)).trans hb;have nb: ¬w.heap.size=b:=λh=>by have:=lt hb;omega
 have nb': ¬b=w.heap.size:=λh=>by have:=lt hb;omega
 have n4: ¬w.heap.size=W:=λh=>by have:=lt h4;omega
 have nbp: ¬b=W:=λh=>h4b h.symm;have cN:(w.alloc (Obj.cells #[Value.int IntKind.i64 k] 211)).drew.cell? ⟨w.heap.size,0,none⟩=some (.int .i64 k):=by simp only [World.cell?,hN];rfl
 have c_p2_0:w.cell? ⟨p2,0,none⟩=some (.pointer (some ⟨b,0,none⟩)):=by simp only [World.cell?,h2];rfl
 have c_p4_0:w.cell? ⟨W,0,none⟩=some (.int .i64 x):=by simp only [World.cell?,h4];rfl
 have f_p4_0:w.frozen? ⟨W,0,none⟩=false:=by simp only [World.frozen?,h4];rfl
 have c_p5_0:w.cell? ⟨p5,0,none⟩=some (.slice S I A):=by simp only [World.cell?,h5];rfl
 have c_p5_1:w.cell? ⟨p5,1,none⟩=some (.int .i64 i1):=by simp only [World.cell?,h5];rfl
 have c_p5_2:w.cell? ⟨p5,2,none⟩=some (.int .i64 i2):=by simp only [World.cell?,h5];rfl
 have c_p5_3:w.cell? ⟨p5,3,none⟩=some (.slice a3 l3 q3):=by simp only [World.cell?,h5];rfl
 have c_p5_4:w.cell? ⟨p5,4,none⟩=some (.slice a4 l4 q4):=by simp only [World.cell?,h5];rfl
 have c_p5_5:w.cell? ⟨p5,5,none⟩=some (.slice a5 l5 q5):=by simp only [World.cell?,h5];rfl
 have c_b_0:w.cell? ⟨b,0,none⟩=some (c0):=by simp only [World.cell?,hb];rfl
 have f_b_0:w.frozen? ⟨b,0,none⟩=false:=by simp only [World.frozen?,hb];rfl
 have c_b_1:w.cell? ⟨b,1,none⟩=some (c1):=by simp only [World.cell?,hb];rfl
 have f_b_1:w.frozen? ⟨b,1,none⟩=false:=by simp only [World.frozen?,hb];rfl
 have c_b_2:w.cell? ⟨b,2,none⟩=some (c2):=by simp only [World.cell?,hb];rfl
 have f_b_2:w.frozen? ⟨b,2,none⟩=false:=by simp only [World.frozen?,hb];rfl
 have c_b_3:w.cell? ⟨b,3,none⟩=some (c3):=by simp only [World.cell?,hb];rfl
 have f_b_3:w.frozen? ⟨b,3,none⟩=false:=by simp only [World.frozen?,hb];rfl
 have c_b_4:w.cell? ⟨b,4,none⟩=some (c4):=by simp only [World.cell?,hb];rfl
 have f_b_4:w.frozen? ⟨b,4,none⟩=false:=by simp only [World.frozen?,hb];rfl
 have c_b_5:w.cell? ⟨b,5,none⟩=some (c5):=by simp only [World.cell?,hb];rfl
 have f_b_5:w.frozen? ⟨b,5,none⟩=false:=by simp only [World.frozen?,hb];rfl
 clear hW hN k2 k4 k5 kb cN
 go_wp2
 go_region
 all_goals go_wp2;have e0:(w.setCell ⟨b,0,none⟩ (.slice S I A)).heap[b]? =some (.cells #[.slice S I A,c1,c2,c3,c4,c5] 99 (0,0)):=(heap_setCell_same w b 0 _ _ (.slice S I A) hb).trans rfl;have e1:((w.setCell ⟨b,0,none⟩ (.slice S I A)).setCell ⟨b,1,none⟩ (.int .i64 i1)).heap[b]? =some (.cells #[.slice S I A,.int .i64 i1,c2,c3,c4,c5] 99 (0,0)):=(heap_setCell_same (w.setCell ⟨b,0,none⟩ (.slice S I A)) b 1 _ _ (.int .i64 i1) e0).trans rfl;have e2:(((w.setCell ⟨b,0,none⟩ (.slice S I A)).setCell ⟨b,1,none⟩ (.int .i64 i1)).setCell ⟨b,2,none⟩ (.int .i64 i2)).heap[b]? =some (.cells #[.slice S I A,.int .i64 i1,.int .i64 i2,c3,c4,c5] 99 (0,0)):=(heap_setCell_same ((w.setCell ⟨b,0,none⟩ (.slice S I A)).setCell ⟨b,1,none⟩ (.int .i64 i1)) b 2 _ _ (.int .i64 i2) e1).trans rfl;have e3:((((w.setCell ⟨b,0,none⟩ (.slice S I A)).setCell ⟨b,1,none⟩ (.int .i64 i1)).setCell ⟨b,2,none⟩ (.int .i64 i2)).setCell ⟨b,3,none⟩ (.slice a3 l3 q3)).heap[b]? =some (.cells #[.slice S I A,.int .i64 i1,.int .i64 i2,.slice a3 l3 q3,c4,c5] 99 (0,0)):=(heap_setCell_same (((w.setCell ⟨b,0,none⟩ (.slice S I A)).setCell ⟨b,1,none⟩ (.int .i64 i1)).setCell ⟨b,2,none⟩ (.int .i64 i2)) b 3 _ _ (.slice a3 l3 q3) e2).trans rfl;have e4:(((((w.setCell ⟨b,0,none⟩ (.slice S I A)).setCell ⟨b,1,none⟩ (.int .i64 i1)).setCell ⟨b,2,none⟩ (.int .i64 i2)).setCell ⟨b,3,none⟩ (.slice a3 l3 q3)).setCell ⟨b,4,none⟩ (.slice a4 l4 q4)).heap[b]? =some (.cells #[.slice S I A,.int .i64 i1,.int .i64 i2,.slice a3 l3 q3,.slice a4 l4 q4,c5] 99 (0,0)):=(heap_setCell_same ((((w.setCell ⟨b,0,none⟩ (.slice S I A)).setCell ⟨b,1,none⟩ (.int .i64 i1)).setCell ⟨b,2,none⟩ (.int .i64 i2)).setCell ⟨b,3,none⟩ (.slice a3 l3 q3)) b 4 _ _ (.slice a4 l4 q4) e3).trans rfl;have e5:((((((w.setCell ⟨b,0,none⟩ (.slice S I A)).setCell ⟨b,1,none⟩ (.int .i64 i1)).setCell ⟨b,2,none⟩ (.int .i64 i2)).setCell ⟨b,3,none⟩ (.slice a3 l3 q3)).setCell ⟨b,4,none⟩ (.slice a4 l4 q4)).setCell ⟨b,5,none⟩ (.slice a5 l5 q5)).heap[b]? =some (.cells #[.slice S I A,.int .i64 i1,.int .i64 i2,.slice a3 l3 q3,.slice a4 l4 q4,.slice a5 l5 q5] 99 (0,0)):=(heap_setCell_same (((((w.setCell ⟨b,0,none⟩ (.slice S I A)).setCell ⟨b,1,none⟩ (.int .i64 i1)).setCell ⟨b,2,none⟩ (.int .i64 i2)).setCell ⟨b,3,none⟩ (.slice a3 l3 q3)).setCell ⟨b,4,none⟩ (.slice a4 l4 q4)) b 5 _ _ (.slice a5 l5 q5) e4).trans rfl;have oth: ∀y,y≠b->((((((w.setCell ⟨b,0,none⟩ (.slice S I A)).setCell ⟨b,1,none⟩ (.int .i64 i1)).setCell ⟨b,2,none⟩ (.int .i64 i2)).setCell ⟨b,3,none⟩ (.slice a3 l3 q3)).setCell ⟨b,4,none⟩ (.slice a4 l4 q4)).setCell ⟨b,5,none⟩ (.slice a5 l5 q5)).heap[y]? =w.heap[y]? :=λy hy=>by simp only [heap_setCell_other _ _ _ _ (show y≠(⟨b,_,none⟩:Addr).block from hy)]
 have e6:(((((((w.setCell ⟨b,0,none⟩ (.slice S I A)).setCell ⟨b,1,none⟩ (.int .i64 i1)).setCell ⟨b,2,none⟩ (.int .i64 i2)).setCell ⟨b,3,none⟩ (.slice a3 l3 q3)).setCell ⟨b,4,none⟩ (.slice a4 l4 q4)).setCell ⟨b,5,none⟩ (.slice a5 l5 q5)).setCell ⟨W,0,none⟩ (.int .i64 k)).heap[W]? =some (.cells #[.int .i64 k] 23 (0,0)):=(heap_setCell_same ((((((w.setCell ⟨b,0,none⟩ (.slice S I A)).setCell ⟨b,1,none⟩ (.int .i64 i1)).setCell ⟨b,2,none⟩ (.int .i64 i2)).setCell ⟨b,3,none⟩ (.slice a3 l3 q3)).setCell ⟨b,4,none⟩ (.slice a4 l4 q4)).setCell ⟨b,5,none⟩ (.slice a5 l5 q5)) W 0 _ _ (.int .i64 k) ((oth W h4b).trans h4)).trans rfl;have sz:(((((((w.setCell ⟨b,0,none⟩ (.slice S I A)).setCell ⟨b,1,none⟩ (.int .i64 i1)).setCell ⟨b,2,none⟩ (.int .i64 i2)).setCell ⟨b,3,none⟩ (.slice a3 l3 q3)).setCell ⟨b,4,none⟩ (.slice a4 l4 q4)).setCell ⟨b,5,none⟩ (.slice a5 l5 q5)).setCell ⟨W,0,none⟩ (.int .i64 k)).heap.size=w.heap.size:=by simp
 have al: ∀y,y<w.heap.size->((((((((w.setCell ⟨b,0,none⟩ (.slice S I A)).setCell ⟨b,1,none⟩ (.int .i64 i1)).setCell ⟨b,2,none⟩ (.int .i64 i2)).setCell ⟨b,3,none⟩ (.slice a3 l3 q3)).setCell ⟨b,4,none⟩ (.slice a4 l4 q4)).setCell ⟨b,5,none⟩ (.slice a5 l5 q5)).setCell ⟨W,0,none⟩ (.int .i64 k)).alloc (.cells #[.int .i64 k] 211)).drew.heap[y]? =(((((((w.setCell ⟨b,0,none⟩ (.slice S I A)).setCell ⟨b,1,none⟩ (.int .i64 i1)).setCell ⟨b,2,none⟩ (.int .i64 i2)).setCell ⟨b,3,none⟩ (.slice a3 l3 q3)).setCell ⟨b,4,none⟩ (.slice a4 l4 q4)).setCell ⟨b,5,none⟩ (.slice a5 l5 q5)).setCell ⟨W,0,none⟩ (.int .i64 k)).heap[y]? :=λy hy=>N8 _ _ y (by rw [sz];exact hy)
 all_goals
  cases c₀;simp [bodyPostS,results,Tryz.results105];refine ⟨?_,?_,?_,λy hy h1 h2=>?_⟩;rw [al b (lt hb),heap_setCell_other _ _ _ _ (show b≠W from Ne.symm h4b)];exact e5;rw [al W (lt h4)];exact e6;simp only [Wk6,Qt8,Xn6];rw [al y hy,heap_setCell_other _ _ _ _ (show y≠W from h2)];exact oth y h1
structure e8 (w w':World):Prop where
 size:w.heap.size<=w'.heap.size
 os:w'.os=w.os
 tape:w'.tape=w.tape
 output:w'.output=w.output
theorem Zm5{w:World}{p:Nat}{v:Value}{T:TypeId}(h:w.heap[p]? =some (.cells #[v] T (0,0)))(y:Nat):(w.setCell ⟨p,0,none⟩ v).heap[y]? =w.heap[y]? :=by
 by_cases hy:y=p;subst hy;rw [heap_setCell_same w y 0 _ _ v h,h];rfl;exact heap_setCell_other _ _ _ _ hy
abbrev Z0(b:Nat):Value:=Value.pointer (some ⟨b,0,none⟩)
abbrev KH:Value:=Value.int IntKind.i64 0
set_option maxHeartbeats 2000000 in
theorem Zs2(b:Nat)(str:ByteArray)(a0 a3 a4 a5:Option Addr)(l0 q0 l3 q3 l4 q4 l5 q5:Nat)(i1 i2:Int)(w:World)(hb:w.heap[b]? =some (.cells #[.slice a0 l0 q0,.int .i64 i1,.int .i64 i2,.slice a3 l3 q3,.slice a4 l4 q4,.slice a5 l5 q5] 99 (0,0)))
  (e:Int)(touched:Nat->Prop)(ht: ∀y,touched y->y<w.heap.size)(P:World->World->Prop)
  (hl: ∀w2,e8 w w2->(∀y,y<w.heap.size->w2.heap[y]? =w.heap[y]?)->Calls Tryz.prog 106 #[.pointer (some ⟨b,0,none⟩),.string str] w2 λen w3=>en=(if e=0 then .returned (.tuple #[]) else .panicked [{v:= .iface 211 (.agg #[.int .i64 e]),recovered:=false}])/\e8 w2 w3/\(∀y,y<w2.heap.size-> ¬touched y->w3.heap[y]? =w2.heap[y]?)/\(∃c0 c1 c2 c3 c4 c5,w3.heap[b]? =some (.cells #[c0,c1,c2,c3,c4,c5] 99 (0,0)))/\P w2 w3):
  Calls Tryz.prog 63 #[.pointer (some ⟨b,0,none⟩),.string str] w λen w'=>en= .returned (.int .i64 e)/\ ∃w2 w3,e8 w w2/\(∀y,y<w.heap.size->w2.heap[y]? =w.heap[y]?)/\P w2 w3/\e8 w2 w3/\e8 w3 w'/\(∀y,y<w3.heap.size->y≠b->y≠w.heap.size+1->w'.heap[y]? =w3.heap[y]?)/\w'.heap[b]? =(if e=0 then w3.heap[b]? else w.heap[b]?)/\(e=0-> ∀y:Nat,w'.heap[y]? =w3.heap[y]?):=by
 have hmf: ∀(fn:Fn) (first cap:Array Value) (w:World),(Instr.makeFunc fn first cap).run Tryz.prog w= .ok (.func fn first cap) w:=λ_ _ _ _=>rfl
 have lt: ∀{y o},w.heap[y]? =some o->y<w.heap.size:=λh=>(Array.getElem?_eq_some_iff.1 h).1;have cb0:w.cell? ⟨b,0,none⟩=some (.slice a0 l0 q0):=by simp only [World.cell?,hb];rfl
 have cb1:w.cell? ⟨b,1,none⟩=some (.int .i64 i1):=by simp only [World.cell?,hb];rfl
 have cb2:w.cell? ⟨b,2,none⟩=some (.int .i64 i2):=by simp only [World.cell?,hb];rfl
 have cb3:w.cell? ⟨b,3,none⟩=some (.slice a3 l3 q3):=by simp only [World.cell?,hb];rfl
 have cb4:w.cell? ⟨b,4,none⟩=some (.slice a4 l4 q4):=by simp only [World.cell?,hb];rfl
 have cb5:w.cell? ⟨b,5,none⟩=some (.slice a5 l5 q5):=by simp only [World.cell?,hb];rfl
 have nb: ¬w.heap.size=b:=λh=>by have:=lt hb;omega
 have nb': ¬b=w.heap.size:=λh=>by have:=lt hb;omega
 have nb1: ¬b=w.heap.size+1:=λh=>by have:=lt hb;omega
 have nb2: ¬b=w.heap.size+1+1:=λh=>by have:=lt hb;omega
 have nb1': ¬w.heap.size+1=b:=λh=>by have:=lt hb;omega
 have nb2': ¬w.heap.size+1+1=b:=λh=>by have:=lt hb;omega
 have hA: ∀y,y<w.heap.size->((w.alloc (Obj.cells #[Z0 b] 95)).alloc (Obj.cells #[KH] 23)).heap[y]? =w.heap[y]? :=λy hy=>(Go.RowKit.Below.heap_alloc _ _ y (Nat.lt_succ_of_lt hy |> λh=>by simpa using h)).trans (Go.RowKit.Below.heap_alloc w _ y hy)
 have hAb:=(hA b (lt hb)).trans hb;have d0:((w.alloc (Obj.cells #[Z0 b] 95)).alloc (Obj.cells #[Value.int IntKind.i64 0] 23)).cell? ⟨b,0,none⟩=some (.slice a0 l0 q0):=by simp only [World.cell?,hAb];rfl
 have d1:((w.alloc (Obj.cells #[Z0 b] 95)).alloc (Obj.cells #[Value.int IntKind.i64 0] 23)).cell? ⟨b,1,none⟩=some (.int .i64 i1):=by simp only [World.cell?,hAb];rfl
 have d2:((w.alloc (Obj.cells #[Z0 b] 95)).alloc (Obj.cells #[Value.int IntKind.i64 0] 23)).cell? ⟨b,2,none⟩=some (.int .i64 i2):=by simp only [World.cell?,hAb];rfl
 have d3:((w.alloc (Obj.cells #[Z0 b] 95)).alloc (Obj.cells #[Value.int IntKind.i64 0] 23)).cell? ⟨b,3,none⟩=some (.slice a3 l3 q3):=by simp only [World.cell?,hAb];rfl
 have d4:((w.alloc (Obj.cells #[Z0 b] 95)).alloc (Obj.cells #[Value.int IntKind.i64 0] 23)).cell? ⟨b,4,none⟩=some (.slice a4 l4 q4):=by simp only [World.cell?,hAb];rfl
 have d5:((w.alloc (Obj.cells #[Z0 b] 95)).alloc (Obj.cells #[Value.int IntKind.i64 0] 23)).cell? ⟨b,5,none⟩=some (.slice a5 l5 q5):=by simp only [World.cell?,hAb];rfl
 have s1:(w.alloc (Obj.cells #[Value.pointer (some ⟨b,0,none⟩)] 95)).heap.size=w.heap.size+1:=by simp
 have s2:((w.alloc (Obj.cells #[Value.pointer (some ⟨b,0,none⟩)] 95)).alloc (Obj.cells #[Value.int IntKind.i64 0] 23)).heap.size=w.heap.size+2:=by simp
 have s3:(((w.alloc (Obj.cells #[Z0 b] 95)).alloc (Obj.cells #[KH] 23)).alloc (Obj.cells #[.slice a0 l0 q0,.int .i64 i1,.int .i64 i2,.slice a3 l3 q3,.slice a4 l4 q4,.slice a5 l5 q5] 43)).heap.size=w.heap.size+3:=by simp
 have hB: ∀y,y<w.heap.size->(((w.alloc (Obj.cells #[Z0 b] 95)).alloc (Obj.cells #[KH] 23)).alloc (Obj.cells #[.slice a0 l0 q0,.int .i64 i1,.int .i64 i2,.slice a3 l3 q3,.slice a4 l4 q4,.slice a5 l5 q5] 43)).heap[y]? =w.heap[y]? :=λy hy=>(Go.RowKit.Below.heap_alloc _ _ y (by rw [s2];omega)).trans (hA y hy)
 have b5:(((w.alloc (Obj.cells #[Z0 b] 95)).alloc (Obj.cells #[KH] 23)).alloc (Obj.cells #[.slice a0 l0 q0,.int .i64 i1,.int .i64 i2,.slice a3 l3 q3,.slice a4 l4 q4,.slice a5 l5 q5] 43)).heap[w.heap.size+2]? =some (.cells #[.slice a0 l0 q0,.int .i64 i1,.int .i64 i2,.slice a3 l3 q3,.slice a4 l4 q4,.slice a5 l5 q5] 43 (0,0)):=by
  have:=World.alloc_heap_new ((w.alloc (Obj.cells #[Z0 b] 95)).alloc (Obj.cells #[KH] 23)) (Obj.cells #[.slice a0 l0 q0,.int .i64 i1,.int .i64 i2,.slice a3 l3 q3,.slice a4 l4 q4,.slice a5 l5 q5] 43);rw [s2] at this;exact this
 have b4:(((w.alloc (Obj.cells #[Z0 b] 95)).alloc (Obj.cells #[KH] 23)).alloc (Obj.cells #[.slice a0 l0 q0,.int .i64 i1,.int .i64 i2,.slice a3 l3 q3,.slice a4 l4 q4,.slice a5 l5 q5] 43)).heap[w.heap.size+1]? =some (.cells #[.int .i64 0] 23 (0,0)):=by
  have:=World.alloc_heap_new (w.alloc (Obj.cells #[Value.pointer (some ⟨b,0,none⟩)] 95)) (Obj.cells #[Value.int IntKind.i64 0] 23);rw [s1] at this;exact (Go.RowKit.Below.heap_alloc _ _ _ (by rw [s2];omega)).trans this
 have b2:(((w.alloc (Obj.cells #[Z0 b] 95)).alloc (Obj.cells #[KH] 23)).alloc (Obj.cells #[.slice a0 l0 q0,.int .i64 i1,.int .i64 i2,.slice a3 l3 q3,.slice a4 l4 q4,.slice a5 l5 q5] 43)).heap[w.heap.size]? =some (.cells #[.pointer (some ⟨b,0,none⟩)] 95 (0,0)):=by
  have:=World.alloc_heap_new w (Obj.cells #[Value.pointer (some ⟨b,0,none⟩)] 95);exact (Go.RowKit.Below.heap_alloc _ _ _ (by rw [s2];omega)).trans ((Go.RowKit.Below.heap_alloc _ _ _ (by rw [s1];omega)).trans this)
 have hG:e8 w (((w.alloc (Obj.cells #[Z0 b] 95)).alloc (Obj.cells #[KH] 23)).alloc (Obj.cells #[.slice a0 l0 q0,.int .i64 i1,.int .i64 i2,.slice a3 l3 q3,.slice a4 l4 q4,.slice a5 l5 q5] 43)):=⟨by rw [s3];omega,rfl,rfl,rfl⟩
 have RG:=hl _ hG hB;by_cases he:e=0
 ·subst he;simp only [if_pos rfl] at RG ⊢
  go_enter_defers Tryz.func63,Tryz.ntmps63
  go_wp2_with (go_at_call 106;refine RG.mono ?_;rintro en w3 ⟨rfl,g1,g2,g3,g4⟩;have h4:=(g2 (w.heap.size+1) (by rw [s3];omega) (λh=>by have:=ht _ h;omega)).trans b4;have k4:w3.cell? ⟨w.heap.size+1,0,none⟩=some (.int .i64 0):=(by simp only [World.cell?,h4];rfl);have f4:w3.frozen? ⟨w.heap.size+1,0,none⟩=false:=(by simp only [World.frozen?,h4];rfl))
  refine leaves_cons (f:=105) (args:=#[.pointer (some ⟨w.heap.size+2,0,none⟩),.pointer (some ⟨w.heap.size,0,none⟩),.pointer (some ⟨w.heap.size+1,0,none⟩)]) (by simp) (by simp [go_sem]) ?_
  refine (Qu1 _ _ _ _).mono ?_;rintro e' u' w'' ⟨rfl,rfl,rfl⟩;have kc:(w3.setCell ⟨w.heap.size+1,0,none⟩ (.int .i64 0)).cell? ⟨w.heap.size+1,0,none⟩=some (.int .i64 0):=by simp only [World.cell?,heap_setCell_same w3 _ 0 _ _ (.int .i64 0) h4];rfl
  simp [Leaves,settle,results,Tryz.results63,go_sem,kc];exact ⟨_,hG,hB,w3,g4,g1,⟨by simp,rfl,rfl,rfl⟩,λy _ _ h2=>heap_setCell_other _ _ _ _ h2,heap_setCell_other _ _ _ _ nb1,λy=>Zm5 h4 y⟩
 ·simp only [if_neg he] at RG ⊢
  go_enter_defers Tryz.func63,Tryz.ntmps63
  go_wp2_with (go_at_call 106;refine RG.mono ?_;rintro en w3 ⟨rfl,g1,g2,g3,g4⟩;have h4:=(g2 (w.heap.size+1) (by rw [s3];omega) (λh=>by have:=ht _ h;omega)).trans b4;have k4:w3.cell? ⟨w.heap.size+1,0,none⟩=some (.int .i64 0):=(by simp only [World.cell?,h4];rfl);have f4:w3.frozen? ⟨w.heap.size+1,0,none⟩=false:=(by simp only [World.frozen?,h4];rfl))
  refine leaves_cons (f:=105) (args:=#[.pointer (some ⟨w.heap.size+2,0,none⟩),.pointer (some ⟨w.heap.size,0,none⟩),.pointer (some ⟨w.heap.size+1,0,none⟩)]) (by simp) (by simp [go_sem]) ?_
  obtain ⟨c0,c1,c2,c3,c4,c5,g3⟩:=g3;have h2:=(g2 w.heap.size (by rw [s3];omega) (λh=>by have:=ht _ h;omega)).trans b2
  have h5:=(g2 (w.heap.size+2) (by rw [s3];omega) (λh=>by have:=ht _ h;omega)).trans b5
  refine (sU b w.heap.size (w.heap.size+1) (w.heap.size+2) e 0 a0 a3 a4 a5 l0 q0 l3 q3 l4 q4 l5 q5 i1 i2 c0 c1 c2 c3 c4 c5 [] w3 h2 h5 h4 g3 (λh=>nb1 h.symm)).mono ?_;rintro e' u' w'' ⟨rfl,rfl,m1,m2,m3,m4,m5⟩;have kc:w''.cell? ⟨w.heap.size+1,0,none⟩=some (.int .i64 e):=by simp only [World.cell?,m3];rfl
  simp [Leaves,settle,results,Tryz.results63,go_sem,kc];exact ⟨_,hG,hB,w3,g4,g1,⟨m1,m4.1,m4.2.1,m4.2.2⟩,m5,m2.trans hb.symm,λh=>absurd h he⟩
theorem vA{e:G8}{w:World}{sz n:Nat}{f:Ci}{v:Value}(h:Rep e w (.lst sz n f) v): ∃a l c,v= .slice a l c:=by
 cases h with
 |lstNil=>exact ⟨_,_,_,rfl⟩
 |lst=>exact ⟨_,_,_,rfl⟩
theorem Zm2(W:Cf)(s:HS):(FV W s).xn=s.xn/\(FV W s).xg=s.xg/\(FV W s).yn=s.yn/\(FV W s).yg=s.yg:=by
 unfold FV;split<;>exact ⟨rfl,rfl,rfl,rfl⟩
theorem Xs4(e:Int):Xs5 211 (rsE e)=(if e=0 then .returned (.tuple #[]) else .panicked [{v:= .iface 211 (.agg #[.int .i64 e]),recovered:=false}]):=by
 unfold rsE Xs5;by_cases h:e=0;simp [h];simp [h]
def Zb3(e:G8)(w0:World)(T:Nat->Prop)(q r t:Nat)(s s':HS)(er:Int)(w2 w3:World):Prop:=
 Below w0.heap.size w0 w3/\(∀x,(e.ro x\/(w0.heap.size<=x/\x<w2.heap.size/\e.own x≠some q/\e.own x≠some r/\e.own x≠some t))->w3.heap[x]? =w2.heap[x]?)/\
 ∃ro1:Nat->Prop,(∀x,e.ro x->ro1 x)/\(∀x,T x-> ¬ro1 x)/\GK {e with ro:=ro1,own:=LN e q r t} w0.heap.size w3/\
  H2 {e with ro:=ro1,own:=LN e q r t} w3 q (.cells 99 (cond (rsE er).1 (hsL s') [.top,.top,.top,.top,.top,.top]))/\
  H2 {e with ro:=ro1,own:=LN e q r t} w3 r (.row 23 1 s.xn s.xg)/\H2 {e with ro:=ro1,own:=LN e q r t} w3 t (.row 9 1 s.yn s.yg)
theorem Zs3{str:ByteArray}{n:Nat}{W:Cf}{s:HS}(h:uY str n W)(hs:xV s)
  {e:G8}{w0 w:World}{T:Nat->Prop}{q r t:Nat}(hEv:GK e w0.heap.size w)(hB:Below w0.heap.size w0 w)(hT: ∀b,T b->b<w0.heap.size/\ ¬e.ro b)
  (hq:H2 e w q (.cells 99 (hsL s)))(hr:H2 e w r (.row 23 1 s.xn s.xg))(ht:H2 e w t (.row 9 1 s.yn s.yg))(hqr:q≠r)(hqt:q≠t)(hrt:r≠t)(hrv: ∃a b c,e.val r= .slice a b c)(htv: ∃a b c,e.val t= .slice a b c):
  Calls Tryz.prog 63 #[.pointer (some ⟨e.blk q,0,none⟩),.string str] w λen w'=>en= .returned (.int .i64 (PC W n s))/\ ∃w2 w3,e8 w w2/\(∀y,y<w.heap.size->w2.heap[y]? =w.heap[y]?)/\Zb3 e w0 T q r t s (FV W s) (PC W n s) w2 w3/\e8 w2 w3/\e8 w3 w'/\(∀y,y<w3.heap.size->y≠e.blk q->y≠w.heap.size+1->w'.heap[y]? =w3.heap[y]?)/\w'.heap[e.blk q]? =(if PC W n s=0 then w3.heap[e.blk q]? else w.heap[e.blk q]?)/\(PC W n s=0-> ∀y:Nat,w'.heap[y]? =w3.heap[y]?):=by
 have hq0:=hq;obtain ⟨ql,qo,vs,qh,qv⟩:=hq;obtain ⟨u0,us,rfl,r0,qv⟩:=qv.cons_inv;obtain ⟨u1,us,rfl,r1,qv⟩:=qv.cons_inv;obtain ⟨u2,us,rfl,r2,qv⟩:=qv.cons_inv;obtain ⟨u3,us,rfl,r3,qv⟩:=qv.cons_inv;obtain ⟨u4,us,rfl,r4,qv⟩:=qv.cons_inv;obtain ⟨u5,us,rfl,r5,qv⟩:=qv.cons_inv;obtain rfl:=qv.nil_inv;obtain ⟨a0,l0,q0,rfl⟩:=vA r0;obtain rfl:=r1.x_inv;obtain rfl:=r2.x_inv;obtain ⟨a3,l3,q3,rfl⟩:=vA r3;obtain ⟨a4,l4,q4,rfl⟩:=vA r4;obtain ⟨a5,l5,q5,rfl⟩:=vA r5;refine Zs2 (e.blk q) str a0 a3 a4 a5 l0 q0 l3 q3 l4 q4 l5 q5 s.pl s.ph w qh (PC W n s) (λy=>e.own y=some q\/e.own y=some r\/e.own y=some t) (λy hy=>by rcases hy with hy|hy|hy<;>exact (hEv.owned _ _ hy).2) (Zb3 e w0 T q r t s (FV W s) (PC W n s)) ?_
 intro w2 hG kF;have st:Step e e w w2:=⟨λb hb hro=>⟨hro,kF b hb⟩,λk hk=>⟨hk,rfl,rfl⟩,hG.size⟩;have hE2:GK e w0.heap.size w2:=⟨λx hx=>⟨(hEv.apart x hx).1,qY (hEv.apart x hx).2 hG.size⟩,λx k hk=>⟨(hEv.owned x k hk).1,qY (hEv.owned x k hk).2 hG.size⟩,hEv.glob.step st⟩;have hB2:Below w0.heap.size w0 w2:=⟨hG.os.trans hB.os,hG.tape.trans hB.tape,hG.output.trans hB.output,Ar hB.size hG.size,λx hx=>(kF x (qY hx hB.size)).trans (hB.block x hx)⟩;have same: ∀{k:Nat} {R:H9},Xp2 R=false->H2 e w k R->H2 e w2 k R:=λha hh=>P9 st (λx hx=>⟨hx,kF x (hEv.owned _ _ hx).2⟩) ha hh;have hx:=Zm2 W s;refine (Zs9 (Qu8 h hs) hx hE2 hB2 hT (same rfl hq0) (same rfl hr) (same rfl ht) hqr hqt hrt hrv htv).mono ?_;rintro en w3 ⟨rfl,g2,g3,g4,g5⟩;refine ⟨Xs4 _,⟨g3,g2.os.trans hB2.os.symm,g2.tape.trans hB2.tape.symm,g2.output.trans hB2.output.symm⟩,λy hy hn=>?_,?_,g2,g4,g5⟩;rcases An y w0.heap.size with h1|h1;exact (g2.block y h1).trans (hB2.block y h1).symm;exact g4 y (.inr ⟨h1,hy,λh=>hn (.inl h),λh=>hn (.inr (.inl h)),λh=>hn (.inr (.inr h))⟩);obtain ⟨ro1,_,_,_,⟨_,_,vs1,k0,k1⟩,_⟩:=g5;have hl:vs1.length=6:=by
  rw [←k1.1];cases (rsE (PC W n s)).1<;>rfl
 match vs1,hl,k0 with
 |[c0,c1,c2,c3,c4,c5],_,k0=>exact ⟨c0,c1,c2,c3,c4,c5,k0⟩
theorem Qg7{w w':World}{T sz n:Nat}{v:Value}{xs:List Value}(h:w.ownsRow 0 T sz v n xs)(k: ∀b,v.ownBlock=some b->w'.heap[b]? =w.heap[b]?):w'.ownsRow 0 T sz v n xs:=by
 refine ⟨h.1,?_⟩;rcases h.2 with h2|⟨g,cap,cur,rfl,h3,h4,h5⟩;exact .inl h2;exact .inr ⟨g,cap,cur,rfl,h3,(k g rfl).trans h4,h5⟩
theorem Wm8{str:ByteArray}{n:Nat}{W:Cf}{s:HS}(h:uY str n W)(hs:xV s)
  {e:G8}{w0 w:World}{T:Nat->Prop}{q r t:Nat}(hEv:GK e w0.heap.size w)(hB:Below w0.heap.size w0 w)(hT: ∀b,T b->b<w0.heap.size/\ ¬e.ro b)
  (hq:H2 e w q (.cells 99 (hsL s)))(hr:H2 e w r (.row 23 1 s.xn s.xg))(ht:H2 e w t (.row 9 1 s.yn s.yg))(hqr:q≠r)(hqt:q≠t)(hrt:r≠t)(hrv: ∃a b c,e.val r= .slice a b c)(htv: ∃a b c,e.val t= .slice a b c)
  (hxx: ∀i,i<s.xn-> ∀a∈s.xg i,∃u,a= .x u)(hyy: ∀i,i<s.yn-> ∀a∈s.yg i,∃u,a= .x u):
  Calls Tryz.prog 63 #[.pointer (some ⟨e.blk q,0,none⟩),.string str] w λen w'=>en= .returned (.int .i64 (PC W n s))/\Below w0.heap.size w0 w'/\w.heap.size<=w'.heap.size/\(∀x,e.ro x->w'.heap[x]? =w.heap[x]?)/\
   ∃ro1:Nat->Prop,(∀x,e.ro x->ro1 x)/\(∀x,T x-> ¬ro1 x)/\GK {e with ro:=ro1,own:=LN e q r t} w0.heap.size w'/\
    H2 {e with ro:=ro1,own:=LN e q r t} w' q (.cells 99 (hsL (if PC W n s=0 then FV W s else s)))/\H2 {e with ro:=ro1,own:=LN e q r t} w' r (.row 23 1 s.xn s.xg)/\H2 {e with ro:=ro1,own:=LN e q r t} w' t (.row 9 1 s.yn s.yg):=by
 refine (Zs3 h hs hEv hB hT hq hr ht hqr hqt hrt hrv htv).mono ?_;rintro en w' ⟨rfl,w2,w3,G1,e1,⟨B3,K3,ro1,R1,R2,R3,R4,R5,R6⟩,G2,G3,O1,O2,O3⟩;have hro: ∀x,e.ro x->x<w.heap.size/\x≠e.blk q:=λx hx=>⟨(hEv.apart x hx).2,λh=>by
  have h1:=(hEv.apart x hx).1;rw [h,hq.2.1] at h1;cases h1⟩
 have hqlt:e.blk q<w.heap.size:=(hEv.owned _ _ hq.2.1).2;have lt3: ∀{x},x<w.heap.size->x<w3.heap.size:=λh=>qY h (Ar G1.size G2.size);have hsz:w.heap.size<=w'.heap.size:=Ar (Ar G1.size G2.size) G3.size;have keep: ∀x,e.ro x->w'.heap[x]? =w.heap[x]? :=λx hx=>by
  rw [O1 x (lt3 (hro x hx).1) (hro x hx).2 (by have:=(hro x hx).1;omega),K3 x (.inl hx)]
  exact e1 x (hro x hx).1
 have b0:w0.heap.size<=e.blk q:=(hEv.owned _ _ hq.2.1).1;have hBel:Below w0.heap.size w0 w':=⟨G3.os.trans B3.os,G3.tape.trans B3.tape,G3.output.trans B3.output,Ar B3.size G3.size,λx hx=>by
  rw [O1 x (lt3 (qY hx hB.size)) U3 (by have:=hB.size;omega)]
  exact B3.block x hx⟩
 refine ⟨rfl,hBel,hsz,keep,?_⟩;by_cases he:PC W n s=0;have DM:=O3 he;have hb:(rsE (PC W n s)).1=true:=by rw [he];rfl
 rw [hb] at R4;rw [if_pos he];have st:Step {e with ro:=ro1,own:=LN e q r t} {e with ro:=ro1,own:=LN e q r t} w3 w':=⟨λb _ hr=>⟨hr,DM b⟩,λk hk=>⟨hk,rfl,rfl⟩,G3.size⟩
 exact ⟨ro1,R1,R2,⟨λx hx=>⟨(R3.apart x hx).1,qY (R3.apart x hx).2 G3.size⟩,λx k hk=>⟨(R3.owned x k hk).1,qY (R3.owned x k hk).2 G3.size⟩,R3.glob.step st⟩,P9 st (λx hx=>⟨hx,DM x⟩) rfl R4,P9 st (λx hx=>⟨hx,DM x⟩) rfl R5,P9 st (λx hx=>⟨hx,DM x⟩) rfl R6⟩;rw [if_neg he] at O2;rw [if_neg he];have st:Step e {e with own:=LN e q r t} w w':=⟨λb _ hr=>⟨hr,keep b hr⟩,λk hk=>⟨hk,rfl,rfl⟩,hsz⟩
 obtain ⟨ql,qo,vs,qh,qv⟩:=hq;have HQ: ∀{x j},LN e q r t x=some j->w0.heap.size<=x/\x<w.heap.size:=by
  intro x j hj;unfold LN at hj;split at hj;rename_i h;rw [h];exact hEv.owned _ _ qo;split at hj;rename_i h;exact hEv.owned _ _ (hr.2.1 x h);split at hj;rename_i h;exact hEv.owned _ _ (ht.2.1 x h);cases hj
 have M7: ∀{k:Nat},k≠q->(∀b,(e.val k).ownBlock=some b->e.own b=some k)-> ∀b,(e.val k).ownBlock=some b->w'.heap[b]? =w3.heap[b]? :=by
  intro k hk ho b hb;have h1:=hEv.owned _ _ (ho b hb);refine O1 b (lt3 h1.2) (λh=>?_) (by have:=h1.2;omega)
  have h2:=ho b hb;rw [h,qo] at h2;exact hk (Bb h2).symm
 refine ⟨e.ro,λ_ h=>h,λx hx=>(hT x hx).2,⟨λx hx=>⟨?_,qY (hEv.apart x hx).2 hsz⟩,λx k hk=>⟨(HQ hk).1,qY (HQ hk).2 hsz⟩,hEv.glob.step st⟩,⟨ql,if_pos rfl,vs,O2.trans qh,qv.step st⟩,?_,?_⟩;have h0:=(hEv.apart x hx).1;show LN e q r t x=none;unfold LN;rw [if_neg (hro x hx).2,if_neg (λh=>by rw [hr.2.1 x h] at h0;cases h0),if_neg (λh=>by rw [ht.2.1 x h] at h0;cases h0)]
 obtain ⟨l5,o5,f5,xs5,p5,r5⟩:=R5;refine ⟨l5,o5,f5,xs5,Qg7 p5 (M7 hqr.symm hr.2.1),λi j a v O ha hv=>?_⟩;obtain ⟨u,rfl⟩:=hxx i O a (FN ha);rw [(r5 i j _ v O ha hv).x_inv];exact .x _;obtain ⟨l6,o6,f6,xs6,p6,r6⟩:=R6;refine ⟨l6,o6,f6,xs6,Qg7 p6 (M7 hqt.symm ht.2.1),λi j a v O ha hv=>?_⟩;obtain ⟨u,rfl⟩:=hyy i O a (FN ha);rw [(r6 i j _ v O ha hv).x_inv];exact .x _
def G8.nilAt(e:G8)(nx:Nat):G8:={ro:=e.ro,own:=e.own,live:=λk=>k=nx\/e.live k,blk:=e.blk,val:=λk=>if k=nx then .slice none 0 0 else e.val k}
theorem IT{e:G8}{nx:Nat}{w:World}(h: ¬e.live nx):Step e (G8.nilAt e nx) w w:=⟨λ_ _ h=>⟨h,rfl⟩,λk hk=>⟨.inr hk,rfl,by
 have:k≠nx:=λh'=>h (h'▸hk);simp [G8.nilAt,this]⟩,Am _⟩
theorem Wm6{e:G8}{nx B:Nat}{w:World}(h: ¬e.live nx)(hE:GK e B w):GK (G8.nilAt e nx) B w:=⟨hE.apart,hE.owned,hE.glob.step (IT h)⟩
theorem Qu0(e:G8)(nx:Nat)(w:World)(T n:Nat)(f:Ci)(h:n=0):H2 (G8.nilAt e nx) w nx (.row T 1 n f):=by
 subst h;refine ⟨.inl rfl,λb hb=>?_,λi O=>absurd O (Aq i),[],?_,λi j a v O=>absurd O (Aq i)⟩;simp [G8.nilAt,Value.ownBlock] at hb;have:(G8.nilAt e nx).val nx= .slice none 0 0:=by simp [G8.nilAt]
 rw [this];exact World.ownsRow_nil w 0 T 1
theorem yX{e:G8}{w:World}{k T sz n:Nat}{f:Ci}(h:H2 e w k (.row T sz n f)): ∃a b c,e.val k= .slice a b c:=by
 obtain ⟨_,_,_,xs,h4,_⟩:=h;rcases h4.2 with ⟨h5,_⟩|⟨g,cap,cur,h5,_⟩;exact ⟨_,_,_,h5⟩;exact ⟨_,_,_,h5⟩
def lnW(s:ByteArray)(k:Nat):ByteArray:=(spl s ⟨#[32]⟩).getD k ByteArray.empty
def lnN(s:ByteArray):Nat:=Lib.countB s ⟨#[32]⟩+1
theorem AA(sep:ByteArray): ∀(k:Nat) (s:ByteArray),∀x∈Lib.splitB sep 0 k s,x.size<=s.size
 | 0,s,x,hx=>by
  simp only [Lib.splitB,HA,F8,or_false] at hx;rw [hx];exact Am _
 |k+1,s,x,hx=>by
  unfold Lib.splitB at hx;split at hx;simp only [HA,F8,or_false] at hx;rw [hx];exact Am _;rcases HA.1 hx with rfl|hx;rw [ByteArray.size_extract];omega;have:=AA sep k _ x hx;rw [ByteArray.size_extract] at this;omega
section
variable (s:ByteArray)
theorem SG(h:s.size<100000):uY s (lnN s) (lnW s):=by
 refine ⟨h,rfl,λk _=>rfl,λk=>?_⟩;unfold lnW;rw [List.getD_eq_getElem?_getD];cases he:(spl s ⟨#[32]⟩)[k]? with
 |none=>exact Ao _
 |some x=>
  have:=AA _ _ _ x (FN he);show x.size<=100000;omega
def lnE(x:HS):Int:=PC (lnW s) (lnN s) x
def lnS(x:HS):HS:=if lnE s x=0 then FV (lnW s) x else x
end
def hsX(s:HS)(n:Nat)(g:Ci)(n':Nat)(g':Ci):HS:={s with xn:=n,xg:=g,yn:=n',yg:=g'}
theorem gU(W:Cf)(n:Nat)(s:HS)(k k':Nat)(g g':Ci):PC W n (hsX s k g k' g')=PC W n s:=by
 unfold PC;split<;>rfl
theorem aB(W:Cf)(s:HS)(k k':Nat)(g g':Ci):FV W (hsX s k g k' g')=hsX (FV W s) k g k' g':=by
 unfold FV;split<;>rfl
theorem tU{s:HS}(h:xV s)(k k':Nat)(g g':Ci):xV (hsX s k g k' g'):=⟨h.nr,h.bV,h.nc,h.sV⟩
theorem Wn4{s:HS}(h:xV s)(str:ByteArray):xV (lnS str s):=by
 unfold lnS;split;rename_i h0;exact Xl5 h h0;exact h
def hs0:HS:={nr:=0,ra:=λ_=>0,rb:=λ_=>0,ru:=λ_=>0,rv:=λ_=>0,pl:=760,ph:=760,nb:=0,ql:=λ_=>0,qh:=λ_=>0,qm:=λ_=>0,qr:=λ_ _=>0,qv:=λ_ _=>0,nc:=0,ca:=λ_=>0,cb:=λ_=>0,cc:=λ_=>0,cd:=λ_=>0,cv:=λ_=>false,ns:=0,sa:=λ_=>0,sb:=λ_=>0,sc:=λ_=>0,sl:=λ_=>0,sh:=λ_=>0,xn:=0,xg:=λ_=>[],yn:=0,yg:=λ_=>[] }
def sK(L:Cf):Nat->HS
 | 0=>hs0
 |k+1=>lnS (L k) (sK L k)
def eK(L:Cf)(k:Nat):Int:=lnE (L k) (sK L k)
def exG(L:Cf)(j:Nat):List AV:=[.x (.int .i64 (eK L j))]
theorem Zu4:xV hs0:=⟨Ao _,⟨⟨Ao _,λb hb=>absurd hb (Aq b)⟩,λb hb=>absurd hb (Aq b)⟩,Ao _,⟨Ao _,λk hk=>absurd hk (Aq k)⟩⟩
theorem vY(L:Cf): ∀k,xV (sK L k)
 | 0=>Zu4
 |k+1=>Wn4 (vY L k) (L k)
def CQ(L:Cf)(N r:Nat):DK:=λavs m nx sv=>match avs with
 |[.ptr q 0,.x (.string str')]=>match DY m q with
  |some (.cells T l)=>match DY m r with
   |some (.row T1 sz1 n1 f1)=>match Nat.beq T 99&&Nat.beq T1 23&& !Nat.beq q r with
    |true=>some (.needT [n1<N,l=hsL (sK L n1),HP str'= .x (.string (L n1)),sz1=1,f1=exG L] (.leaf (.x (.int .i64 (eK L n1)),[(q,.cells 99 (hsL (sK L (n1+1)))),(r,.row 23 1 n1 (exG L))],nx+1,sv)))
    |false=>none
   |_=>none
  |_=>none
 |_=>none
theorem Wm7{L:Cf}{N r:Nat}(hL: ∀k,k<N->(L k).size<100000):
  GT U8 63 (CQ L N r):=by
 refine ⟨(UZ Tryz.func63),?_⟩;intro avs m nx sv tr ht Q hQ cx w0 T e ds args w hE hB hm hlv L8 hxt hr;unfold CQ at ht;split at ht;rename_i q str';split at ht;rename_i T l h1;split at ht;rename_i T1 sz1 n1 f1 h2;split at ht;rename_i hb;rw [HV,HV] at hb;obtain ⟨⟨hb1,hb2⟩,hb3⟩:=hb;obtain rfl:=HK hb1;obtain rfl:=HK hb2;have hqr:q≠r:=by
  rintro rfl;simp at hb3
 cases ht;obtain ⟨hn,hq⟩:=U6.sat_needT hQ;have hn:=GY hn;have e0:n1<N:=hn _ UE;have e1:l=hsL (sK L n1):=hn _ UE;have e2:HP str'= .x (.string (L n1)):=hn _ UE;have e3:sz1=1:=hn _ UE;have e5:f1=exG L:=hn _ UE;have e2:str'=L n1:=by
  injection e2 with e2
  injection e2
 subst e1 e2 e3 e5;obtain ⟨v0,l1,rfl,r1,hr⟩:=hr.cons_inv;obtain ⟨v1,l2,rfl,r2,hr⟩:=hr.cons_inv;obtain rfl:=hr.nil_inv;obtain rfl:=r2.x_inv;have hv0:v0= .pointer (some ⟨e.blk q,0,none⟩):=by cases r1;rfl
 subst hv0;have hid: ¬e.live nx:=λh=>Bf _ (hlv _ h);have hQ0:=hm _ (GI h1);have hR0:=hm _ (GI h2);have hqn:q≠nx:=λh=>hid (h▸hQ0.1);have hrn:r≠nx:=λh=>hid (h▸hR0.1);have st0:=IT (w:=w) hid;have hQ1:H2 (G8.nilAt e nx) w q (.cells 99 (hsL (sK L n1))):=P9 st0 (λx hx=>⟨hx,rfl⟩) rfl hQ0;have hR1:H2 (G8.nilAt e nx) w r (.row 23 1 n1 (exG L)):=P9 st0 (λx hx=>⟨hx,rfl⟩) rfl hR0;have hT1:=Qu0 e nx w 9 0 (λ_=>[]) rfl;have h:=SG _ (hL n1 e0);have hs:=tU (vY L n1) n1 0 (exG L) (λ_=>[]);have hxx: ∀i,i<n1-> ∀a∈exG L i,∃u,a= .x u:=λi _ a ha=>⟨_,BE.1 ha⟩;refine (Wm8 h hs (Wm6 hid hE) hB L8 hQ1 hR1 hT1 hqr hqn hrn (yX hR1) (yX hT1) hxx (λi O=>absurd O (Aq i))).mono ?_;rintro en w' ⟨rfl,g1,g2,g3,ro1,g4,g5,g6,g7,g8,g9⟩;have st:Step e {G8.nilAt e nx with ro:=ro1,own:=LN (G8.nilAt e nx) q r nx} w w':=⟨λb _ hb=>⟨g4 b hb,g3 b hb⟩,λk hk=>⟨.inr hk,rfl,(st0.live k hk).2.2⟩,g2⟩
 rw [gU,aB] at g7;have g7:H2 {G8.nilAt e nx with ro:=ro1,own:=LN (G8.nilAt e nx) q r nx} w' q (.cells 99 (hsL (sK L (n1+1)))):=by
  show H2 _ w' q (.cells 99 (hsL (lnS (L n1) (sK L n1))));unfold lnS lnE;by_cases h0:PC (lnW (L n1)) (lnN (L n1)) (sK L n1)=0;rw [if_pos h0] at g7 ⊢;exact g7;rw [if_neg h0] at g7 ⊢;exact g7
 rw [gU];refine ⟨_,_,_,_,_,{G8.nilAt e nx with ro:=ro1,own:=LN (G8.nilAt e nx) q r nx},rfl,hq,g6,g1,?_,?_,λb hb=>⟨(L8 b hb).1,g5 b hb⟩,hxt.step st,.x _⟩
 intro p hp;simp only [HA,F8,or_false] at hp;rcases hp with rfl|rfl;exact g7;exact g8;rintro k (rfl|hk);exact Bk _;exact Nat.lt_succ_of_lt (hlv k hk);cases ht;cases ht;cases ht;cases ht
def cvB:H9->H9
 | .cells T [.x (.slice none 0 0),.x (.int .i64 a),.x (.int .i64 b),.x (.slice none 0 0),.x (.slice none 0 0),.x (.slice none 0 0)]=> .cells T [hsR hs0,i a,i b,hsB hs0,hsC hs0,hsS hs0]
 |r=>r
def cvM:HO->HO
 |[]=>[]
 |(k,r)::t=>(k,cvB r)::cvM t
noncomputable def e7:DK:=λavs m nx sv=>match p8 avs m nx sv with
 |some t=>some (t.bind λp=> .leaf (p.1,cvM p.2.1,p.2.2.1,p.2.2.2))
 |none=>none
theorem Zw5{e:G8}{w:World}{k:Nat}{r:H9}(h:H2 e w k r):H2 e w k (cvB r):=by
 unfold cvB;split;rename_i T a b;obtain ⟨h1,h2,vs,h3,h4⟩:=h;refine ⟨h1,h2,vs,h3,?_⟩;obtain ⟨u0,us,rfl,r0,h4⟩:=h4.cons_inv;obtain ⟨u1,us,rfl,r1,h4⟩:=h4.cons_inv;obtain ⟨u2,us,rfl,r2,h4⟩:=h4.cons_inv;obtain ⟨u3,us,rfl,r3,h4⟩:=h4.cons_inv;obtain ⟨u4,us,rfl,r4,h4⟩:=h4.cons_inv;obtain ⟨u5,us,rfl,r5,h4⟩:=h4.cons_inv;obtain rfl:=h4.nil_inv;obtain rfl:=r0.x_inv;obtain rfl:=r3.x_inv;obtain rfl:=r4.x_inv;obtain rfl:=r5.x_inv;exact .cons (.lstNil _ _) (.cons r1 (.cons r2 (.cons (.lstNil _ _) (.cons (.lstNil _ _) (.cons (.lstNil _ _) (.nil _ _))))));exact h
theorem Xa1{e:G8}{w:World}: ∀{m:HO},GH e m w->GH e (cvM m) w
 |[],_,p,hp=>by cases hp
 |(k,r)::t,h,p,hp=>by
  rcases HA.1 hp with rfl|hp;exact Zw5 (h (k,r) H0);exact Xa1 (m:=t) (λq hq=>h q (DB _ hq)) p hp
theorem CK:GT U8 67 e7:=by
 refine ⟨MF.1,?_⟩;intro avs m nx sv t ht Q hQ c w0 T e ds args w hE hB hm hl L8 hxt hr;unfold e7 at ht;split at ht;rename_i t0 h0;cases ht;refine (MF.2 _ _ _ _ _ h0 _ (U6.sat_bind hQ) c w0 T e ds args w hE hB hm hl L8 hxt hr).mono ?_;rintro en w' ⟨v,r,m',nx',sv',e',q1,q2,q3,q4,q5,q6,q7,q8,q9⟩;exact ⟨v,r,cvM m',nx',sv',e',q1,q2,q3,q4,Xa1 q5,q6,q7,q8,q9⟩;cases ht
theorem lJ{L:Cf}{n:Nat}(h: ∀k,k<n->(L k).size<100000):GT U8 63 (CQ L n 902):=Wm7 h
abbrev X9:AV:=lst 3 0 λk=>[iI (hs0.ql k),iI (hs0.qh k),lst 2 0 λj=>[iI (hs0.qr k j),iI (hs0.qv k j)]]
abbrev V0:H9:=H9.cells 99 [hR 0 hs0,iI 760,iI 760,X9,hC 0 hs0,hT 0 hs0]
section
variable (n:Nat)(L:Cf)
def Ja0:St:={σ:=[Q8 n L,top,QD,Q9,ptr 900 0,top,top,top,top,Q8 n L,iI (n:Int)]++D6 13 [],m:=[(902,H9.row 23 1 0 λx=>[]),(900,V0)],nx:=903}
noncomputable def Jz7:Code:=UT (UC (UP Tryz.f37) 0)
def Wq0(k:Nat):St:={σ:=HI [(4,.ptr 900 0),(5,.row 902),(7,.top),(11,i k)] (Ja0 n L).σ,m:=[(902,.row 23 1 k (exG L)),(900,.cells 99 (hsL (sK L k)))],nx:=903}
def I1(k:Nat):GR->Option St
 | .exit 0=>some {σ:=HI [(4,.ptr 900 0),(5,.row 902),(7,.top),(11,i n)] (Ja0 n L).σ,m:=[(902,.row 23 1 n (exG L)),(900,.cells 99 (hsL (sK L n)))],nx:=903}
 |_=>none
def Jv2:CT:= .leaf (.exit 0,(I1 n L 0 (.exit 0)).getD (Ja0 n L))
def Zf1:G5:=H4 [(.slot 4,900,0,2),(.slot 5,902,23,1)] (D1 (Wq0 n L (0)) (Jv2 n L))
end
abbrev YI:Prop:=ptr 900 0=ptr 900 0
noncomputable abbrev VC(L:Cf)(n:Nat):Ext:={R:=[],H:=[(67,e7),(63,(CQ L n 902))] }
section
variable (n:Nat)(L:Cf)
theorem Jl1(UB:n<=50)(UY: ∀k,k<n->(L k).size<100000):GU U8 (.loop Jz7) (Zf1 n L):=by
 refine GL [(.slot 4,900,0,2),(.slot 5,902,23,1)] (L:=[]) Aa (Ai Ab (Ag CK (Ag (lJ UY) Ac))) UI UN (X:=Nat) (Wq0 n L) (λk=>k<=n) (λk=>n-k) (I1 n L) (x0:=0) UE ?_ ?_ ?_;rintro k;kernel_rfl;rintro k y E h;unfold I1 at h;split at h;cases h;kernel_rfl;cases h;rintro Q hQ k hx;refine ⟨(k+1),?_⟩;(with_reducible refine F4 (t:=branch (decide ((k:Int)<(n:Int))) (need [G7 k n] (need [k<n,UJ (hL (sK L k)),UJ (HP (L k)),1=1,exG L=exG L] (need [(k+1)*8<=140737488355328,L0 1 (UO 1 [iI (eK L k)])] (need [U5 ((k:Int)+1)] (need [UJ (Q8 n L),QD=QD,Q9=Q9,YI,W0,UJ (Q8 n L),UJ (n:Int),(k:Int)+1=(↑(k+1):Int),k+1=k+1,HH (k+1) (GX k (exG L) (UO 1 [iI (eK L k)])) (exG L),UJ (hR ((sK L (k+1)).nr) (sK L (k+1))),UJ ((sK L (k+1)).pl),UJ ((sK L (k+1)).ph),UJ (hY ((sK L (k+1)).nb) (sK L (k+1))),UJ (hC ((sK L (k+1)).nc) (sK L (k+1))),UJ (hT ((sK L (k+1)).ns) (sK L (k+1)))] (leaf GR.normal)))))) (need [UJ (Q8 n L),QD=QD,Q9=Q9,YI,W0,UJ (Q8 n L),UJ (n:Int),(k:Int)=(n:Int),k=n,HB n (exG L),(hR ((sK L k).nr) (sK L k))=hR ((sK L n).nr) (sK L n),(sK L k).pl=(sK L n).pl,(sK L k).ph=(sK L n).ph,(hY ((sK L k).nb) (sK L k))=hY ((sK L n).nb) (sK L n),(hC ((sK L k).nc) (sK L k))=hC ((sK L n).nc) (sK L n),(hT ((sK L k).ns) (sK L k))=hT ((sK L n).ns) (sK L n)] (leaf (GR.exit 0)))) UD ?_);simp only [Jv2,I1,U6.sat,HF] at hQ;simp only [U6.sat,UU,GS,H6,UX,U5,G4,HU,RW,L1,LP,HC,I1]
 refine ⟨λh=>?_,λh=>?_⟩
 ·have hk:k<n:=U3;have hq: ∀j,j<k+1->GX k (exG L) (UO 1 [i (eK L k)]) j=exG L j:=λj hj=>Pt.catF1 (a:=eK L) hj rfl
  (with_reducible repeat' first|apply Al|intro _)
  all_goals first|exact B4|(first|exact hq _ (by assumption)|exact FK (by assumption) (by simp [AV.one,Value.oneCell']))
 obtain rfl:k=n:=U3;exact VR
theorem mH(UB:n<=50)(UY: ∀k,k<n->(L k).size<100000):G6 U8 37 [lns n L] (.leaf (.tup [.ro (hsL (sK L n)),.lst 1 n (exG L)])):=by
 refine HD (L:=[Zf1 n L]) Aa (Ai Ab (Ag CK (Ag (lJ UY) Ac))) UI Tryz.func37 (GF Tryz.f37) (GJ (lpE (b:= .loop Jz7) UD<|(Jl1 n L UB UY).N)) (t:=need [UJ (Q8 n L),QD=QD,Q9=Q9,YI,W0,UJ (Q8 n L),UJ (n:Int),(0:Int)=((0:Nat):Int),0=0,HH 0 (λi=>[]) (exG L),(hR 0 hs0)=hR 0 (sK L 0),(760:Int)=(sK L 0).pl,(760:Int)=(sK L 0).ph,(X9)=lst 3 0 λk=>[iI ((sK L 0).ql k),iI ((sK L 0).qh k),lst 2 0 λj=>[iI ((sK L 0).qr k j),iI ((sK L 0).qv k j)]],(hC 0 hs0)=hC 0 (sK L 0),(hT 0 hs0)=hT 0 (sK L 0)] (leaf (tup [AV.ro (hL (sK L n)),lst 1 n λj=>[iI (eK L j)]]))) UD ?_
 intro Q hQ;simp only [U6.sat,UU,G4,U5,FA] at hQ ⊢
 (with_reducible repeat' first|apply Al|intro _)
 all_goals first|exact Ak|omega|rfl|assumption|exact ⟨.tup [.ro (hsL (sK L n)),.lst 1 n (exG L)],⟨rfl,⟨rfl,rfl,λ_ _=>rfl⟩,Ak⟩,hQ⟩
end
def baG(s:HS)(k:Nat):List AV:=[i (s.ql k),i (s.qh k),.lst 2 (s.qm k) (λj=>[i (s.qr k j),i (s.qv k j)])]
def hsN(s:HS):Prop:=s.nr<=1000/\s.nb<=1000/\s.nc<=1000/\s.ns<=1000/\ ∀b,b<s.nb->s.qm b<=1000
theorem Jq2(n:Nat)(a b u v:Cg):gdX 4 n (λk=>[i (a k),i (b k),i (u k),i (v k)]):=λk _=>⟨rfl,λx hx=>by
 simp only [HA,F8,or_false] at hx;rcases hx with rfl|rfl|rfl|rfl<;>exact ⟨Ak,by simp [AV.one,Value.oneCell']⟩⟩
theorem Jq3(n:Nat)(a b c d:Cg)(v:Nat->Bool):gdX 5 n (λk=>[i (a k),i (b k),i (c k),i (d k),bl (v k)]):=λk _=>⟨rfl,λx hx=>by
 simp only [HA,F8,or_false] at hx;rcases hx with rfl|rfl|rfl|rfl|rfl<;>exact ⟨Ak,by simp [AV.one,Value.oneCell']⟩⟩
theorem Jq1(n:Nat)(a b c d v:Cg):gdX 5 n (λk=>[i (a k),i (b k),i (c k),i (d k),i (v k)]):=λk _=>⟨rfl,λx hx=>by
 simp only [HA,F8,or_false] at hx;rcases hx with rfl|rfl|rfl|rfl|rfl<;>exact ⟨Ak,by simp [AV.one,Value.oneCell']⟩⟩
theorem Jq0(n:Nat)(a b:Cg):gdX 2 n (λk=>[i (a k),i (b k)]):=λk _=>⟨rfl,λx hx=>by
 simp only [HA,F8,or_false] at hx;rcases hx with rfl|rfl<;>exact ⟨Ak,by simp [AV.one,Value.oneCell']⟩⟩
theorem Zx1{s:HS}{k j:Nat}(hj:j<k+1):GX k (baG s) (UO 3 [i (s.ql k),i (s.qh k),.lst 2 (s.qm k) (λj=>[i (s.qr k j),i (s.qv k j)])]) j=baG s j:=by
 rcases (show j<k\/j=k by omega) with h|rfl
 show HX (decide (j<k)) _ _=_;rw [decide_eq_true h,show j-k=0 by omega]
 rfl;show HX (decide (j<j)) _ _=_;rw [show decide (j<j)=false by simp,Bs]
 rfl
abbrev YZ:List AV:=[Q9,iI 0,iI 0,Q9,Q9,Q9]
section
variable (s:HS)
def Jb7:St:={σ:=[agg (hL s),ptr 0 0,ptr 1 0,ptr 900 0]++D6 15 [hY s.nb s,iI (↑s.nb:Int)]++D6 17 [],m:=[(901,H9.row 148 3 0 λx=>[]),(900,H9.cells 43 [hR s.nr s,iI s.pl,iI s.ph,AV.row 901,hC s.nc s,hT s.ns s]),(1,H9.cells 43 YZ),(0,H9.cells 43 (hL s))],nx:=902}
noncomputable def Kb5:Code:=UT (UC (UP Tryz.f60) 0)
def Ws1(k:Nat):St:={σ:=HI [(3,.ptr 900 0),(5,.top),(21,i k)] (Jb7 s).σ,m:=[(901,.row 148 3 k (baG s)),(900,.cells 43 [hsR s,i s.pl,i s.ph,.row 901,hsC s,hsS s]),(1,(.cells 43 [.x (.slice none 0 0),i 0,i 0,.x (.slice none 0 0),.x (.slice none 0 0),.x (.slice none 0 0)])),(0,.cells 43 (hsL s))],nx:=902}
def II(k:Nat):GR->Option St
 | .exit 0=>some {σ:=HI [(3,.ptr 900 0),(5,.top),(21,i s.nb)] (Jb7 s).σ,m:=[(901,.row 148 3 s.nb (baG s)),(900,.cells 43 [hsR s,i s.pl,i s.ph,.row 901,hsC s,hsS s]),(1,(.cells 43 [.x (.slice none 0 0),i 0,i 0,.x (.slice none 0 0),.x (.slice none 0 0),.x (.slice none 0 0)])),(0,.cells 43 (hsL s))],nx:=902}
 |_=>none
def Jx3:CT:= .leaf (.exit 0,(II s 0 (.exit 0)).getD (Jb7 s))
def Zh5:G5:=H4 [(.slot 3,900,0,2),(.cell 900 3,901,148,3)] (D1 (Ws1 s (0)) (Jx3 s))
abbrev YD:List (Nat×GM):=[(99,Qd1),(100,Qd2),(101,Qd0),(102,Qc9)]
theorem Js1(UB:hsN s):GU U8 (.loop Kb5) (Zh5 s):=by
 refine GL [(.slot 3,900,0,2),(.cell 900 3,901,148,3)] (L:=[]) (Ae Qj6 (Ae Qj7 (Ae Qj5 (Ae Qj4 Aa)))) Ad UI UN (X:=Nat) (Ws1 s) (λk=>k<=s.nb) (λk=>s.nb-k) (II s) (x0:=0) UE ?_ ?_ ?_;rintro k;kernel_rfl;rintro k y E h;unfold II at h;split at h;cases h;kernel_rfl;cases h;rintro Q hQ k hx;refine ⟨(k+1),?_⟩;(with_reducible refine F4 (t:=let z0:=(lst 2 (s.qm k) λj=>[iI (s.qr k j),iI (s.qv k j)]);(branch (decide ((k:Int)<(↑s.nb:Int))) (need [G7 k s.nb] (need [s.qm k<=100000,gdX 2 (s.qm k) λj=>[iI (s.qr k j),iI (s.qv k j)]] (need [(k+1)*40<=140737488355328,L0 1 (UO 3 [iI (s.ql k),iI (s.qh k),z0])] (need [U5 ((k:Int)+1)] (need [UJ (agg (hL s)),QO,XN,YI,XZ s,UJ (↑s.nb:Int),(k:Int)+1=(↑(k+1):Int),k+1=k+1,HH (k+1) (GX k (baG s) (UO 3 [iI (s.ql k),iI (s.qh k),z0])) (baG s),XK s,JZ s,K1 s,WK,XR s,XS s,Q9=Q9,QV,QV,Q9=Q9,Q9=Q9,Q9=Q9,XK s,JZ s,K1 s,XZ s,XR s,XS s] (leaf GR.normal)))))) (need [UJ (agg (hL s)),QO,XN,YI,XZ s,UJ (↑s.nb:Int),(k:Int)=(↑s.nb:Int),k=s.nb,∀(i:Nat),i<s.nb->baG s i=baG s i,XK s,JZ s,K1 s,WK,XR s,XS s,Q9=Q9,QV,QV,Q9=Q9,Q9=Q9,Q9=Q9,XK s,JZ s,K1 s,XZ s,XR s,XS s] (leaf (GR.exit 0))))) UD ?_)
 simp only [Jx3,II,U6.sat,HF] at hQ;simp only [U6.sat,UU,GS,H6,UX,U5,G4,HU,RW,L1,LP,HC,II]
 obtain ⟨h1,h2,h3,h4,h5⟩:=UB;refine ⟨λh=>?_,λh=>?_⟩
 ·have hk:k<s.nb:=U3;have h6:=h5 k hk
  (with_reducible repeat' first|apply Al|intro _)
  all_goals first|exact B4|(first|exact Jq0 _ _ _|exact FK (by assumption) (by simp [AV.one,Value.oneCell'])|exact Zx1 (by assumption))
 obtain rfl:k=s.nb:=U3;exact VF
theorem Qa1(UB:hsN s):G6 U8 60 [.agg (hsL s)] (.leaf (.agg (hsL s))):=by
 refine HD (L:=[Zh5 s]) (Ae Qj6 (Ae Qj7 (Ae Qj5 (Ae Qj4 Aa)))) Ad UI Tryz.func60 (GF Tryz.f60) (GJ (lpE (b:= .loop Kb5) UD<|(Js1 s UB).N)) (t:=need [s.nr<=100000,gdX 4 s.nr λk=>[Bo.i (s.ra k),Bo.i (s.rb k),Bo.i (s.ru k),Bo.i (s.rv k)]] (need [s.nc<=100000,gdX 5 s.nc λk=>[i (s.ca k),i (s.cb k),i (s.cc k),i (s.cd k),bl (s.cv k)]] (need [s.ns<=100000,gdX 5 s.ns λk=>[i (s.sa k),i (s.sb k),i (s.sc k),i (s.sl k),i (s.sh k)]] (need [UJ (agg (hL s)),QO,XN,YI,XZ s,UJ (↑s.nb:Int),(0:Int)=((0:Nat):Int),0=0,HH 0 (λi=>[]) (baG s),XK s,JZ s,K1 s,WK,XR s,XS s,Q9=Q9,QV,QV,Q9=Q9,Q9=Q9,Q9=Q9,XK s,JZ s,K1 s,XZ s,XR s,XS s] (leaf (agg (hL s))))))) UD ?_
 intro Q hQ;simp only [U6.sat,UU,G4,U5,FA] at hQ ⊢;obtain ⟨h1,h2,h3,h4,h5⟩:=UB
 (with_reducible repeat' first|apply Al|intro _)
 all_goals first|exact Ak|omega|exact Jq2 _ _ _ _ _|exact Jq3 _ _ _ _ _ _|exact Jq1 _ _ _ _ _ _|rfl|assumption|(rename_i h;exact absurd h (Aq _))|exact ⟨.agg (hsL s),⟨⟨rfl,rfl,λ_ _=>rfl⟩,⟨rfl,rfl⟩,⟨rfl,rfl⟩,⟨rfl,rfl,λ_ _=>rfl⟩,⟨rfl,rfl,λ_ _=>rfl⟩,⟨rfl,rfl,λ_ _=>rfl⟩,Ak⟩,hQ⟩
end
section
variable (n:Nat)(a b c U O:Cg)
def hoS(ow I:Int):Int×Int:=hoF n a b c (eD n a b c U O (2^n)) (lS n a b c U O (2^n-1)) ow I (2^n)
theorem Qt5(ow I:Int)(UB:sV n a b c U O):G6 U8 47 [.agg [i 4,i 10,sls n a b c U O],i ow,i I] (.branch (bt 0 ow 3&&bt 0 I 100) (.branch (!jV n a b c U O) (.leaf (.tup [.agg [i 0,i 0],i 9])) (.leaf (.tup [.agg [i (hoS n a b c U O ow I).1,i (hoS n a b c U O ow I).2],i 0]))) (.leaf (.tup [.agg [i 0,i 0],i 2]))):=by
 refine HD (L:=[]) (Ae jE (Ae CA (Ae (uO n a b c U O (eD n a b c U O (2^n)) (lS n a b c U O (2^n-1)) UB) Aa))) (Aj Ab Ac (Ah (uM n a b c U O UB) (UV.nil _))) UI Tryz.func47 (GF Tryz.f47) GN (t:=let z6:=(lst 1 (2^n) λz=>[iI (eD n a b c U O (2^n) z)]);let z5:=(lst 1 (2^n) λz=>[iI (lS n a b c U O (2^n-1) z)]);let z2:=(hoF n a b c (eD n a b c U O (2^n)) (lS n a b c U O (2^n-1)) ow I (2^n));let z4:=(leaf (tup [agg [iI (Prod.fst z2),iI (Prod.snd z2)],iI 0]));let z0:=(need [AV.x (YJ)=AV.ro [iI 4,iI 10,Q0 n a b c U O,z6,z5],(0:Int)<=ow/\ow<4] z4);let S:=(branch (!jV n a b c U O) (branch ((9:Int) != 0) (leaf (tup [agg JY,iI 9])) z0) (branch ((0:Int) != 0) (leaf (tup [agg JY,iI 0])) (need [UJ (AV.ro [iI 4,iI 10,Q0 n a b c U O,z6,z5]),(0:Int)<=ow/\ow<4] z4)));let z3:=(branch ((2:Int) != 0) (leaf (tup [agg JY,iI 2])) z0);(need [U5 ((4:Int)-1)] (branch (bt (0:Int) ow ((4:Int)-1)) (need [QP n a b c U O] (branch (!bt (0:Int) I (100:Int)) z3 S)) (need [QP n a b c U O] (branch (!false) z3 S))))) UD ?_;intro Q hQ;simp only [U6.sat,UU,G4] at hQ ⊢;have rp: ∀x y z:Int,FR (.tup [.agg [i x,i y],i z]) (.tup [.agg [i x,i y],i z]):=λx y z=>⟨⟨⟨rfl,rfl⟩,⟨rfl,rfl⟩,Ak⟩,⟨rfl,rfl⟩,Ak⟩;rw [show (4:Int)-1=3 from rfl];cases h1:bt 0 ow 3<;>cases h2:bt 0 I 100<;>cases h3:jV n a b c U O<;>rw [h1,h2] at hQ<;>rw [h3] at hQ;all_goals (with_reducible repeat' first|apply Al|intro _)
 all_goals first
  |(simp only [U5];omega)
  |(exfalso;rename_i h;revert h;decide)
  |(exfalso;rename_i h _;revert h;decide)
  |(exfalso;rename_i h _ _;revert h;decide)
  |(exfalso;rename_i h _ _ _;revert h;decide)
  |(have:=(Bo.bt_iff _ _ _).1 h1;omega)
  |exact ⟨_,rp _ _ _,hQ.2 rfl⟩
  |exact ⟨_,rp _ _ _,(hQ.1 rfl).1 rfl⟩
  |exact ⟨_,rp _ _ _,(hQ.1 rfl).2 rfl⟩
def caB(I:Int)(ow:Nat):Bool:=decide ((hoS n a b c U O ow I).2>0)
def suB(I:Int)(ow:Nat):Bool:=decide ((hoS n a b c U O ow I).1>0)
def Qf1(I:Int):St:={σ:=[agg (ZV n a b c U O),iI I,ptr 0 0,top,top,top,iI 0,AV.ro [iI 4,iI 10,Q0 n a b c U O,lst 1 (2^n) λz=>[iI (eD n a b c U O (2^n) z)],lst 1 (2^n) λz=>[iI (lS n a b c U O (2^n-1) z)]]]++D6 13 [iI 4]++D6 24 [],m:=[(902,YK),(901,YK),(0,H9.cells 65 (ZV n a b c U O))],nx:=903}
noncomputable def Wb2:Code:=UT (UC (UP Tryz.f23) 0)
def M1(I:Int)(k:Nat):St:={σ:=HI [(4,.row 901),(5,.row 902),(8,.top),(9,.top),(22,i k)] (Qf1 n a b c U O I).σ,m:=[(902,.row 3 1 (GQ (suB n a b c U O I) (k)) (λz=>[i (GD (suB n a b c U O I) 4 z)])),(901,.row 3 1 (GQ (caB n a b c U O I) (k)) (λz=>[i (GD (caB n a b c U O I) 4 z)])),(0,.cells 65 [i 4,i 10,sls n a b c U O])],nx:=903}
def wI(I:Int)(k:Nat):GR->Option St
 | .exit 0=>some {σ:=HI [(4,.row 901),(5,.row 902),(8,.top),(9,.top),(22,i 4)] (Qf1 n a b c U O I).σ,m:=[(902,.row 3 1 (GQ (suB n a b c U O I) (4)) (λz=>[i (GD (suB n a b c U O I) 4 z)])),(901,.row 3 1 (GQ (caB n a b c U O I) (4)) (λz=>[i (GD (caB n a b c U O I) 4 z)])),(0,.cells 65 [i 4,i 10,sls n a b c U O])],nx:=903}
 |_=>none
def Xd7(I:Int):CT:= .leaf (.exit 0,(wI n a b c U O I 0 (.exit 0)).getD (Qf1 n a b c U O I))
def oS(I:Int):G5:=H4 [(.slot 4,901,3,1),(.slot 5,902,3,1)] (D1 (M1 n a b c U O I (0)) (Xd7 n a b c U O I))
theorem Wj4(I:Int)(UB:sV n a b c U O):GU U8 (.loop Wb2) (oS n a b c U O I):=by
 refine jM [(.slot 4,901,3,1),(.slot 5,902,3,1)] (L:=[]) (Ae CA (Ae (uO n a b c U O (eD n a b c U O (2^n)) (lS n a b c U O (2^n-1)) UB) Aa)) UI UN (X:=Nat) (M1 n a b c U O I) (λk=>k<=4) (λk=>4-k) (wI n a b c U O I) (x0:=0) UE ?_ ?_ ?_;rintro k;kernel_rfl;rintro k y E h;unfold wI at h;split at h;cases h;kernel_rfl;cases h;rintro Q hQ k hx;refine ⟨(k+1),?_⟩;(with_reducible refine F4 (t:=let z0:=(UJ (AV.ro [iI 4,iI 10,Q0 n a b c U O,lst 1 (2^n) λz=>[iI (eD n a b c U O (2^n) z)],lst 1 (2^n) λz=>[iI (lS n a b c U O (2^n-1) z)]]));let S:=suB n a b c U O I;let z2:=caB n a b c U O I;let z3:=(hoF n a b c (eD n a b c U O (2^n)) (lS n a b c U O (2^n-1)) (k:Int) I (2^n));let z4:=(UO 1 [iI (k:Int)]);let z5:=QP n a b c U O;let z6:=W7 n a b c U O;(branch (decide ((k:Int)<4)) (need [z0,(0:Int)<=(k:Int)/\(k:Int)<4] (branch (decide (Prod.snd z3>0)) (need [(GQ (z2) k+1)*8<=140737488355328,L0 1 (UO 1 [iI (k:Int)])] (branch (decide (Prod.fst z3>0)) (need [(GQ (S) k+1)*8<=140737488355328,L0 1 (UO 1 [iI (k:Int)])] (need [U5 ((k:Int)+1)] (need [z5,I=I,QO,WK,W0,QV,z0,W5,(k:Int)+1=(↑(k+1):Int),GQ (S) k+1=GQ (S) (k+1),∀(i:Nat),i<GQ (S) (k+1)->GX (GQ (S) k) (λz=>[iI (↑(GD (S) 4 z):Int)]) z4 i=[iI (↑(GD (S) 4 i):Int)],GQ (z2) k+1=GQ (z2) (k+1),∀(i:Nat),i<GQ (z2) (k+1)->GX (GQ (z2) k) (λz=>[iI (↑(GD (z2) 4 z):Int)]) z4 i=[iI (↑(GD (z2) 4 i):Int)],W5,WD,z6] (leaf GR.normal)))) (need [U5 ((k:Int)+1)] (need [z5,I=I,QO,WK,W0,QV,z0,W5,(k:Int)+1=(↑(k+1):Int),GQ (S) k=GQ (S) (k+1),∀(i:Nat),i<GQ (S) (k+1)->[iI (↑(GD (S) 4 i):Int)]=[iI (↑(GD (S) 4 i):Int)],GQ (z2) k+1=GQ (z2) (k+1),∀(i:Nat),i<GQ (z2) (k+1)->GX (GQ (z2) k) (λz=>[iI (↑(GD (z2) 4 z):Int)]) z4 i=[iI (↑(GD (z2) 4 i):Int)],W5,WD,z6] (leaf GR.normal))))) (branch (decide (Prod.fst z3>0)) (need [(GQ (S) k+1)*8<=140737488355328,L0 1 (UO 1 [iI (k:Int)])] (need [U5 ((k:Int)+1)] (need [z5,I=I,QO,WK,W0,QV,z0,W5,(k:Int)+1=(↑(k+1):Int),GQ (S) k+1=GQ (S) (k+1),∀(i:Nat),i<GQ (S) (k+1)->GX (GQ (S) k) (λz=>[iI (↑(GD (S) 4 z):Int)]) z4 i=[iI (↑(GD (S) 4 i):Int)],GQ (z2) k=GQ (z2) (k+1),∀(i:Nat),i<GQ (z2) (k+1)->[iI (↑(GD (z2) 4 i):Int)]=[iI (↑(GD (z2) 4 i):Int)],W5,WD,z6] (leaf GR.normal)))) (need [U5 ((k:Int)+1)] (need [z5,I=I,QO,WK,W0,QV,z0,W5,(k:Int)+1=(↑(k+1):Int),GQ (S) k=GQ (S) (k+1),∀(i:Nat),i<GQ (S) (k+1)->[iI (↑(GD (S) 4 i):Int)]=[iI (↑(GD (S) 4 i):Int)],GQ (z2) k=GQ (z2) (k+1),∀(i:Nat),i<GQ (z2) (k+1)->[iI (↑(GD (z2) 4 i):Int)]=[iI (↑(GD (z2) 4 i):Int)],W5,WD,z6] (leaf GR.normal)))))) (need [z5,I=I,QO,WK,W0,QV,z0,W5,(k:Int)=4,GQ (S) k=GQ (S) 4,∀(i:Nat),i<GQ (S) 4->[iI (↑(GD (S) 4 i):Int)]=[iI (↑(GD (S) 4 i):Int)],GQ (z2) k=GQ (z2) 4,∀(i:Nat),i<GQ (z2) 4->[iI (↑(GD (z2) 4 i):Int)]=[iI (↑(GD (z2) 4 i):Int)],W5,WD,z6] (leaf (GR.exit 0))))) UD ?_)
 simp only [Xd7,wI,U6.sat,HF] at hQ;simp only [U6.sat,UU,GS,H6,UX,U5,G4,HU,RW,L1,LP,HC,wI]
 have hB: ∀(p:Nat->Bool) (k:Nat),GQ p k<=k:=vI;have b1:=hB (caB n a b c U O I) k;have b2:=hB (suB n a b c U O I) k;refine ⟨λh=>?_,λh=>?_⟩;have hk:k<4:=U3;have hq: ∀(p:Nat->Bool),p k=true-> ∀j,j<GQ p (k+1)->GX (GQ p k) (λz=>[i (GD p 4 z)]) (UO 1 [i k]) j=[i (GD p 4 j)]:=by
  intro p hp j hj;rw [DV hp] at hj;exact Pt.catF1 (a:=λz=>((GD p 4 z:Nat):Int)) hj (by show (k:Int)=((GD p 4 (GQ p k):Nat):Int);rw [P2 hk hp])
 cases hc:caB n a b c U O I k<;>cases hs:suB n a b c U O I k
 ·have e1:=RF hc;have e2:=RF hs;have hc':=of_decide_eq_false hc;have hs':=of_decide_eq_false hs
  (with_reducible repeat' first|apply Al|intro _)
  all_goals first|exact B4|(first|exact absurd (by assumption) hc'|exact absurd (by assumption) hs'|exact FK (by assumption) (by simp [AV.one,Value.oneCell']))
 ·have e1:=RF hc;have e2:=DV hs;have hc':=of_decide_eq_false hc;have hs':=BI hs
  (with_reducible repeat' first|apply Al|intro _)
  all_goals first|exact B4|(first|exact absurd (by assumption) hc'|contradiction|exact FK (by assumption) (by simp [AV.one,Value.oneCell'])|exact hq _ hs _ (by assumption))
 ·have e1:=DV hc;have e2:=RF hs;have hc':=BI hc;have hs':=of_decide_eq_false hs
  (with_reducible repeat' first|apply Al|intro _)
  all_goals first|exact B4|(first|exact absurd (by assumption) hs'|contradiction|exact FK (by assumption) (by simp [AV.one,Value.oneCell'])|exact hq _ hc _ (by assumption))
 ·have e1:=DV hc;have e2:=DV hs;have hc':=BI hc;have hs':=BI hs
  (with_reducible repeat' first|apply Al|intro _)
  all_goals first|exact B4|(first|contradiction|exact FK (by assumption) (by simp [AV.one,Value.oneCell'])|exact hq _ hc _ (by assumption)|exact hq _ hs _ (by assumption))
 obtain rfl:k=4:=U3;exact VF
theorem Qt3(I:Int)(UB:sV n a b c U O):G6 U8 23 [.agg [i 4,i 10,sls n a b c U O],i I] (.branch (!bt 0 I 100) (.leaf (.tup [.x (.slice none 0 0),.x (.slice none 0 0),i 2])) (.branch (!jV n a b c U O) (.leaf (.tup [.x (.slice none 0 0),.x (.slice none 0 0),i 9])) (.leaf (.tup [.lst 1 (GQ (caB n a b c U O I) 4) (λz=>[i (GD (caB n a b c U O I) 4 z)]),.lst 1 (GQ (suB n a b c U O I) 4) (λz=>[i (GD (suB n a b c U O I) 4 z)]),i 0])))):=by
 refine HD (L:=[oS n a b c U O I]) (Ae CA (Ae (uO n a b c U O (eD n a b c U O (2^n)) (lS n a b c U O (2^n-1)) UB) Aa)) (Aj Ab Ac (Ah (uM n a b c U O UB) (UV.nil _))) UI Tryz.func23 (GF Tryz.f23) (GJ (lpE (b:= .loop Wb2) UD<|(Wj4 n a b c U O I UB).N)) (t:=let z2:=caB n a b c U O I;let S:=suB n a b c U O I;let z0:=(leaf (tup [lst 1 (GQ (z2) 4) λz=>[iI (↑(GD (z2) 4 z):Int)],lst 1 (GQ (S) 4) λz=>[iI (↑(GD (S) 4 z):Int)],iI 0]));let z3:=(lst 1 (2^n) λz=>[iI (lS n a b c U O (2^n-1) z)]);let z4:=(lst 1 (2^n) λz=>[iI (eD n a b c U O (2^n) z)]);(need [QP n a b c U O] (branch (!bt (0:Int) I (100:Int)) (branch ((2:Int) != 0) (leaf (tup [Q9,Q9,iI 2])) (need [QP n a b c U O,I=I,QO,WK,W0,(2:Int)=0,AV.x (YJ)=AV.ro [iI 4,iI 10,Q0 n a b c U O,z4,z3],W5,(0:Int)=((0:Nat):Int),0=GQ (S) 0,∀(i:Nat),i<GQ (S) 0->[]=[iI (↑(GD (S) 4 i):Int)],0=GQ (z2) 0,∀(i:Nat),i<GQ (z2) 0->[]=[iI (↑(GD (z2) 4 i):Int)],W5,WD,W7 n a b c U O] z0)) (branch (!jV n a b c U O) (branch ((9:Int) != 0) (leaf (tup [Q9,Q9,iI 9])) (need [QP n a b c U O,I=I,QO,WK,W0,(9:Int)=0,AV.x (YJ)=AV.ro [iI 4,iI 10,Q0 n a b c U O,z4,z3],W5,(0:Int)=((0:Nat):Int),0=GQ (S) 0,∀(i:Nat),i<GQ (S) 0->[]=[iI (↑(GD (S) 4 i):Int)],0=GQ (z2) 0,∀(i:Nat),i<GQ (z2) 0->[]=[iI (↑(GD (z2) 4 i):Int)],W5,WD,W7 n a b c U O] z0)) (branch ((0:Int) != 0) (leaf (tup [Q9,Q9,iI 0])) (need [QP n a b c U O,I=I,QO,WK,W0,QV,UJ (AV.ro [iI 4,iI 10,Q0 n a b c U O,z4,z3]),W5,(0:Int)=((0:Nat):Int),0=GQ (S) 0,∀(i:Nat),i<GQ (S) 0->[]=[iI (↑(GD (S) 4 i):Int)],0=GQ (z2) 0,∀(i:Nat),i<GQ (z2) 0->[]=[iI (↑(GD (z2) 4 i):Int)],W5,WD,W7 n a b c U O] z0)))))) UD ?_
 intro Q hQ;simp only [U6.sat,UU,G4] at hQ ⊢;have rn: ∀z:Int,FR (.tup [.x (.slice none 0 0),.x (.slice none 0 0),i z]) (.tup [.x (.slice none 0 0),.x (.slice none 0 0),i z]):=λz=>⟨rfl,rfl,⟨rfl,rfl⟩,Ak⟩;have rl:FR (.tup [.lst 1 (GQ (caB n a b c U O I) 4) (λz=>[i (GD (caB n a b c U O I) 4 z)]),.lst 1 (GQ (suB n a b c U O I) 4) (λz=>[i (GD (suB n a b c U O I) 4 z)]),i 0]) (.tup [.lst 1 (GQ (caB n a b c U O I) 4) (λz=>[i (GD (caB n a b c U O I) 4 z)]),.lst 1 (GQ (suB n a b c U O I) 4) (λz=>[i (GD (suB n a b c U O I) 4 z)]),i 0]):=⟨⟨rfl,rfl,λ_ _=>rfl⟩,⟨rfl,rfl,λ_ _=>rfl⟩,⟨rfl,rfl⟩,Ak⟩;cases h2:bt 0 I 100<;>cases h3:jV n a b c U O<;>rw [h2] at hQ<;>rw [h3] at hQ;all_goals (with_reducible repeat' first|apply Al|intro _)
 all_goals first
  |(exfalso;rename_i h;revert h;decide)
  |(exfalso;rename_i h _;revert h;decide)
  |(exfalso;rename_i h _ _;revert h;decide)
  |(exfalso;rename_i h _ _ _;revert h;decide)
  |rfl
  |(rename_i h;exact absurd h (Aq _))
  |exact ⟨_,rn _,hQ.1 rfl⟩
  |exact ⟨_,rn _,(hQ.2 rfl).1 rfl⟩
  |exact ⟨_,rl,(hQ.2 rfl).2 rfl⟩
def Xf5(I:Int):DX:=λl=>some (.need [l=[.agg [i 4,i 10,sls n a b c U O],i I]] (.branch (!bt 0 I 100) (.leaf (.tup [.x (.slice none 0 0),.x (.slice none 0 0),i 2])) (.branch (!jV n a b c U O) (.leaf (.tup [.x (.slice none 0 0),.x (.slice none 0 0),i 9])) (.leaf (.tup [.lst 1 (GQ (caB n a b c U O I) 4) (λz=>[i (GD (caB n a b c U O I) 4 z)]),.lst 1 (GQ (suB n a b c U O I) 4) (λz=>[i (GD (suB n a b c U O I) 4 z)]),i 0])))))
theorem s9(I:Int)(UB:sV n a b c U O):Sx.Enters Tryz.prog 23/\ ∀avs t,Xf5 n a b c U O I avs=some t->G6 U8 23 avs t:=by
 refine ⟨(UZ Tryz.func23),?_⟩;intro avs t h;cases h;intro Q hQ;have e:=hQ.1
 dsimp only [UU] at e
 subst e;exact Qt3 n a b c U O I UB Q hQ.2
end
section
variable (n:Nat)(L:Cf)
def Xf8:DX:=λl=>some (.need [l=[lns n L],ckE n L=0] (.leaf (.tup [.ro (hsL (sK L n)),.lst 1 n (exG L)])))
def Qd6:DX:=λl=>some (.need [l=[.agg (hsL (sK L n))]] (.leaf (.agg (hsL (sK L n)))))
end
theorem qD{n:Nat}{L:Cf}(h:ckE n L=0):n<=50/\ ∀k,k<n->(L k).size<=200:=by
 unfold ckE at h;split at h;rename_i h1;refine ⟨h1.1,λk hk=>?_⟩;have h2:=BI (HG.1 h1.2 k hk);omega;exact absurd h (by decide)
theorem Zu3{s:HS}(h:xV s):hsN s:=⟨by have:=h.nr;omega,by have:=h.bV.1.1;omega,by have:=h.nc;omega,by have:=h.sV.1;omega,λb hb=>by have:=(h.bV.1.2 b hb).1;omega⟩
section
variable (n:Nat)(L:Cf)
theorem zM:Sx.Enters Tryz.prog 37/\ ∀avs t,Xf8 n L avs=some t->G6 U8 37 avs t:=by
 refine ⟨(UZ Tryz.func37),?_⟩;intro avs t h;cases h;intro Q hQ;have e:avs=[lns n L]:=hQ.1.1;have h0:ckE n L=0:=hQ.1.2;subst e;have hk:=qD h0;exact mH n L hk.1 (λk h=>by have:=hk.2 k h;omega) Q hQ.2
theorem mP:Sx.Enters Tryz.prog 60/\ ∀avs t,Qd6 n L avs=some t->G6 U8 60 avs t:=by
 refine ⟨(UZ Tryz.func60),?_⟩;intro avs t h;cases h;intro Q hQ;have e:avs=[.agg (hsL (sK L n))]:=hQ.1;subst e;exact Qa1 (sK L n) (Zu3 (vY L n)) Q hQ.2
end
theorem CF(s:HS):FR (.agg (hsL s)) (.agg (hsL s)):=⟨⟨rfl,rfl,λ_ _=>rfl⟩,⟨rfl,rfl⟩,⟨rfl,rfl⟩,⟨rfl,rfl,λ_ _=>rfl⟩,⟨rfl,rfl,λ_ _=>rfl⟩,⟨rfl,rfl,λ_ _=>rfl⟩,Ak⟩
section
variable (n:Nat)(L:Cf)
abbrev Y3:Prop:=[Q8 n L]=[Q8 n L]
theorem mT(UB:n<=100):G6 U8 27 [lns n L] (.branch (ckE n L != 0) (.leaf (.tup [.agg [.x (.slice none 0 0),i 0,i 0,.x (.slice none 0 0),.x (.slice none 0 0),.x (.slice none 0 0)],.x (.slice none 0 0),i (ckE n L)])) (.leaf (.tup [.agg (hsL (sK L n)),.lst 1 n (exG L),i 0]))):=by
 refine HD (L:=[]) (Ae (LT n L U3) Aa) (Aj Ab Ac (Ah (zM n L) (Ah (mP n L) (UV.nil _)))) UI Tryz.func27 (GF Tryz.f27) GN (t:=need [(Y3 n L)] (branch (ckE n L != 0) (leaf (tup [agg YZ,Q9,iI (ckE n L)])) (need [(Y3 n L),ckE n L=0] (need [UJ ([agg (hL (sK L n))])] (leaf (tup [agg (hL (sK L n)),lst 1 n λj=>[iI (eK L j)],iI 0])))))) UD ?_;intro Q hQ;simp only [U6.sat,UU,G4,U5,FA] at hQ ⊢;refine ⟨λh=>⟨.tup [.agg [.x (.slice none 0 0),i 0,i 0,.x (.slice none 0 0),.x (.slice none 0 0),.x (.slice none 0 0)],.x (.slice none 0 0),i (ckE n L)],⟨⟨rfl,⟨rfl,rfl⟩,⟨rfl,rfl⟩,rfl,rfl,rfl,Ak⟩,rfl,⟨rfl,rfl⟩,Ak⟩,hQ.1 h⟩,λh=>?_⟩;have h0:ckE n L=0:=by simpa using h
 (with_reducible repeat' first|apply Al|intro _)
 all_goals first|exact Ak|exact h0|rfl|(exact ⟨.tup [.agg (hsL (sK L n)),.lst 1 n (exG L),i 0],⟨CF _,⟨rfl,rfl,λ_ _=>rfl⟩,⟨rfl,rfl⟩,Ak⟩,hQ.2 h⟩)
theorem mU(UB:n<=100):G6 U8 21 [lns n L] (.branch (ckE n L != 0) (.leaf (.tup [.x (.slice none 0 0),i (ckE n L)])) (.leaf (.tup [.lst 2 (boN (sK L n).nb (sK L n).ql (sK L n).qh (sK L n).qm (sK L n).qr (sK L n).qv) (λk=>[i (boL (sK L n).nb (sK L n).ql (sK L n).qh (sK L n).qm (sK L n).qr (sK L n).qv k),i (boH (sK L n).nb (sK L n).ql (sK L n).qh (sK L n).qm (sK L n).qr (sK L n).qv k)]),i (boE (sK L n).nb (sK L n).ql (sK L n).qh (sK L n).qm (sK L n).qr (sK L n).qv)]))):=by
 refine HD (L:=[]) (Ae (LT n L U3) (Ae (cL (sK L n).nb (sK L n).ql (sK L n).qh (sK L n).qm (sK L n).qr (sK L n).qv (vY L n).bV) Aa)) (Aj (Af L3 Ab) Ac (Ah (zM n L) (UV.nil _))) UI Tryz.func21 (GF Tryz.f21) GN (t:=need [(Y3 n L)] (branch (ckE n L != 0) (leaf (tup [Q9,iI (ckE n L)])) (need [(Y3 n L),ckE n L=0] (need [UJ ([agg [lst 2 3 λk=>[iI (oL k),iI (oH k)],iI 1,hY ((sK L n).nb) (sK L n)]])] (leaf (tup [lst 2 (boN ((sK L n).nb) ((sK L n).ql) ((sK L n).qh) ((sK L n).qm) ((sK L n).qr) ((sK L n).qv)) λk=>[iI (boL ((sK L n).nb) ((sK L n).ql) ((sK L n).qh) ((sK L n).qm) ((sK L n).qr) ((sK L n).qv) k),iI (boH ((sK L n).nb) ((sK L n).ql) ((sK L n).qh) ((sK L n).qm) ((sK L n).qr) ((sK L n).qv) k)],iI (boE ((sK L n).nb) ((sK L n).ql) ((sK L n).qh) ((sK L n).qm) ((sK L n).qr) ((sK L n).qv))])))))) UD ?_;intro Q hQ;simp only [U6.sat,UU,G4,U5,FA] at hQ ⊢;refine ⟨λh=>⟨.tup [.x (.slice none 0 0),i (ckE n L)],⟨rfl,⟨rfl,rfl⟩,Ak⟩,hQ.1 h⟩,λh=>?_⟩;have h0:ckE n L=0:=by simpa using h
 (with_reducible repeat' first|apply Al|intro _)
 all_goals first|exact Ak|exact h0|rfl|(exact ⟨.tup [.lst 2 (boN (sK L n).nb (sK L n).ql (sK L n).qh (sK L n).qm (sK L n).qr (sK L n).qv) (λk=>[i (boL (sK L n).nb (sK L n).ql (sK L n).qh (sK L n).qm (sK L n).qr (sK L n).qv k),i (boH (sK L n).nb (sK L n).ql (sK L n).qh (sK L n).qm (sK L n).qr (sK L n).qv k)]),i (boE (sK L n).nb (sK L n).ql (sK L n).qh (sK L n).qm (sK L n).qr (sK L n).qv)],⟨⟨rfl,rfl,λ_ _=>rfl⟩,⟨rfl,rfl⟩,Ak⟩,hQ.2 h⟩)
theorem Qx6(I:Int)(UB:n<=100):G6 U8 11 [lns n L,i I] (.branch (ckE n L != 0) (.leaf (.tup [.x (.slice none 0 0),.x (.slice none 0 0),i (ckE n L)])) (.branch (!bt 0 I 100) (.leaf (.tup [.x (.slice none 0 0),.x (.slice none 0 0),i 2])) (.branch (!jV (sK L n).ns (sK L n).sa (sK L n).sb (sK L n).sc (sK L n).sl (sK L n).sh) (.leaf (.tup [.x (.slice none 0 0),.x (.slice none 0 0),i 9])) (.leaf (.tup [.lst 1 (GQ (caB (sK L n).ns (sK L n).sa (sK L n).sb (sK L n).sc (sK L n).sl (sK L n).sh I) 4) (λz=>[i (GD (caB (sK L n).ns (sK L n).sa (sK L n).sb (sK L n).sc (sK L n).sl (sK L n).sh I) 4 z)]),.lst 1 (GQ (suB (sK L n).ns (sK L n).sa (sK L n).sb (sK L n).sc (sK L n).sl (sK L n).sh I) 4) (λz=>[i (GD (suB (sK L n).ns (sK L n).sa (sK L n).sb (sK L n).sc (sK L n).sl (sK L n).sh I) 4 z)]),i 0]))))):=by
 refine HD (L:=[]) (Ae (LT n L U3) Aa) (Aj (Af PR Ab) Ac (Ah (zM n L) (Ah (s9 (sK L n).ns (sK L n).sa (sK L n).sb (sK L n).sc (sK L n).sl (sK L n).sh I (vY L n).sV) (UV.nil _)))) UI Tryz.func11 (GF Tryz.f11) GN (t:=let z0:=(caB ((sK L n).ns) ((sK L n).sa) ((sK L n).sb) ((sK L n).sc) ((sK L n).sl) ((sK L n).sh) I);let S:=(suB ((sK L n).ns) ((sK L n).sa) ((sK L n).sb) ((sK L n).sc) ((sK L n).sl) ((sK L n).sh) I);(need [(Y3 n L)] (branch (ckE n L != 0) (leaf (tup [Q9,Q9,iI (ckE n L)])) (need [(Y3 n L),ckE n L=0] (need [UJ ([agg [iI 4,iI 10,hT ((sK L n).ns) (sK L n)],iI I])] (branch (!bt (0:Int) I (100:Int)) (leaf (tup [Q9,Q9,iI 2])) (branch (!jV ((sK L n).ns) ((sK L n).sa) ((sK L n).sb) ((sK L n).sc) ((sK L n).sl) ((sK L n).sh)) (leaf (tup [Q9,Q9,iI 9])) (leaf (tup [lst 1 (GQ z0 4) λz=>[iI (GD z0 4 z:Int)],lst 1 (GQ S 4) λz=>[iI (GD S 4 z:Int)],iI 0]))))))))) UD ?_;intro Q hQ;simp only [U6.sat,UU,G4,U5,FA] at hQ ⊢;have rn: ∀z:Int,FR (.tup [.x (.slice none 0 0),.x (.slice none 0 0),i z]) (.tup [.x (.slice none 0 0),.x (.slice none 0 0),i z]):=λz=>⟨rfl,rfl,⟨rfl,rfl⟩,Ak⟩;have rl:FR (.tup [.lst 1 (GQ (caB (sK L n).ns (sK L n).sa (sK L n).sb (sK L n).sc (sK L n).sl (sK L n).sh I) 4) (λz=>[i (GD (caB (sK L n).ns (sK L n).sa (sK L n).sb (sK L n).sc (sK L n).sl (sK L n).sh I) 4 z)]),.lst 1 (GQ (suB (sK L n).ns (sK L n).sa (sK L n).sb (sK L n).sc (sK L n).sl (sK L n).sh I) 4) (λz=>[i (GD (suB (sK L n).ns (sK L n).sa (sK L n).sb (sK L n).sc (sK L n).sl (sK L n).sh I) 4 z)]),i 0]) (.tup [.lst 1 (GQ (caB (sK L n).ns (sK L n).sa (sK L n).sb (sK L n).sc (sK L n).sl (sK L n).sh I) 4) (λz=>[i (GD (caB (sK L n).ns (sK L n).sa (sK L n).sb (sK L n).sc (sK L n).sl (sK L n).sh I) 4 z)]),.lst 1 (GQ (suB (sK L n).ns (sK L n).sa (sK L n).sb (sK L n).sc (sK L n).sl (sK L n).sh I) 4) (λz=>[i (GD (suB (sK L n).ns (sK L n).sa (sK L n).sb (sK L n).sc (sK L n).sl (sK L n).sh I) 4 z)]),i 0]):=⟨⟨rfl,rfl,λ_ _=>rfl⟩,⟨rfl,rfl,λ_ _=>rfl⟩,⟨rfl,rfl⟩,Ak⟩;refine ⟨λh=>⟨_,rn _,hQ.1 h⟩,λh=>?_⟩;have h0:ckE n L=0:=by simpa using h
 have hQ2:=hQ.2 h
 (with_reducible repeat' first|apply Al|intro _)
 all_goals first|exact Ak|exact h0|rfl|(rename_i h1;exact ⟨_,rn _,hQ2.1 h1⟩)|(rename_i h1 h2;exact ⟨_,rn _,(hQ2.2 h1).1 h2⟩)|(rename_i h1 h2;exact ⟨_,rl,(hQ2.2 h1).2 h2⟩)
end
section
variable (s:HS)
def stB(a b w d:Int)(v:Bool)(I:Int):Bool:= !v&&(decide (I>=d)&&((asE 4 100 20 30 s.nr s.ra s.rb s.ru s.rv 3 tbP tbQ s.pl s.ph 1 3 a b w I==0)&&kpB 4 100 20 30 s.nr s.ra s.rb s.ru s.rv 3 tbP tbQ s.pl s.ph 1 3 a b w I))
def stP(I:Int)(k:Nat):Bool:=stB s (s.ca k) (s.cb k) (s.cc k) (s.cd k) (s.cv k) I
theorem M5(a b w d:Int)(v:Bool)(I:Int):UH U8 38 [.agg (hsL s),.agg [i a,i b,i w,i d,bl v],i I] (bl (stB s a b w d v I)):=by
 refine GW (L:=[]) (Ae Qq3 Aa) (Aj Ab Ac (Ah (Ql4 R9) (UV.nil _))) UI Tryz.func38 (GF Tryz.f38) GN (t:=need [G0 4 s.nr λk=>[Bo.i (s.ra k),Bo.i (s.rb k),Bo.i (s.ru k),Bo.i (s.rv k)],G0 2 3 λk=>[i (tbP k),i (tbQ k)]] (branch (!v) (branch (decide (I>=d)) (branch (asE (4:Int) (100:Int) (20:Int) (30:Int) s.nr (s.ra) (s.rb) (s.ru) (s.rv) 3 tbP tbQ s.pl s.ph (1:Int) (3:Int) a b w I==0) (leaf (RV.x (.bool (kpB (4:Int) (100:Int) (20:Int) (30:Int) s.nr (s.ra) (s.rb) (s.ru) (s.rv) 3 tbP tbQ s.pl s.ph (1:Int) (3:Int) a b w I)))) (leaf (RV.x (WP)))) (leaf (RV.x (WP)))) (leaf (RV.x (WP))))) UD ?_;simp only [U6.sat,UU,GS,UX,G4];refine ⟨⟨Bo.isRec4 _ _ _ _ _,Pt.isRec2 _ _ _⟩,?_⟩;unfold stB;cases v<;>cases decide (I>=d)<;>cases (asE 4 100 20 30 s.nr s.ra s.rb s.ru s.rv 3 tbP tbQ s.pl s.ph 1 3 a b w I==0)<;>simp
def TN:GM
 |[.agg l',.agg [.x (.int .i64 a),.x (.int .i64 b),.x (.int .i64 w),.x (.int .i64 d),.x (.bool v)],.x (.int .i64 I)]=>some ([l'=hsL s],bl (stB s a b w d v I))
 |_=>none
theorem M4:UA U8 38 (TN s):=by
 refine ⟨(UZ Tryz.func38),?_⟩;intro avs ns res h hn;unfold TN at h;split at h;cases h;have e:=hn _ H0;subst e;exact M5 s _ _ _ _ _ _;cases h
end
section
variable (n:Nat)(L:Cf)(I:Int)
def Zz4:St:={σ:=[Q8 n L,iI I,top,top,Q9,iI 0,iI (ckE n L),AV.ro (hL (sK L n)),lst 1 n λj=>[iI (eK L j)]]++D6 20 [hC ((sK L n).nc) (sK L n),iI (↑((sK L n).nc):Int)]++D6 18 [],m:=[(901,YK)],nx:=902}
noncomputable def Jz1:Code:=UT (UC (UP Tryz.f9) 0)
def Wp3(k:Nat):St:={σ:=HI [(9,.row 901),(10,.top),(11,.top),(31,i k)] (Zz4 n L I).σ,m:=[(901,.row 3 1 (GQ (stP (sK L n) I) (k)) (λz=>[i (GD (stP (sK L n) I) (sK L n).nc z)]))],nx:=902}
def EW(k:Nat):GR->Option St
 | .exit 0=>some {σ:=HI [(9,.row 901),(10,.top),(11,.top),(31,i (sK L n).nc)] (Zz4 n L I).σ,m:=[(901,.row 3 1 (GQ (stP (sK L n) I) ((sK L n).nc)) (λz=>[i (GD (stP (sK L n) I) (sK L n).nc z)]))],nx:=902}
 |_=>none
def Ju3:CT:= .leaf (.exit 0,(EW n L I 0 (.exit 0)).getD (Zz4 n L I))
def Ze2:G5:=H4 [(.slot 9,901,3,1)] (D1 (Wp3 n L I (0)) (Ju3 n L I))
end
theorem VX{p:Prop}(h:p:=by
 (with_reducible repeat' first|apply Al|intro _)
 all_goals first|exact B4|(first|exact absurd (by assumption) hc'|exact FK (by assumption) (by simp [AV.one,Value.oneCell']))):p:=h
section
variable (n:Nat)(L:Cf)(I:Int)
theorem Ji7(UB:n<=100):GU U8 (.loop Jz1) (Ze2 n L I):=by
 refine GL [(.slot 9,901,3,1)] (L:=[]) (Ae (LT n L U3) (Ae BR (Ae (M4 (sK L n)) Aa))) (Aj Ab Ac (Ah (zM n L) (UV.nil _))) UI UN (X:=Nat) (Wp3 n L I) (λk=>k<=(sK L n).nc) (λk=>(sK L n).nc-k) (EW n L I) (x0:=0) UE ?_ ?_ ?_;rintro k;kernel_rfl;rintro k y E h;unfold EW at h;split at h;cases h;kernel_rfl;cases h;rintro Q hQ k hx;refine ⟨(k+1),?_⟩;(with_reducible refine F4 (t:=let z0:=(UJ (lst 1 n λj=>[iI (eK L j)]));let S:=(UJ (hC ((sK L n).nc) (sK L n)));let z2:=(UJ (↑((sK L n).nc):Int));(branch (decide ((k:Int)<(↑((sK L n).nc):Int))) (need [G7 k ((sK L n).nc)] (need [UJ (hL (sK L n))] (branch (stB (sK L n) ((sK L n).ca k) ((sK L n).cb k) ((sK L n).cc k) ((sK L n).cd k) ((sK L n).cv k) I) (need [(GQ (stP (sK L n) I) k+1)*8<=140737488355328,L0 1 (UO 1 [iI (k:Int)])] (need [U5 ((k:Int)+1)] (need [UJ (Q8 n L),I=I,Q9=Q9,QV,UJ (ckE n L),UJ (AV.ro (hL (sK L n))),z0,WK,S,z2,(k:Int)+1=(↑(k+1):Int),GQ (stP (sK L n) I) k+1=GQ (stP (sK L n) I) (k+1),∀(i:Nat),i<GQ (stP (sK L n) I) (k+1)->GX (GQ (stP (sK L n) I) k) (λz=>[iI (↑(GD (stP (sK L n) I) ((sK L n).nc) z):Int)]) (UO 1 [iI (k:Int)]) i=[iI (↑(GD (stP (sK L n) I) ((sK L n).nc) i):Int)]] (leaf GR.normal)))) (need [U5 ((k:Int)+1)] (need [UJ (Q8 n L),I=I,Q9=Q9,QV,UJ (ckE n L),UJ (AV.ro (hL (sK L n))),z0,WK,S,z2,(k:Int)+1=(↑(k+1):Int),GQ (stP (sK L n) I) k=GQ (stP (sK L n) I) (k+1),∀(i:Nat),i<GQ (stP (sK L n) I) (k+1)->[iI (↑(GD (stP (sK L n) I) ((sK L n).nc) i):Int)]=[iI (↑(GD (stP (sK L n) I) ((sK L n).nc) i):Int)]] (leaf GR.normal)))))) (need [UJ (Q8 n L),I=I,Q9=Q9,QV,UJ (ckE n L),UJ (AV.ro (hL (sK L n))),z0,WK,S,z2,(k:Int)=(↑((sK L n).nc):Int),GQ (stP (sK L n) I) k=GQ (stP (sK L n) I) ((sK L n).nc),∀(i:Nat),i<GQ (stP (sK L n) I) ((sK L n).nc)->[iI (↑(GD (stP (sK L n) I) ((sK L n).nc) i):Int)]=[iI (↑(GD (stP (sK L n) I) ((sK L n).nc) i):Int)]] (leaf (GR.exit 0))))) UD ?_)
 simp only [Ju3,EW,U6.sat,HF] at hQ;simp only [U6.sat,UU,GS,H6,UX,U5,G4,HU,RW,L1,LP,HC,EW]
 have b1:=vI (p:=stP (sK L n) I) (k:=k);have b2:=(vY L n).nc;refine ⟨λh=>?_,λh=>?_⟩;have hk:k<(sK L n).nc:=U3;have hq:stP (sK L n) I k=true-> ∀j,j<GQ (stP (sK L n) I) (k+1)->GX (GQ (stP (sK L n) I) k) (λz=>[i (GD (stP (sK L n) I) (sK L n).nc z)]) (UO 1 [i k]) j=[i (GD (stP (sK L n) I) (sK L n).nc j)]:=by
  intro hp j hj;rw [DV hp] at hj;exact Pt.catF1 (a:=λz=>((GD (stP (sK L n) I) (sK L n).nc z:Nat):Int)) hj (by show (k:Int)=((GD (stP (sK L n) I) (sK L n).nc (GQ (stP (sK L n) I) k):Nat):Int);rw [P2 hk hp])
 cases hc:stP (sK L n) I k;have e1:=RF hc;have hc': ¬(stB (sK L n) ((sK L n).ca k) ((sK L n).cb k) ((sK L n).cc k) ((sK L n).cd k) ((sK L n).cv k) I=true):=λh=>Bool.noConfusion (hc.symm.trans h);exact VX
 ·have e1:=DV hc;have hc': ¬(stB (sK L n) ((sK L n).ca k) ((sK L n).cb k) ((sK L n).cc k) ((sK L n).cd k) ((sK L n).cv k) I=false):=λh=>Bool.noConfusion (hc.symm.trans h)
  (with_reducible repeat' first|apply Al|intro _)
  all_goals first|exact B4|(first|exact absurd (by assumption) hc'|exact hq hc _ (by assumption)|exact FK (by assumption) (by simp [AV.one,Value.oneCell']))
 obtain rfl:k=(sK L n).nc:=U3;exact VF
theorem bX(UB:n<=100):G6 U8 9 [lns n L,i I] (.branch (ckE n L != 0) (.leaf (.tup [.x (.slice none 0 0),i (ckE n L)])) (.branch (!bt 0 I 10000) (.leaf (.tup [.x (.slice none 0 0),i 2])) (.leaf (.tup [.lst 1 (GQ (stP (sK L n) I) (sK L n).nc) (λz=>[i (GD (stP (sK L n) I) (sK L n).nc z)]),i 0])))):=by
 refine HD (L:=[Ze2 n L I]) (Ae (LT n L U3) (Ae BR (Ae (M4 (sK L n)) Aa))) (Aj Ab Ac (Ah (zM n L) (UV.nil _))) UI Tryz.func9 (GF Tryz.f9) (GJ (lpE (b:= .loop Jz1) UD<|(Ji7 n L I UB).N)) (t:=need [(Y3 n L)] (branch (ckE n L != 0) (leaf (tup [Q9,iI (ckE n L)])) (branch (!bt (0:Int) I (10000:Int)) (leaf (tup [Q9,iI 2])) (need [(Y3 n L),ckE n L=0] (need [UJ (Q8 n L),I=I,Q9=Q9,QV,UJ (ckE n L),UJ (AV.ro (hL (sK L n))),UJ (lst 1 n λj=>[iI (eK L j)]),WK,UJ (hC ((sK L n).nc) (sK L n)),UJ (↑((sK L n).nc):Int),(0:Int)=((0:Nat):Int),0=GQ (stP (sK L n) I) 0,∀(i:Nat),i<GQ (stP (sK L n) I) 0->[]=[iI (↑(GD (stP (sK L n) I) ((sK L n).nc) i):Int)]] (leaf (tup [lst 1 (GQ (stP (sK L n) I) ((sK L n).nc)) λz=>[iI (↑(GD (stP (sK L n) I) ((sK L n).nc) z):Int)],iI 0]))))))) UD ?_
 intro Q hQ;simp only [U6.sat,UU,G4,U5,FA] at hQ ⊢;have b2:=(vY L n).nc;have rn: ∀z:Int,FR (.tup [.x (.slice none 0 0),i z]) (.tup [.x (.slice none 0 0),i z]):=λz=>⟨rfl,⟨rfl,rfl⟩,Ak⟩;have rl:FR (.tup [.lst 1 (GQ (stP (sK L n) I) (sK L n).nc) (λz=>[i (GD (stP (sK L n) I) (sK L n).nc z)]),i 0]) (.tup [.lst 1 (GQ (stP (sK L n) I) (sK L n).nc) (λz=>[i (GD (stP (sK L n) I) (sK L n).nc z)]),i 0]):=⟨⟨rfl,rfl,λ_ _=>rfl⟩,⟨rfl,rfl⟩,Ak⟩;refine ⟨λh=>⟨_,rn _,hQ.1 h⟩,λh=>?_⟩;have h0:ckE n L=0:=by simpa using h
 have hQ2:=hQ.2 h;refine ⟨λh1=>⟨_,rn _,hQ2.1 h1⟩,λh1=>?_⟩;have hQ3:=hQ2.2 h1
 (with_reducible repeat' first|apply Al|intro _)
 all_goals first|exact Ak|exact h0|omega|rfl|(rename_i h;exact absurd h (Aq _))|exact ⟨_,rl,hQ3⟩
end
def dgI(n:Int):Int:=IntKind.u8.wrap (48+n.tmod 10)
def dg3(n:Int):ByteArray:=⟨#[UInt8.ofNat (dgI ((n.tdiv 10).tdiv 10)).toNat,UInt8.ofNat (dgI (n.tdiv 10)).toNat,UInt8.ofNat (dgI n).toNat]⟩
def dg5(n:Int):ByteArray:=⟨#[UInt8.ofNat (dgI ((((n.tdiv 10).tdiv 10).tdiv 10).tdiv 10)).toNat,UInt8.ofNat (dgI (((n.tdiv 10).tdiv 10).tdiv 10)).toNat,UInt8.ofNat (dgI ((n.tdiv 10).tdiv 10)).toNat,UInt8.ofNat (dgI (n.tdiv 10)).toNat,UInt8.ofNat (dgI n).toNat]⟩
def dgB(n m:Int):ByteArray:=if m=3 then dg3 n else dg5 n
abbrev u8(n:Int):AV:= .x (.int .u8 n)
def tpB(l c:Int):ByteArray:=(((⟨#[91]⟩++dgB l 3)++⟨#[58]⟩)++dgB c 5)++⟨#[93]⟩
def tpC(s:ByteArray)(ix:Int):Nat->Int
 | 0=>23*(ix+1)
 |k+1=>tpC s ix k+((k:Int)+2)*(DZ s k+3)
def tpK(s:ByteArray)(ix:Int):Int:=(tpC s ix s.size).tmod 99971
def rcB(s:ByteArray)(ix:Int):ByteArray:=(tpB (s.size:Int) (tpK s ix)++s)++⟨#[10]⟩
def flB(L:Cf):Nat->ByteArray
 | 0=>ByteArray.empty
 |k+1=>flB L k++rcB (L k) (k:Int)
theorem Qk8(n:Int):0<=dgI n/\dgI n<256:=by
 have h:dgI n=(48+n.tmod 10)%256:=rfl;omega
theorem xM{x:Int}(h:0<=x/\x<=1000000000):(0<=x.tdiv 10/\x.tdiv 10<=1000000000)/\0<=x.tmod 10/\x.tmod 10<=9:=by
 rw [Int.tdiv_eq_ediv_of_nonneg h.1,Int.tmod_eq_emod_of_nonneg h.1];omega
theorem by1{x:Int}(h:0<=x/\x<256):byO [u8 x]<256/\[u8 x]=[.x (.int .u8 (byO [u8 x]:Int))]:=by
 have e2:byO [u8 x]=x.toNat:=rfl;rw [e2];refine ⟨U3,?_⟩;rw [show ((x.toNat:Nat):Int)=x by omega]
section
variable (n:Int)
def Qe4:St:={σ:=mkS 24 [(1,i 3),(5,.ro [u8 (dgI ((n.tdiv 10).tdiv 10)),u8 (dgI (n.tdiv 10)),u8 (dgI n),u8 0,u8 0])],m:=[],nx:=901}
abbrev W6:AV:=AV.x (.int IntKind.u8 (0:Int))
abbrev WW:AV:=AV.x (.int IntKind.u8 (IntKind.wrap IntKind.u8 ((48:Int)+Int.tmod n (10:Int))))
abbrev XC:AV:=AV.x (.int IntKind.u8 (IntKind.wrap IntKind.u8 ((48:Int)+Int.tmod (Int.tdiv n (10:Int)) (10:Int))))
abbrev V8:AV:=AV.x (.int IntKind.u8 (dgI (Int.tdiv (Int.tdiv n (10:Int)) (10:Int))))
abbrev XF:List AV:=[V8 n,AV.x (.int IntKind.u8 (dgI (Int.tdiv n (10:Int)))),AV.x (.int IntKind.u8 (dgI n)),W6,W6]
abbrev ZA:AV:=AV.x (.int IntKind.u8 (IntKind.wrap IntKind.u8 ((48:Int)+Int.tmod (Int.tdiv (Int.tdiv n (10:Int)) (10:Int)) (10:Int))))
theorem mO(UB:0<=n/\n<=1000000000):UH U8 142 [i n,i 3] (.x (.string (dg3 n))):=by
 refine AB (L:=[(λs=>some (j8 Tryz.prog [] [] (UT (UC (UP Tryz.f142) 0)) 4 s))]) 3 [(.slot 5,0,0,1)] (Qe4 n) Aa Ad UI Tryz.func142 (GF Tryz.f142) (GJ (lpE (b:= .loop (UT (UC (UP Tryz.f142) 0))) UD<|(P0 Aa UI UN _).N)) UD (t:=let S:=(Int.tdiv (Int.tdiv n (10:Int)) (10:Int));let z0:=(need [(0:Int)<=3/\(3:Int)<=((5:Nat):Int)] (need [B7 (3:Int).toNat λi=>[Option.rec (top) (λval=>(λval=>(λx=>x) val) val) [u8 (dgI S),u8 (dgI (Int.tdiv n (10:Int))),u8 (dgI n),u8 (0:Int),u8 (0:Int)][i]?]] (leaf (RV.x (.string (bsO (3:Int).toNat λi=>[Option.rec (top) (λval=>(λval=>(λx=>x) val) val) [u8 (dgI S),u8 (dgI (Int.tdiv n (10:Int))),u8 (dgI n),u8 (0:Int),u8 (0:Int)][i]?]))))));(need [U5 ((3:Int)-1)] (branch (decide ((3:Int)-1>=(0:Int))) (need [(10:Int)≠0] (need [U5 ((48:Int)+Int.tmod n (10:Int))] (need [(0:Int)<=3-1/\(3:Int)-1<((5:Nat):Int)] (need [(10:Int)≠0,U5 (Int.tdiv n (10:Int))] (need [U5 ((3:Int)-1-1)] (branch (decide ((3:Int)-1-1>=(0:Int))) (need [(10:Int)≠0] (need [U5 ((48:Int)+Int.tmod (Int.tdiv n (10:Int)) (10:Int))] (need [(0:Int)<=3-1-1/\(3:Int)-1-1<((5:Nat):Int)] (need [(10:Int)≠0,U5 S] (need [U5 ((3:Int)-1-1-1)] (branch (decide ((3:Int)-1-1-1>=(0:Int))) (need [(10:Int)≠0] (need [U5 ((48:Int)+Int.tmod S (10:Int))] (need [(0:Int)<=3-1-1-1/\(3:Int)-1-1-1<((5:Nat):Int)] (need [(10:Int)≠0,U5 (Int.tdiv S (10:Int))] (need [U5 ((3:Int)-1-1-1-1)] (branch (decide ((3:Int)-1-1-1-1>=(0:Int))) (need [(10:Int)≠0] (need [U5 ((48:Int)+Int.tmod (Int.tdiv S (10:Int)) (10:Int))] (need [(0:Int)<=3-1-1-1-1/\(3:Int)-1-1-1-1<((5:Nat):Int)] (need [(10:Int)≠0,U5 (Int.tdiv (Int.tdiv S (10:Int)) (10:Int))] (need [U5 ((3:Int)-1-1-1-1-1)] U6.fail))))) (need [XI,AV.ro [ZA n,XC n,WW n,W6,W6]=AV.ro (XF n)] z0))))))) (need [XI,AV.ro [W6,XC n,WW n,W6,W6]=AV.ro (XF n)] z0))))))) (need [XI,AV.ro [W6,W6,WW n,W6,W6]=AV.ro (XF n)] z0))))))) (need [XI,AV.ro [W6,W6,W6,W6,W6]=AV.ro (XF n)] z0)))) UD ?_
 have q1:=xM UB;have q2:=xM q1.1;have q3:=xM q2.1;have q4:=xM q3.1;have q5:=xM q4.1;have c1:decide ((3:Int)-1>=0)=true:=by decide
 have c2:decide ((3:Int)-1-1>=0)=true:=by decide
 have c3:decide ((3:Int)-1-1-1>=0)=true:=by decide
 have c4:decide ((3:Int)-1-1-1-1>=0)=false:=by decide
 simp only [U6.sat,UU,GS,UX,G4,U5,c1,c2,c3,c4,true_imp_iff,eq_self,Bool.true_eq_false,Bw,false_imp_iff]
 (with_reducible repeat' first|apply Al|intro _)
 all_goals first|exact Ak|omega|rfl|(intro j hj;rcases (show j=0\/j=1\/j=2 by omega) with rfl|rfl|rfl<;>exact by1 (Qk8 _))|decide
def Qe3:St:={σ:=mkS 24 [(1,i 5),(5,.ro [u8 (dgI ((((n.tdiv 10).tdiv 10).tdiv 10).tdiv 10)),u8 (dgI (((n.tdiv 10).tdiv 10).tdiv 10)),u8 (dgI ((n.tdiv 10).tdiv 10)),u8 (dgI (n.tdiv 10)),u8 (dgI n)])],m:=[],nx:=901}
abbrev QL:List AV:=[AV.x (.int IntKind.u8 (dgI (Int.tdiv (Int.tdiv (Int.tdiv (Int.tdiv n (10:Int)) (10:Int)) (10:Int)) (10:Int)))),AV.x (.int IntKind.u8 (dgI (Int.tdiv (Int.tdiv (Int.tdiv n (10:Int)) (10:Int)) (10:Int)))),V8 n,AV.x (.int IntKind.u8 (dgI (Int.tdiv n (10:Int)))),AV.x (.int IntKind.u8 (dgI n))]
abbrev J9:Prop:=(5:Int)=5
abbrev KG:AV:=AV.x (.int IntKind.u8 (IntKind.wrap IntKind.u8 ((48:Int)+Int.tmod (Int.tdiv (Int.tdiv (Int.tdiv n (10:Int)) (10:Int)) (10:Int)) (10:Int))))
theorem mN(UB:0<=n/\n<=1000000000):UH U8 142 [i n,i 5] (.x (.string (dg5 n))):=by
 refine AB (L:=[(λs=>some (j8 Tryz.prog [] [] (UT (UC (UP Tryz.f142) 0)) 6 s))]) 3 [(.slot 5,0,0,1)] (Qe3 n) Aa Ad UI Tryz.func142 (GF Tryz.f142) (GJ (lpE (b:= .loop (UT (UC (UP Tryz.f142) 0))) UD<|(P0 Aa UI UN _).N)) UD (t:=let z2:=(Int.tdiv (Int.tdiv n (10:Int)) (10:Int));let S:=(Int.tdiv z2 (10:Int));let z3:=(Int.tdiv S (10:Int));let z0:=(need [(0:Int)<=5/\(5:Int)<=((5:Nat):Int)] (need [B7 (5:Int).toNat λi=>[Option.rec (top) (λval=>(λval=>(λx=>x) val) val) [u8 (dgI z3),u8 (dgI S),u8 (dgI z2),u8 (dgI (Int.tdiv n (10:Int))),u8 (dgI n)][i]?]] (leaf (RV.x (.string (bsO (5:Int).toNat λi=>[Option.rec (top) (λval=>(λval=>(λx=>x) val) val) [u8 (dgI z3),u8 (dgI S),u8 (dgI z2),u8 (dgI (Int.tdiv n (10:Int))),u8 (dgI n)][i]?]))))));(need [U5 ((5:Int)-1)] (branch (decide ((5:Int)-1>=(0:Int))) (need [(10:Int)≠0] (need [U5 ((48:Int)+Int.tmod n (10:Int))] (need [(0:Int)<=5-1/\(5:Int)-1<((5:Nat):Int)] (need [(10:Int)≠0,U5 (Int.tdiv n (10:Int))] (need [U5 ((5:Int)-1-1)] (branch (decide ((5:Int)-1-1>=(0:Int))) (need [(10:Int)≠0] (need [U5 ((48:Int)+Int.tmod (Int.tdiv n (10:Int)) (10:Int))] (need [(0:Int)<=5-1-1/\(5:Int)-1-1<((5:Nat):Int)] (need [(10:Int)≠0,U5 z2] (need [U5 ((5:Int)-1-1-1)] (branch (decide ((5:Int)-1-1-1>=(0:Int))) (need [(10:Int)≠0] (need [U5 ((48:Int)+Int.tmod z2 (10:Int))] (need [(0:Int)<=5-1-1-1/\(5:Int)-1-1-1<((5:Nat):Int)] (need [(10:Int)≠0,U5 S] (need [U5 ((5:Int)-1-1-1-1)] (branch (decide ((5:Int)-1-1-1-1>=(0:Int))) (need [(10:Int)≠0] (need [U5 ((48:Int)+Int.tmod S (10:Int))] (need [(0:Int)<=5-1-1-1-1/\(5:Int)-1-1-1-1<((5:Nat):Int)] (need [(10:Int)≠0,U5 z3] (need [U5 ((5:Int)-1-1-1-1-1)] (branch (decide ((5:Int)-1-1-1-1-1>=(0:Int))) (need [(10:Int)≠0] (need [U5 ((48:Int)+Int.tmod z3 (10:Int))] (need [(0:Int)<=5-1-1-1-1-1/\(5:Int)-1-1-1-1-1<((5:Nat):Int)] (need [(10:Int)≠0,U5 (Int.tdiv z3 (10:Int))] (need [U5 ((5:Int)-1-1-1-1-1-1)] (branch (decide ((5:Int)-1-1-1-1-1-1>=(0:Int))) (need [(10:Int)≠0] (need [U5 ((48:Int)+Int.tmod (Int.tdiv z3 (10:Int)) (10:Int))] (need [(0:Int)<=5-1-1-1-1-1-1/\(5:Int)-1-1-1-1-1-1<((5:Nat):Int)] (need [(10:Int)≠0,U5 (Int.tdiv (Int.tdiv z3 (10:Int)) (10:Int))] (need [U5 ((5:Int)-1-1-1-1-1-1-1)] U6.fail))))) (need [J9,AV.ro [AV.x (.int IntKind.u8 (IntKind.wrap IntKind.u8 ((48:Int)+Int.tmod z3 (10:Int)))),KG n,ZA n,XC n,WW n]=AV.ro (QL n)] z0))))))) (need [J9,AV.ro [W6,KG n,ZA n,XC n,WW n]=AV.ro (QL n)] z0))))))) (need [J9,AV.ro [W6,W6,ZA n,XC n,WW n]=AV.ro (QL n)] z0))))))) (need [J9,AV.ro [W6,W6,W6,XC n,WW n]=AV.ro (QL n)] z0))))))) (need [J9,AV.ro [W6,W6,W6,W6,WW n]=AV.ro (QL n)] z0))))))) (need [J9,AV.ro [W6,W6,W6,W6,W6]=AV.ro (QL n)] z0)))) UD ?_
 have q1:=xM UB;have q2:=xM q1.1;have q3:=xM q2.1;have q4:=xM q3.1;have q5:=xM q4.1;have c1:decide ((5:Int)-1>=0)=true:=by decide
 have c2:decide ((5:Int)-1-1>=0)=true:=by decide
 have c3:decide ((5:Int)-1-1-1>=0)=true:=by decide
 have c4:decide ((5:Int)-1-1-1-1>=0)=true:=by decide
 have c5:decide ((5:Int)-1-1-1-1-1>=0)=true:=by decide
 have c6:decide ((5:Int)-1-1-1-1-1-1>=0)=false:=by decide
 simp only [U6.sat,UU,GS,UX,G4,U5,c1,c2,c3,c4,c5,c6,true_imp_iff,eq_self,Bool.true_eq_false,Bw,false_imp_iff]
 (with_reducible repeat' first|apply Al|intro _)
 all_goals first|exact Ak|omega|rfl|(intro j hj;rcases (show j=0\/j=1\/j=2\/j=3\/j=4 by omega) with rfl|rfl|rfl|rfl|rfl<;>exact by1 (Qk8 _))|decide
end
def TP:GM
 |[.x (.int .i64 n),.x (.int .i64 m)]=>some ([0<=n/\n<=1000000000,m=3\/m=5],.x (.string (dgB n m)))
 |_=>none
theorem Qa0:UA U8 142 TP:=by
 refine ⟨(UZ Tryz.func142),?_⟩;intro avs ns res h hn;unfold TP at h;split at h;rename_i n m;cases h;have h1:0<=n/\n<=1000000000:=hn _ UE;have h2:m=3\/m=5:=hn _ UE;rcases h2 with rfl|rfl;exact mO n h1;exact mN n h1;cases h
theorem fC(n m:Int)(h:m=3\/m=5):((dgB n m).size:Int)=m:=by
 rcases h with rfl|rfl;rfl;rfl
theorem wD(l c:Int):(tpB l c).size=11:=by
 have h1:=fC l 3 (.inl rfl);have h2:=fC c 5 (.inr rfl);unfold tpB;simp only [Av];have e1:(⟨#[91]⟩:ByteArray).size=1:=rfl;have e2:(⟨#[58]⟩:ByteArray).size=1:=rfl;have e3:(⟨#[93]⟩:ByteArray).size=1:=rfl;omega
def Qn5:GM
 |[.agg [.x (.int .i64 l),.x (.int .i64 c)]]=>some ([0<=l/\l<=1000000000,0<=c/\c<=1000000000],.x (.string (tpB l c)))
 |_=>none
theorem mC(l c:Int)(UB:0<=l/\l<=1000000000)(UY:0<=c/\c<=1000000000):UH U8 104 [.agg [i l,i c]] (.x (.string (tpB l c))):=by
 refine GW (L:=[]) (Ae Qa0 Aa) Ad UI Tryz.func104 (GF Tryz.f104) GN (t:=need [(0:Int)<=l/\l<=1000000000,(3:Int)=3\/(3:Int)=5] (need [(↑(ByteArray.size {data:=#[91] }+ByteArray.size (dgB l (3:Int))):Int)<=9223372036854775807] (need [(↑(ByteArray.size ({data:=#[91] }++dgB l (3:Int))+ByteArray.size {data:=#[58] }):Int)<=9223372036854775807] (need [(0:Int)<=c/\c<=1000000000,(5:Int)=3\/(5:Int)=5] (need [(↑(ByteArray.size ({data:=#[91] }++dgB l (3:Int)++{data:=#[58] })+ByteArray.size (dgB c (5:Int))):Int)<=9223372036854775807] (need [(↑(ByteArray.size ({data:=#[91] }++dgB l (3:Int)++{data:=#[58] }++dgB c (5:Int))+ByteArray.size {data:=#[93] }):Int)<=9223372036854775807] (leaf (RV.x (.string ({data:=#[91] }++dgB l (3:Int)++{data:=#[58] }++dgB c (5:Int)++{data:=#[93] })))))))))) UD ?_;have h1:=fC l 3 (.inl rfl);have h2:=fC c 5 (.inr rfl);have e1:(⟨#[91]⟩:ByteArray).size=1:=rfl;have e2:(⟨#[58]⟩:ByteArray).size=1:=rfl;have e3:(⟨#[93]⟩:ByteArray).size=1:=rfl;simp only [U6.sat,UU,GS,UX,G4,Av,e1,e2,e3]
 (with_reducible repeat' first|apply Al|intro _)
 all_goals first|exact Ak|omega|rfl|exact UB|exact UY|decide
theorem mB:UA U8 104 Qn5:=by
 refine ⟨(UZ Tryz.func104),?_⟩;intro avs ns res h hn;unfold Qn5 at h;split at h;cases h;exact mC _ _ (hn _ UE) (hn _ UE);cases h
theorem CJ(s:ByteArray)(k:Nat):0<=DZ s k/\DZ s k<=255:=by
 unfold DZ;have:=(s.data.getD k 0).toNat_lt;omega
theorem LJ(A B:ByteArray)(j:Nat):DZ (A++B) j=if j<A.size then DZ A j else DZ B (j-A.size):=by
 unfold DZ;have e:(A++B).data=A.data++B.data:=ByteArray.data_append;rw [e,PF,Array.getElem?_append];have hs:A.data.size=A.size:=rfl;rw [hs];split;rw [PF];rw [PF]
theorem Xt0(A B:ByteArray)(j:Nat):GX A.size (D8 A) (D8 B) j=D8 (A++B) j:=by
 show HX (decide (j<A.size)) (D8 A j) (D8 B (j-A.size))=_;unfold D8;rw [LJ];by_cases h:j<A.size;rw [decide_eq_true h,if_pos h];rfl;rw [decide_eq_false h,if_neg h];rfl
theorem Wg2(s:ByteArray)(k:Nat)(h:k<1000):0<=((k:Int)+2)*(DZ s k+3)/\((k:Int)+2)*(DZ s k+3)<=258516:=by
 have hb:=CJ s k;refine ⟨Bz U3 U3,?_⟩;have h1:((k:Int)+2)*(DZ s k+3)<=((k:Int)+2)*258:=Int.mul_le_mul_of_nonneg_left U3 U3;omega
theorem gQ(s:ByteArray)(ix:Int)(O:0<=ix/\ix<=100000): ∀k:Nat,k<=1000->0<=tpC s ix k/\tpC s ix k<=2400000+(k:Int)*258516
 | 0,_=>by
  show 0<=23*(ix+1)/\23*(ix+1)<=_;omega
 |k+1,hk=>by
  have ih:=gQ s ix O k U3;have hm:=Wg2 s k U3;have e:tpC s ix (k+1)=tpC s ix k+((k:Int)+2)*(DZ s k+3):=rfl;rw [e];generalize ((k:Int)+2)*(DZ s k+3)=z at hm;omega
section
variable (s:ByteArray)
theorem EN(ix:Int):(rcB s ix).size=12+s.size:=by
 unfold rcB;rw [Av,Av,wD];have e1:(⟨#[10]⟩:ByteArray).size=1:=rfl;omega
theorem f7(L:Cf): ∀n,(∀k,k<n->(L k).size<=200)->(flB L n).size<=n*212
 | 0,_=>Am 0
 |n+1,h=>by
  have ih:=f7 L n λk hk=>h k U3;show (flB L n++rcB (L n) n).size<=_;rw [Av,EN];have:=h n U3;omega
abbrev Z6:AV:=lst 1 (ByteArray.size s) λj=>[AV.x (.int IntKind.u8 (DZ s j))]
abbrev YS:AV:=HP s
def Zz2(ix:Int):St:={σ:=[YS s,iI ix,top,top,ptr 0 0]++D6 7 [Z6 s,iI (ByteArray.size s:Int)]++D6 19 [],m:=[(0,H9.cells 208 JY)],nx:=9}
noncomputable def Jy8:Code:=UT (UC (UP Tryz.f103) 0)
def Wp0(ix:Int)(k:Nat):St:=(upM [(5,i (tpC s ix k)),(6,.top),(7,.top),(14,i k)] (Zz2 s ix))
def EU(ix:Int)(k:Nat):GR->Option St
 | .exit 0=>some (upM [(5,i (tpC s ix s.size)),(6,.top),(7,.top),(14,i s.size)] (Zz2 s ix))
 |_=>none
def Jt9(ix:Int):CT:= .leaf (.exit 0,(EU s ix 0 (.exit 0)).getD (Zz2 s ix))
def Zd8(ix:Int):G5:=(D1 (Wp0 s ix (0)) (Jt9 s ix))
theorem Jg5(ix:Int)(UB:s.size<=1000)(UY:0<=ix/\ix<=100000):GU U8 (.loop Jy8) (Zd8 s ix):=by
 refine D4 (L:=[]) Aa UI UN (X:=Nat) (Wp0 s ix) (λk=>k<=s.size) (λk=>s.size-k) (EU s ix) (x0:=0) UE ?_ ?_ ?_;rintro k;kernel_rfl;rintro k y E h;unfold EU at h;split at h;cases h;kernel_rfl;cases h;rintro Q hQ k hx;refine ⟨(k+1),?_⟩;(with_reducible refine F4 (t:=branch (decide ((k:Int)<(ByteArray.size s:Int))) (need [G7 k (ByteArray.size s)] (need [U5 ((k:Int)+2)] (need [U5 (DZ s k)] (need [U5 (DZ s k+3)] (need [U5 (((k:Int)+2)*(DZ s k+3))] (need [U5 (tpC s ix k+((k:Int)+2)*(DZ s k+3))] (need [U5 ((k:Int)+1)] (need [YS s=YS s,ix=ix,QO,tpC s ix k+((k:Int)+2)*(DZ s k+3)=tpC s ix (k+1),Z6 s=Z6 s,UJ (ByteArray.size s:Int),(k:Int)+1=(↑(k+1):Int),QV,QV] (leaf GR.normal))))))))) (need [YS s=YS s,ix=ix,QO,tpC s ix k=tpC s ix (ByteArray.size s),Z6 s=Z6 s,UJ (ByteArray.size s:Int),(k:Int)=(ByteArray.size s:Int),QV,QV] (leaf (GR.exit 0)))) UD ?_);simp only [Jt9,EU,U6.sat,HF] at hQ;simp only [U6.sat,UU,GS,H6,UX,U5,G4,HU,RW,L1,LP,HC,EU]
 have h1:=gQ s ix UY k U3;refine ⟨λh=>?_,λh=>?_⟩;have hk:k<s.size:=U3;have h2:=Wg2 s k U3;have h3:=CJ s k;have e0:tpC s ix (k+1)=tpC s ix k+((k:Int)+2)*(DZ s k+3):=rfl;generalize ((k:Int)+2)*(DZ s k+3)=z at h2 e0 ⊢;exact VF;obtain rfl:k=s.size:=U3;exact VF
end
def zZ:GM
 |[.x (.string s),.x (.int .i64 ix)]=>some ([s.size<=1000,0<=ix/\ix<=100000],.agg [i s.size,i (tpK s ix)])
 |_=>none
theorem tO(s:ByteArray)(ix:Int)(UB:s.size<=1000)(UY:0<=ix/\ix<=100000):UH U8 103 [.x (.string s),i ix] (.agg [i s.size,i (tpK s ix)]):=by
 refine GW (L:=[Zd8 s ix]) Aa Ad UI Tryz.func103 (GF Tryz.f103) (GJ (lpE (b:= .loop Jy8) UD<|(Jg5 s ix UB UY).N)) (t:=need [U5 (ix+1)] (need [U5 ((23:Int)*(ix+1))] (need [ByteArray.size s<=4294967296] (need [YS s=YS s,ix=ix,QO,(23:Int)*(ix+1)=tpC s ix 0,Z6 s=Z6 s,UJ (ByteArray.size s:Int),(0:Int)=((0:Nat):Int),QV,QV] (need [(99971:Int)≠0] (leaf (RV.agg [RV.x (.int .i64 (ByteArray.size s:Int)),RV.x (.int .i64 (Int.tmod (tpC s ix (ByteArray.size s)) (99971:Int)))]))))))) UD ?_
 have h1:=gQ s ix UY s.size UB;simp only [U6.sat,UU,GS,H6,UX,G4,U5];all_goals exact VM
theorem jQ:UA U8 103 zZ:=by
 refine ⟨(UZ Tryz.func103),?_⟩;intro avs ns res h hn;unfold zZ at h;split at h;cases h;exact tO _ _ (hn _ UE) (hn _ UE);cases h
section
variable (n:Nat)(L:Cf)
def Ja7:St:={σ:=[Q8 n L,top,Q9,top,top,top,Q8 n L,iI (n:Int)]++D6 16 [],m:=[(901,H9.row 5 1 0 λx=>[])],nx:=902}
noncomputable def Ka6:Code:=UT (UC (UP Tryz.f62) 0)
def Wr0(k:Nat):St:={σ:=HI [(3,.row 901),(4,.top),(5,.top),(8,i k)] (Ja7 n L).σ,m:=[(901,.row 5 1 (flB L k).size (D8 (flB L k)))],nx:=902}
def I8(k:Nat):GR->Option St
 | .exit 0=>some {σ:=HI [(3,.row 901),(4,.top),(5,.top),(8,i n)] (Ja7 n L).σ,m:=[(901,.row 5 1 (flB L n).size (D8 (flB L n)))],nx:=902}
 |_=>none
def Jw2:CT:= .leaf (.exit 0,(I8 n L 0 (.exit 0)).getD (Ja7 n L))
def Zg3:G5:=H4 [(.slot 3,901,5,1)] (D1 (Wr0 n L (0)) (Jw2 n L))
theorem Jq5(UB:n<=50)(UY: ∀k,k<n->(L k).size<=200):GU U8 (.loop Ka6) (Zg3 n L):=by
 refine GL [(.slot 3,901,5,1)] (L:=[]) (Ae jQ (Ae mB Aa)) Ad UI UN (X:=Nat) (Wr0 n L) (λk=>k<=n) (λk=>n-k) (I8 n L) (x0:=0) UE ?_ ?_ ?_;rintro k;kernel_rfl;rintro k y E h;unfold I8 at h;split at h;cases h;kernel_rfl;cases h;rintro Q hQ k hx;refine ⟨(k+1),?_⟩;(with_reducible refine F4 (t:=branch (decide ((k:Int)<(n:Int))) (need [G7 k n] (need [ByteArray.size (L k)<=1000,(0:Int)<=(k:Int)/\(k:Int)<=100000] (need [(0:Int)<=(↑(ByteArray.size (L k)):Int)/\(↑(ByteArray.size (L k)):Int)<=1000000000,(0:Int)<=tpK (L k) (k:Int)/\tpK (L k) (k:Int)<=1000000000] (need [(↑(ByteArray.size (tpB (↑(ByteArray.size (L k)):Int) (tpK (L k) (k:Int)))+ByteArray.size (L k)):Int)<=9223372036854775807] (need [(↑(ByteArray.size (tpB (↑(ByteArray.size (L k)):Int) (tpK (L k) (k:Int))++L k)+ByteArray.size {data:=#[10] }):Int)<=9223372036854775807] (need [ByteArray.size (flB L k)+ByteArray.size (tpB (↑(ByteArray.size (L k)):Int) (tpK (L k) (k:Int))++L k++{data:=#[10] })<=140737488355328] (need [U5 ((k:Int)+1)] (need [UJ (Q8 n L),Q9=Q9,WK,UJ (Q8 n L),UJ (n:Int),(k:Int)+1=(↑(k+1):Int),ByteArray.size (flB L k)+ByteArray.size (tpB (↑(ByteArray.size (L k)):Int) (tpK (L k) (k:Int))++L k++{data:=#[10] })=ByteArray.size (flB L (k+1)),∀(i:Nat),i<ByteArray.size (flB L (k+1))->GX (ByteArray.size (flB L k)) (D8 (flB L k)) (D8 (tpB (↑(ByteArray.size (L k)):Int) (tpK (L k) (k:Int))++L k++{data:=#[10] })) i=D8 (flB L (k+1)) i] (leaf GR.normal))))))))) (need [UJ (Q8 n L),Q9=Q9,WK,UJ (Q8 n L),UJ (n:Int),(k:Int)=(n:Int),ByteArray.size (flB L k)=ByteArray.size (flB L n),∀(i:Nat),i<ByteArray.size (flB L n)->D8 (flB L k) i=D8 (flB L n) i] (leaf (GR.exit 0)))) UD ?_);simp only [Jw2,I8,U6.sat,HF] at hQ;simp only [U6.sat,UU,GS,H6,UX,U5,G4,HU,RW,L1,LP,HC,I8]
 have h1:=f7 L k λj hj=>UY j U3;refine ⟨λh=>?_,λh=>?_⟩
 ·have hk:k<n:=U3;have h2:=UY k hk;have h3:=gQ (L k) k U3 (L k).size U3;have h4:tpK (L k) k=(tpC (L k) k (L k).size)%99971:=Int.tmod_eq_emod_of_nonneg h3.1;have h5:0<=tpK (L k) k/\tpK (L k) k<99971:=U3;have h6:=EN (L k) k;have h7:=wD ((L k).size:Int) (tpK (L k) k);have e0:(flB L (k+1)).size=(flB L k).size+(rcB (L k) k).size:=Av;have e1:(⟨#[10]⟩:ByteArray).size=1:=rfl;have e2:(tpB ((L k).size:Int) (tpK (L k) k)++L k).size=11+(L k).size:=by rw [Av,h7]
  have e3:(tpB ((L k).size:Int) (tpK (L k) k)++L k++⟨#[10]⟩).size=12+(L k).size:=h6;have hq: ∀j,GX (flB L k).size (D8 (flB L k)) (D8 (tpB ((L k).size:Int) (tpK (L k) k)++L k++⟨#[10]⟩)) j=D8 (flB L (k+1)) j:=λj=>Xt0 _ (rcB (L k) k) j
  (with_reducible repeat' first|apply Al|intro _)
  all_goals first|exact B4|(first|exact hq _|(rw [e2,e1];omega)|(rw [e3];omega)|(rw [h7];omega))
 obtain rfl:k=n:=U3;exact VF
theorem Wu9(UB:n<=50)(UY: ∀k,k<n->(L k).size<=200):UH U8 62 [lns n L] (.lst 1 (flB L n).size (D8 (flB L n))):=by
 refine GW (L:=[Zg3 n L]) (Ae jQ (Ae mB Aa)) Ad UI Tryz.func62 (GF Tryz.f62) (GJ (lpE (b:= .loop Ka6) UD<|(Jq5 n L UB UY).N)) (t:=need [UJ (Q8 n L),Q9=Q9,WK,UJ (Q8 n L),UJ (n:Int),(0:Int)=((0:Nat):Int),0=ByteArray.size (flB L 0),∀(i:Nat),i<ByteArray.size (flB L 0)->[]=D8 (flB L 0) i] (leaf (RV.lst 1 (ByteArray.size (flB L n)) λj=>[AV.x (.int IntKind.u8 (DZ (flB L n) j))]))) UD ?_
 simp only [U6.sat,UU,GS,H6,UX,G4,U5];have hx: ∀k,∀a∈D8 (flB L n) k,isX a:=λk a ha=>by rw [BE.1 ha];exact Ak
 (with_reducible repeat' first|apply Al|intro _)
 all_goals first|exact Ak|omega|rfl|(rename_i h;exact absurd h (Aq _))|exact hx _ _ (by assumption)|decide
def Xg1:GM:=λl=>some ([l=[lns n L],ckE n L=0],.lst 1 (flB L n).size (D8 (flB L n)))
theorem SR:UA U8 62 (Xg1 n L):=by
 refine ⟨(UZ Tryz.func62),?_⟩;intro avs ns res h hn;cases h;have e:avs=[lns n L]:=hn _ UE;have h0:ckE n L=0:=hn _ UE;subst e;have hk:=qD h0;exact Wu9 n L hk.1 hk.2
theorem SX(UB:n<=100):G6 U8 32 [lns n L] (.branch (ckE n L != 0) (.leaf (.tup [.x (.slice none 0 0),i (ckE n L)])) (.leaf (.tup [.lst 1 (flB L n).size (D8 (flB L n)),i 0]))):=by
 refine HD (L:=[]) (Ae (LT n L U3) (Ae (SR n L) Aa)) Ad UI Tryz.func32 (GF Tryz.f32) GN (t:=need [(Y3 n L)] (branch (ckE n L != 0) (leaf (tup [Q9,iI (ckE n L)])) (need [(Y3 n L),ckE n L=0] (leaf (tup [lst 1 (ByteArray.size (flB L n)) λj=>[AV.x (.int IntKind.u8 (DZ (flB L n) j))],iI 0]))))) UD ?_;intro Q hQ;simp only [U6.sat,UU,G4,U5,FA] at hQ ⊢;refine ⟨λh=>⟨.tup [.x (.slice none 0 0),i (ckE n L)],⟨rfl,⟨rfl,rfl⟩,Ak⟩,hQ.1 h⟩,λh=>?_⟩;have h0:ckE n L=0:=by simpa using h
 (with_reducible repeat' first|apply Al|intro _)
 all_goals first|exact Ak|exact h0|rfl|(exact ⟨.tup [.lst 1 (flB L n).size (D8 (flB L n)),i 0],⟨⟨rfl,rfl,λ_ _=>rfl⟩,⟨rfl,rfl⟩,Ak⟩,hQ.2 h⟩)
end
open Go Go.Sx Go.RowKit Go.ChangeShapes Go.WideShapes Go.ChangeAt
abbrev Qi2:List (String×DataW Unit):=Rows.headVoidRow.laid
theorem rowWrap{H:Type}{enc:TypeId×Value->H}{a:Assume}{C:Checked}{os:Os}{f:FuncId}{fn:Func}{s:ChangeSpec}{conds:List PathCond}{apart fresh CH again:Bool}{laid:List (String×DataW Unit)}
  (own:ownKnob C.prog.godebug=none)(started:os.Started)(noInit:C.prog.inits.idxOf? f=none)(hfn:C.prog.funcs[f]? =some fn)
  (witness: ∃(w:World) (tape:Tape) (i:Input),w.os=os/\(w.forCall tape i).Shaped C.prog/\i.vars=[]/\Input.okWide C.prog (w.forCall tape i) .any w.heap.size f i/\
   ((s.pre enc C.prog fn conds apart (w.forCall tape i).memory i.args/\laidMetH C.prog laid (w.forCall tape i).memory)/\sizedMet enc C.prog fn (OpenSpec.ofChange s) apart (w.forCall tape i).memory i.args)/\a.holds C.prog (lone (Frame.enter C.prog f i.args .normal) [] (w.forCall tape i)))
  (contract: ∀(W:World) (base:Nat) (args:Array Value) (ds gs:List (DataW H)) (before:List MemPlace),
   (∀(j:Nat) t v,fn.params[j]? =some t->args[j]? =some v->Value.okWide C.prog W .any base t v)->
   DataW.Whole enc C.prog fn.params.toList s.vars apart W args.toList ds gs before->
   (DataW.weightsEach C.prog (fn.params.toList++s.plain.varTypes C.prog) (ds++gs)).all (· <=reachBytes)=true->laidMetH C.prog laid W->W.ShapedOpen C.prog->
   Calls C.prog f args W λe W'=> ∃v,e= .returned v/\s.post enc C.prog fn apart fresh CH again W args v W'):
  ReturnsInHanded a C os f .any (λw args=>(s.pre enc C.prog fn conds apart w args/\laidMetH C.prog laid w)/\sizedMet enc C.prog fn (OpenSpec.ofChange s) apart w args) (s.post enc C.prog fn apart fresh CH again):=by
 refine returnsInHanded_of_calls own started noInit witness ?_;intro w tape i _ hsh _ hok dS _;obtain ⟨_,_,_,fn',hfn',_,_,_,_,OB⟩:=hok;obtain rfl:fn'=fn:=Bb (hfn'.symm.trans hfn);obtain ⟨⟨⟨ds,gs,before,hw,_⟩,hl⟩,hz⟩:=dS;refine (contract (w.forCall tape i) w.heap.size i.args ds gs before OB (DataW.Whole.of_heap (w':=w.forCall tape i) (by rfl) hw) (hz.weights hw) (hl.of_heap (by rfl)) hsh).mono λe W' ⟨v,he,I⟩=>?_
 subst he;exact ChangeSpec.post_blind I
theorem own0:ownKnob Tryz.prog.godebug=none:=UD
theorem Za1: "*"++ "errors.errorString"= "*errors.errorString":=by decide
theorem Wi4(u:TypeId)(h:Tryz.prog.typeName? 3 u=some "*errors.errorString"):u=355:=
 typeName_ptr_named (nm:= "errors.errorString") (by rw [Za1];kernel_rfl) UD (by decide) u (by rw [Za1];exact h)
theorem gR:Tryz.prog.globalNamed "strconv.ErrRange"=some 3:=UD
theorem gS:Tryz.prog.globalNamed "strconv.ErrSyntax"=some 2:=UD
theorem gT:Tryz.prog.globalNamed "internal/strconv.uint64pow10"=some 0:=UD
theorem Zr1{W:World}(h:laidMet Tryz.prog Qi2 W):Lib.TabIs Tryz.prog W "internal/strconv.uint64pow10" .u64 Lib.pow10Tab:=
 Lib.tabIs_of_head (g:=0) (t:=328) (e:=181) (n:=20) gT UD Tryz.underlying328 Tryz.underlying181 UD UD (laidMet.tail (laidMet.tail h))
theorem jY{W:World}{n:String}{g:Nat}{c:Array Value}{zero:Array Value}{t:TypeId}(hg:Tryz.prog.globalNamed n=some g)(hv:W.var? Tryz.prog n=some c): ∃t fr,W.heap[g]? =some (.cells c t fr):=by
 unfold World.var? at hv;rw [hg] at hv
 dsimp only [Option.bind] at hv
 cases ho:W.heap[g]? with
 |none=>simp [ho] at hv
 |some o=>
  cases o<;>simp [ho] at hv;exact ⟨_,_,by rw [hv]⟩
theorem glob_of{W:World}(h:laidMetH Tryz.prog Qi2 W)(hsh:W.ShapedOpen Tryz.prog):DQ (kM W) W:=by
 have hL:laidMet Tryz.prog Qi2 W:=by
  have h1:=h;rw [MakeChecks.laidMetH_plain _ _ _ UD] at h1;exact h1
 obtain ⟨aR,sR,vR,_⟩:=laid_sentinel (laidMet.tail (laidMet.tail (laidMet.tail (laidMet.tail hL)))) gR UD Tryz.underlying107 Wi4 Tryz.underlying355 Tryz.underlying357 rfl rfl Tryz.underlying9 UD UD;obtain ⟨aS,sS,vS,_⟩:=laid_sentinel (laidMet.tail (laidMet.tail (laidMet.tail (laidMet.tail (laidMet.tail hL))))) gS UD Tryz.underlying107 Wi4 Tryz.underlying355 Tryz.underlying357 rfl rfl Tryz.underlying9 UD UD;have vT:=Zr1 hL;obtain ⟨tR,fR,hR⟩:=jY (zero:=#[]) (t:=0) gR vR;obtain ⟨tS,fS,hS⟩:=jY (zero:=#[]) (t:=0) gS vS;obtain ⟨tT,fT,hT⟩:=jY (zero:=#[]) (t:=0) gT vT;obtain ⟨cs,hM,A,hok⟩:=hsh.1 1 #[.int .i64 0] 3 (BI UD) UD;obtain ⟨ts,hts,_,DM⟩:=hok UD;have hts':Tryz.prog.cellTypes Tryz.prog.depth 3=some [3]:=UD;rw [hts'] at hts;cases hts;have h1:0<cs.size:=by rw [A];decide
 obtain ⟨u,hu,hc⟩:=DM 0 cs[0] (by simp [h1])
 obtain rfl:u=3:=by simpa using hu.symm
 have hm: ∃m,cs=#[.int .i64 m]:=by
  unfold Cell.ok at hc;rw [Tryz.underlying3] at hc;have hsz':cs.size=1:=A;have e:cs=#[cs[0]]:=by
   apply Array.ext;simp [hsz'];intro j a1 a2;have:j=0:=by simp at a2;omega
   subst this;rfl
  cases hv:cs[0] with
  |int k m=>
   rw [hv] at hc;have hk:k= .i64:=by
    have h9:=hc;simp at h9;exact h9.1
   subst hk;exact ⟨m,by rw [e,hv]⟩
  |_=>rw [hv] at hc;simp at hc
 obtain ⟨m,rfl⟩:=hm;have lt: ∀{g:Nat} {o:Obj},W.heap[g]? =some o->g<W.heap.size:=λh=>(B1.1 h).1;intro b p I
 match b,I with
 | 0,I=>cases I;exact ⟨lt hT,lt hT,_,hT,rfl,_,_,rfl⟩
 | 1,I=>cases I;exact ⟨lt hM,lt hM,_,hM,rfl,_,_,_,rfl⟩
 | 2,I=>cases I;exact ⟨lt hS,lt hS,_,hS,rfl,_,_,_,_,rfl⟩
 | 3,I=>cases I;exact ⟨lt hR,lt hR,_,hR,rfl,_,_,_,_,rfl⟩
 |b+4,I=>cases I
def Jm2:DataW Unit->List Value
 | .agg l=>l.map λ
  | .lit (.int k n)=> .int k n
  |_=> .nilIface
 |_=>[]
noncomputable def Js0(os:Os):World:={World.doorLaid Tryz.prog 68 os with heap:=(World.doorLaid Tryz.prog 68 os).heap.modify 6 λ
 | .cells _ t fr=> .cells (Jm2 Go.Pinned.utf8First).toArray t fr
 |o=>o}
theorem Jr9(os:Os)(args:Array Value):laidMetH Tryz.prog Qi2 (((Js0 os).forCall (λ_ _=>0) ⟨#[],args,[]⟩).memory):=
 laidMetH_of_parts3 (fuel:=8) (laidMet_of_run' 8 UD UD) UD UD
end Go.Proofs.YtakpdkmhclhlnaaGreatDoor.Hd
namespace Go.Sx
open Go Go.RowKit
theorem uB{P:Program}{fn:Func}{R:Ending->World->Prop}{M:Nat->Prop}{w0:World}{e:G8}{s:St}{tmps:Array Value}{n:Nat}{Z:World->Prop}(hB: ∀D,M D->w0.heap.size<=D)
  (hZ: ∀(w:World) D,M D->w.heap[D]? =some (.deferred (some []))->Z w->Z (w.putObj D (.deferred none)))
  (fin: ∀w',Z w'->GK e w0.heap.size w'->Below w0.heap.size w0 w'->GH e s.m w'->UM e w' s.σ tmps.toList-> ∃v,(results fn tmps).run P w'= .ok v w'/\R (.returned v) w'):
  ∀(ds:List Deferred) (w:World),Z w->NT M e w ds->GK e w0.heap.size w->Below w0.heap.size w0 w->GH e s.m w->UM e w s.σ tmps.toList->LeavesInM (fr none) n P fn tmps R ds .returning w
 |[],w,z,_,hE,hb,hm,hs=>fin w z hE hb hm hs
 |d::ds,w,z,hd,hE,hb,hm,hs=>by
  obtain ⟨D,h1,h2,h3,h4,h5⟩:=hd.1 d H0;refine ⟨UE,.inl ⟨D,_,by rw [h1],run_takeDeferred h4,?_⟩⟩
  have HQ:=(hE.apart D h2).1;have A:(w.putObj D (.deferred none)).heap.size=w.heap.size:=World.putObj_size;refine uB hB hZ fin ds _ (hZ w D h5 h4 z) ⟨λd' hd'=>?_,(List.nodup_cons.1 hd.2).2⟩ ⟨λb hb=>by rw [A];exact hE.apart b hb,λb k hk=>by rw [A];exact hE.owned b k hk,CI hE.glob h4 rfl⟩ ?_ (λp I=>(hm p I).putObj h4 (λ_ _ h=>by cases h) rfl rfl HQ) (hs.sameCells A (LW h4 rfl rfl) (PP h4 (λ_ _ h=>by cases h)))
  obtain ⟨D',k1,k2,k3,k4,k5⟩:=hd.1 d' (DB _ hd');have hne:D'≠D:=by
   rintro rfl;exact (List.nodup_cons.1 hd.2).1 (by rw [h1,←k1];exact hd')
  exact ⟨D',k1,k2,by rw [A];exact k3,(Bu hne).trans k4,k5⟩
  exact hb.trans ((Below.refl w0.heap.size w).grown (grownBy_putObj' w D _) (by have:=hb.size;have:=hB D h5;omega) (λk he=>by cases he;exact hB D h5))
theorem tM{P:Program}{G:List (Nat×Spec)}{X:Ext}{L:List G5}{f:FuncId}{fn:Func}{c:Code}(hG:U4 P G)(hX: ∀cx,UG P X cx)(HE:P.follows .mixedOrders=true)(PQ:Enters P f)(hf:P.funcs[f]? =some fn)(hb:fn.body=some c)
  (hL: ∀j cj,UC c j=some cj-> ∀sp,L[j]? =some sp->D3 P cj sp):GT P f (vP P G X L fn c):=by
 refine ⟨PQ,?_⟩;intro avs m nx sv t S Q hQ cx w0 T e ds args w hE hB hm hl L8 hxt hr;unfold vP at S;cases S
 let K':Nat->Obj->Prop:=λb o=>cx.K b o\/(∃d∈ds,d={target:= .collected b,args:=#[] }/\o= .deferred (some []))
 let cx':Cx:={M:=λD=>w.heap.size<=D,Φ:=λg T' w'=>g=none/\T'=T/\w'=w0,K:=K',saved:=cx.saved,sz:=w.heap.size}
 have hK': ∀b o,K' b o->e.ro b/\b<w.heap.size/\w.heap[b]? =some o:=by
  rintro b o (hk|⟨d,hd,h1,rfl⟩);exact hxt.kept b o hk;obtain ⟨D,g1,g2,g3,g4,g5⟩:=hxt.defers.1 d hd;rw [h1] at g1;injection g1 with g1 _
  injection g1 with g1
  subst g1;exact ⟨g2,g3,g4⟩
 have R0:(DR P G X L c 0 {D5 fn avs with m:=m,nx:=nx,sv:=sv}).sat (λp=>(∀i,p.1≠ .exit i)/\p.2.gh=p.2.gh/\ ∃r,qH P p.2 fn.results.toList=some r/\Q (r,p.2.m,p.2.nx,p.2.sv)):=by
  refine U6.sat_mono ?_ (U6.sat_bind hQ);rintro ⟨x,s⟩ hs;cases x with
  |exit i=>exact hs.elim
  |normal=>
   simp only at hs;split at hs;rename_i r hr;exact ⟨λi h=>(by cases h),rfl,r,hr,hs⟩
   exact hs.elim
  |ret=>
   simp only at hs;split at hs;rename_i r hr;exact ⟨λi h=>(by cases h),rfl,r,hr,hs⟩
   exact hs.elim
 have kK:Rel cx' {D5 fn avs with m:=m,nx:=nx,sv:=sv} {tmps:=args.toArray++Array.replicate (fn.ntmps-args.toArray.size) undef,defers:=[] } w:=by
  refine ⟨w0,T,e,⟨rfl,rfl,rfl⟩,hE,hB,hm,hl,L8,⟨⟨(λd hd=>by cases hd),By⟩,hK',hxt.saved,Am _⟩,?_⟩
  have rJ:UM e w (List.replicate (fn.ntmps-avs.length) .top) (List.replicate (fn.ntmps-avs.length) undef):=by
   refine ⟨UE,λi a v ha _=>?_⟩;have:=FN ha;rw [List.mem_replicate] at this;rw [this.2];exact .top v
  have:=hr.append rJ;simpa [D5,hr.1] using this
 have hfn:cx'.fun:=λg T' w1 D _ _ h=>h;refine callsIn_wide (n:=0).1 (callsIn_of_wp_marks (F:=fr none) hf hb trivial (wpIn_mono (DN hG (hX cx') HE c 0 _ _ _ w (λj cj hj sp hsp=>hL j cj hj sp (by simpa using hsp) cx' hfn) R0 kK) ?_) rfl)
 rintro ex a' w' ⟨x,s',rfl,⟨hx,_,r,FL,hq⟩,w0',T',e',⟨_,rfl,rfl⟩,re⟩;have jS:LeavesInM (fr none) 0 P fn a'.tmps (λen w'=> ∃v r m' nx' sv' e',en= .returned v/\Q (r,m',nx',sv')/\GK e' w0'.heap.size w'/\Below w0'.heap.size w0' w'/\GH e' m' w'/\(∀k,e'.live k->k<nx')/\
   (∀b,T' b->b<w0'.heap.size/\ ¬e'.ro b)/\Xt cx e' sv' ds w'/\Rep e' w' r v) a'.defers .returning w':=by
  refine uB (M:=cx'.M) (s:=s') (Z:=λw2=>(∀b o,K' b o->e'.ro b/\b<w2.heap.size/\w2.heap[b]? =some o)/\LM e' w2 s'.sv cx.saved/\w.heap.size<=w2.heap.size) (λD hD=>Ar hB.size hD) ?_ ?_ a'.defers w' ⟨re.xt.kept,re.xt.saved,re.xt.size⟩ re.xt.defers re.env re.below re.mem re.slots;rintro w2 D hD h4 ⟨z1,z2,z3⟩;have A:(w2.putObj D (.deferred none)).heap.size=w2.heap.size:=World.putObj_size;refine ⟨λb o hk=>?_,⟨z2.1,λi a v ha hv=>(z2.2 i a v ha hv).sameCells A (LW h4 rfl rfl) (PP h4 (λ_ _ h=>by cases h))⟩,by rw [A];exact z3⟩
  obtain ⟨k1,k2,k3⟩:=z1 b o hk;have hb:=(hK' b o hk).2.1;have hD:w.heap.size<=D:=hD;exact ⟨k1,by rw [A];exact k2,(Bu U3).trans k3⟩
  rintro w2 ⟨z1,z2,z3⟩ q1 q2 q3 q4;obtain ⟨u,hu,H5⟩:=F0 (P:=P) q3 q4 FL;refine ⟨u,hu,u,r,s'.m,s'.nx,s'.sv,e',rfl,hq,q1,q2,q3,re.live,re.foe,⟨⟨λd hd=>?_,hxt.defers.2⟩,λb o hk=>z1 b o (.inl hk),z2,Ar hxt.size z3⟩,H5⟩;obtain ⟨D,g1,g2,g3,g4,g5⟩:=hxt.defers.1 d hd;obtain ⟨k1,k2,k3⟩:=z1 D (.deferred (some [])) (.inr ⟨d,hd,g1,rfl⟩);exact ⟨D,g1,k1,k2,k3,g5⟩
 cases x with
 |normal=>exact jS
 |ret=>exact jS
 |exit i=>exact (hx i rfl).elim
end Go.Sx
namespace Go.Proofs.YtakpdkmhclhlnaaGreatDoor.Hd
open Go Go.Sx Go.RowKit
open Go.Sx.U6 (need branch leaf)
open Go.Sx.AV (lst ptr agg roI tup top)
def lsN:AV->Nat
 | .lst _ n _=>n
 |_=>0
section
variable (a:AV)(j k:Nat)
def lsF:AV:=match a with
 | .lst _ _ f=>(f k).getD j .top
 |_=> .top
def lsI:Int:=match lsF a j k with
 | .x (.int .i64 v)=>v
 |_=>0
def lsB:Bool:=match lsF a j k with
 | .x (.bool v)=>v
 |_=>false
end
def avI:AV->Int
 | .x (.int .i64 v)=>v
 |_=>0
def sOf(l:List AV):HS:=match l with
 |[r,a,b,t,c,s]=>{nr:=lsN r,ra:=lsI r 0,rb:=lsI r 1,ru:=lsI r 2,rv:=lsI r 3,pl:=avI a,ph:=avI b,nb:=lsN t,ql:=lsI t 0,qh:=lsI t 1,qm:=λk=>lsN (lsF t 2 k),qr:=λk=>lsI (lsF t 2 k) 0,qv:=λk=>lsI (lsF t 2 k) 1,nc:=lsN c,ca:=lsI c 0,cb:=lsI c 1,cc:=lsI c 2,cd:=lsI c 3,cv:=lsB c 4,ns:=lsN s,sa:=lsI s 0,sb:=lsI s 1,sc:=lsI s 2,sl:=lsI s 3,sh:=lsI s 4,xn:=0,xg:=λ_=>[],yn:=0,yg:=λ_=>[] }
 |_=>hs0
theorem Xl8(s:HS):sOf (hsL s)=hsX s 0 (λ_=>[]) 0 (λ_=>[]):=rfl
theorem t8(str:ByteArray)(s:HS):lnE str (sOf (hsL s))=lnE str s:=gU _ _ _ _ _ _ _
theorem Wh9{s:HS}(h:xV s):xV (sOf (hsL s)):=tU h _ _ _ _
def CP(r t:Nat):DK:=λavs m nx sv=>match avs with
 |[.ptr q 0,.x (.string str)]=>match DY m q with
  |some (.cells T l)=>match DY m r with
   |some (.row T1 sz1 n1 f1)=>match DY m t with
    |some (.row T2 sz2 n2 f2)=>match Nat.beq T 99&&Nat.beq T1 23&&Nat.beq T2 9&& !Nat.beq q r&& !Nat.beq q t&& !Nat.beq r t with
     |true=>some (.needT [str.size<100000,l=hsL (sOf l),xV (sOf l),sz1=1,sz2=1,∀i,i<n1-> ∀a∈f1 i,∃u,a= .x u,∀i,i<n2-> ∀a∈f2 i,∃u,a= .x u] (.leaf (.x (.int .i64 (lnE str (sOf l))),[(q,.cells 99 (hsL (lnS str (sOf l)))),(r,.row 23 1 n1 f1),(t,.row 9 1 n2 f2)],nx,sv)))
     |false=>none
    |_=>none
   |_=>none
  |_=>none
 |_=>none
theorem dH(r t:Nat):GT U8 63 (CP r t):=by
 refine ⟨(UZ Tryz.func63),?_⟩;intro avs m nx sv tr S Q hQ cx w0 T e ds args w hE hB hm hlv L8 hxt hr;unfold CP at S;split at S;rename_i q str;split at S;rename_i T0 l h1;split at S;rename_i T1 sz1 n1 f1 h2;split at S;rename_i T2 sz2 n2 f2 h3;split at S;rename_i hb;simp only [HV] at hb;obtain ⟨⟨⟨⟨⟨hb1,hb2⟩,hb3⟩,hb4⟩,hb5⟩,hb6⟩:=hb;obtain rfl:=HK hb1;obtain rfl:=HK hb2;obtain rfl:=HK hb3;have hqr:q≠r:=by
  rintro rfl;simp at hb4
 have hqt:q≠t:=by
  rintro rfl;simp at hb5
 have hrt:r≠t:=by
  rintro rfl;simp at hb6
 cases S;obtain ⟨hn,hq⟩:=U6.sat_needT hQ;have hn:=GY hn;have e0:str.size<100000:=hn _ UE;have e1:l=hsL (sOf l):=hn _ UE;have e2:xV (sOf l):=hn _ UE;have e3:sz1=1:=hn (sz1=1) UE;have e4:sz2=1:=hn (sz2=1) UE;have e5: ∀i,i<n1-> ∀a∈f1 i,∃u,a= .x u:=hn _ UE;have e6: ∀i,i<n2-> ∀a∈f2 i,∃u,a= .x u:=hn _ UE;subst e3 e4;generalize hs0:sOf l=s at e1 e2 hq;subst e1;obtain ⟨v0,l1,rfl,r1,hr⟩:=hr.cons_inv;obtain ⟨v1,l2,rfl,r2,hr⟩:=hr.cons_inv;obtain rfl:=hr.nil_inv;obtain rfl:=r2.x_inv;have hv0:v0= .pointer (some ⟨e.blk q,0,none⟩):=by cases r1;rfl
 subst hv0;have hQ0:=hm _ (GI h1);have hR0:=hm _ (GI h2);have hT0:=hm _ (GI h3);have h:=SG str e0;have hs:=tU e2 n1 n2 f1 f2;refine (Wm8 h hs hE hB L8 hQ0 hR0 hT0 hqr hqt hrt (yX hR0) (yX hT0) e5 e6).mono ?_;rintro en w' ⟨rfl,g1,g2,g3,ro1,g4,g5,g6,g7,g8,g9⟩;have st:Step e {e with ro:=ro1,own:=LN e q r t} w w':=⟨λb _ hb=>⟨g4 b hb,g3 b hb⟩,λk hk=>⟨hk,rfl,rfl⟩,g2⟩
 rw [gU,aB] at g7;have g7:H2 {e with ro:=ro1,own:=LN e q r t} w' q (.cells 99 (hsL (lnS str s))):=by
  unfold lnS lnE;by_cases h0:PC (lnW str) (lnN str) s=0;rw [if_pos h0] at g7 ⊢;exact g7;rw [if_neg h0] at g7 ⊢;exact g7
 rw [gU];refine ⟨_,_,_,_,_,{e with ro:=ro1,own:=LN e q r t},rfl,hq,g6,g1,?_,hlv,λb hb=>⟨(L8 b hb).1,g5 b hb⟩,hxt.step st,.x _⟩
 intro p I;simp only [HA,F8,or_false] at I;rcases I with rfl|rfl|rfl;exact g7;exact g8;exact g9;cases S;cases S;cases S;cases S;cases S
open Go Go.Shelf Go.Sx Go.RowKit
theorem yJ{n:Int}(h:0<=n/\n<=1000000):(UInt8.ofNat (dgI n).toNat).toNat=48+(n%10).toNat:=by
 have e:dgI n=(48+n.tmod 10)%256:=rfl;rw [Int.tmod_eq_emod_of_nonneg h.1] at e;have h1:(dgI n).toNat=48+(n%10).toNat:=U3;rw [h1,UInt8.toNat_ofNat_of_lt' (by show _<256;omega)]
theorem Qr7{x:Int}(h:0<=x):x.tdiv 10=x / 10:=Int.tdiv_eq_ediv_of_nonneg h
theorem BZ{c:UInt8}{d acc:Nat}{r:List UInt8}(h:c.toNat=48+d)(hd:d<=9)(ha:acc<=1000000):Lib.parseUint10 acc (c::r)=Lib.parseUint10 (acc*10+d) r:=by
 show (if 48<=c.toNat/\c.toNat<=57 then _ else _)=_
 rw [if_pos U3,if_neg U3,if_neg U3,h,Nat.add_sub_cancel_left]
theorem nS{n:Int}(h:0<=n/\n<=999):Lib.atoiAll (dg3 n).data.toList= .ok n:=by
 have q1:=Qr7 h.1;have q2:=Qr7 (x:=n / 10) U3;have W:=yJ (n:=n) U3;have S:=yJ (n:=n / 10) U3;have I:=yJ (n:=n / 10 / 10) U3;unfold dg3;rw [q1,q2];show Lib.atoiAll [_,_,_]=_;rw [Lib.atoiAll_plain _ _ U3 U3];unfold Lib.parseMag;rw [if_neg UE,BZ I U3 U3,BZ S U3 U3,BZ W U3 U3];show (if _ then _ else Lib.NumEnd.ok _)=_
 rw [if_neg U3]
 congr 1
 omega
theorem nR{n:Int}(h:0<=n/\n<=99999):Lib.atoiAll (dg5 n).data.toList= .ok n:=by
 have q1:=Qr7 h.1;have q2:=Qr7 (x:=n / 10) U3;have q3:=Qr7 (x:=n / 10 / 10) U3;have q4:=Qr7 (x:=n / 10 / 10 / 10) U3;have W:=yJ (n:=n) U3;have S:=yJ (n:=n / 10) U3;have I:=yJ (n:=n / 10 / 10) U3;have v4:=yJ (n:=n / 10 / 10 / 10) U3;have v5:=yJ (n:=n / 10 / 10 / 10 / 10) U3;unfold dg5;rw [q1,q2,q3,q4];show Lib.atoiAll [_,_,_,_,_]=_;rw [Lib.atoiAll_plain _ _ U3 U3];unfold Lib.parseMag;rw [if_neg UE,BZ v5 U3 U3,BZ v4 U3 U3,BZ I U3 U3,BZ S U3 U3,BZ W U3 U3];show (if _ then _ else Lib.NumEnd.ok _)=_
 rw [if_neg U3]
 congr 1
 omega
theorem Qh3{s:ByteArray}{v:Int}(h:Lib.atoiAll s.data.toList= .ok v):UK s=v:=by
 unfold UK;rw [h]
theorem Wm1{n:Int}(h:0<=n/\n<=999):UK (dg3 n)=n:=Qh3 (nS h)
theorem Wm0{n:Int}(h:0<=n/\n<=99999):UK (dg5 n)=n:=Qh3 (nR h)
section
variable {n:Nat}{f:Ci}{s:ByteArray}
theorem cI(hs:s.size=n)(h: ∀j,j<n->f j=D8 s j):bsO n f=s:=by
 refine zW.2 ?_;apply List.ext_getElem?;intro j;by_cases hj:j<n;have hj':j<s.data.size:=by
  have:s.data.size=s.size:=rfl;omega
 have A:byO (f j)=(s.data[j]).toNat:=by
  rw [h j hj];show (DZ s j).toNat=_;unfold DZ;rw [PF,Array.getElem?_eq_getElem hj'];exact FA _
 rw [Bn,List.getElem?_range hj,Array.getElem?_toList,Array.getElem?_eq_getElem hj'];show some (UInt8.ofNat (byO (f j)))=some _;rw [A,UInt8.ofNat_toNat];have hj':s.data.size<=j:=by
  have:s.data.size=s.size:=rfl;omega
 rw [Br (by simp;omega),Br (by simpa using hj')]
theorem Ql7{o:Nat}(h: ∀j,j<n->f j=D8 s (o+j)):B7 n f:=by
 intro j hj;rw [h j hj];have h1:=CJ s (o+j);exact by1 (x:=DZ s (o+j)) ⟨h1.1,U3⟩
end
theorem sz1(x:UInt8):(⟨#[x]⟩:ByteArray).size=1:=rfl
theorem sz3(n:Int):(dgB n 3).size=3:=rfl
theorem sz5(n:Int):(dgB n 5).size=5:=rfl
theorem Ql6(l c:Int){j:Nat}(h:j<3):DZ (tpB l c) (1+j)=DZ (dg3 l) j:=by
 unfold tpB;rw [LJ,if_pos (by simp only [Av,sz1,sz3,sz5];omega),LJ,if_pos (by simp only [Av,sz1,sz3,sz5];omega),LJ,if_pos (by simp only [Av,sz1,sz3,sz5];omega),LJ,if_neg (by simp only [sz1];omega),sz1,Nat.add_sub_cancel_left]
 rfl
theorem Ql5(l c:Int){j:Nat}(h:j<5):DZ (tpB l c) (5+j)=DZ (dg5 c) j:=by
 unfold tpB;rw [LJ,if_pos (by simp only [Av,sz1,sz3,sz5];omega),LJ,if_neg (by simp only [Av,sz1,sz3,sz5];omega)]
 have e:5+j-((⟨#[91]⟩:ByteArray)++dgB l 3++⟨#[58]⟩).size=j:=by
  simp only [Av,sz1,sz3];omega
 rw [e];rfl
section
variable (f:Ci)
def rdL:Int:=UK (bsO 3 (λi=>f (1+i)))
def rdC:Int:=UK (bsO 5 (λi=>f (5+i)))
def Qv3:Prop:=(0<=rdL f/\rdL f<=200)/\(0<=rdC f/\rdC f<=99970)/\ ∀j,j<11->f j=D8 (tpB (rdL f) (rdC f)) j
end
section
variable {f:Ci}{l c:Int}
theorem Jk0(h: ∀j,j<11->f j=D8 (tpB l c) j):bsO 3 (λi=>f (1+i))=dg3 l/\bsO 5 (λi=>f (5+i))=dg5 c:=by
 refine ⟨cI rfl λj hj=>?_,cI rfl λj hj=>?_⟩;show f (1+j)=_;rw [h _ U3];unfold D8;rw [Ql6 l c hj];show f (5+j)=_;rw [h _ U3];unfold D8;rw [Ql5 l c hj]
theorem Za5(hl:0<=l/\l<=200)(hc:0<=c/\c<=99970)(h: ∀j,j<11->f j=D8 (tpB l c) j):rdL f=l/\rdC f=c/\Qv3 f:=by
 obtain ⟨h1,h2⟩:=Jk0 h;have A:rdL f=l:=by
  unfold rdL;rw [h1,Wm1 U3]
 have e2:rdC f=c:=by
  unfold rdC;rw [h2,Wm0 U3]
 exact ⟨A,e2,by unfold Qv3;rw [A,e2];exact ⟨hl,hc,h⟩⟩
end
section
variable (L:Cf)
def HM(k:Nat):Nat:=(flB L k).size
theorem dY(k:Nat):HM L (k+1)=HM L k+12+(L k).size:=by
 have e:HM L (k+1)=(flB L k).size+(rcB (L k) k).size:=Av;have h:=EN (L k) k;unfold HM at*;omega
theorem dZ{k m:Nat}(h:k<=m):HM L k<=HM L m:=by
 induction h with
 |refl=>exact Am _
 |step _ ih=>rw [dY];omega
theorem Wy5{k m j:Nat}(h:k<=m)(hj:j<HM L k):DZ (flB L m) j=DZ (flB L k) j:=by
 induction h with
 |refl=>rfl
 | @step m h ih=>
  have h1:=dZ L h;show DZ (flB L m++rcB (L m) m) j=_;rw [LJ,if_pos (show j<(flB L m).size by unfold HM at*;omega)]
  exact ih
theorem cA{k m j:Nat}(h:k<m)(hj:j<12+(L k).size):DZ (flB L m) (HM L k+j)=DZ (rcB (L k) k) j:=by
 rw [Wy5 L (k:=k+1) h (by rw [dY];omega)]
 show DZ (flB L k++rcB (L k) k) (HM L k+j)=_;rw [LJ,if_neg (show ¬HM L k+j<(flB L k).size by unfold HM;omega)]
 congr 1
 unfold HM;omega
end
section
variable (s:ByteArray)(ix:Int)
theorem Wj7{j:Nat}(h:j<11):DZ (rcB s ix) j=DZ (tpB (s.size:Int) (tpK s ix)) j:=by
 have h1:=wD (s.size:Int) (tpK s ix);unfold rcB;rw [LJ,if_pos (by rw [Av];omega),LJ,if_pos U3]
theorem Zq6{j:Nat}(h:j<s.size):DZ (rcB s ix) (11+j)=DZ s j:=by
 have h1:=wD (s.size:Int) (tpK s ix);unfold rcB;rw [LJ,if_pos (by rw [Av];omega),LJ,if_neg U3,h1,Nat.add_sub_cancel_left]
theorem Jk2:DZ (rcB s ix) (11+s.size)=10:=by
 have h1:=wD (s.size:Int) (tpK s ix);unfold rcB;rw [LJ,if_neg (by rw [Av];omega),Av,h1,Bs]
 rfl
theorem a9(O:0<=ix/\ix<=100000)(h:s.size<=1000):0<=tpK s ix/\tpK s ix<=99970:=by
 have h3:=gQ s ix O s.size h;have h4:tpK s ix=(tpC s ix s.size)%99971:=Int.tmod_eq_emod_of_nonneg h3.1;omega
end
def EM(N:Nat)(B:ByteArray)(m:Nat)(L:Cf):Prop:=
 m<=50/\(∀k,k<m->(L k).size<=200)/\HM L m<=N/\N<=100000/\(∀j,j<HM L m->DZ B j=DZ (flB L m) j)/\
  (N<=HM L m+11\/ ∃l c:Int,(0<=l/\l<=200)/\(0<=c/\c<=99970)/\(∀j,j<11->DZ B (HM L m+j)=DZ (tpB l c) j)/\
   ((N:Int)<HM L m+12+l\/ ∃s:ByteArray,(s.size:Int)=l/\(∀j,j<s.size->DZ B (HM L m+11+j)=DZ s j)/\c≠tpK s m))
section
variable (L:Cf)(n N:Nat)
def whN:Nat:=HJ (λq=>decide (N<HM L (q+1))) n
theorem pF:whN L n N<=n/\HM L (whN L n N)<=N/\(whN L n N<n->N<HM L (whN L n N+1)):=by
 obtain ⟨h1,h2,h3⟩:=FI (λq=>decide (N<HM L (q+1))) n;refine ⟨h1,?_,λh=>?_⟩;show HM L (HJ _ n)<=N;generalize HJ (λq=>decide (N<HM L (q+1))) n=q at*
 cases q with
 |zero=>exact Ao _
 |succ q=>
  have:=of_decide_eq_false (h2 q U3);omega
 exact BI (h3 h)
end
theorem Xz3{L:Cf}{n N:Nat}(hn:n<=50)(hL: ∀k,k<n->(L k).size<=200)(hN:N<=HM L n):EM N (flB L n) (whN L n N) L:=by
 obtain ⟨h1,h2,h3⟩:=pF L n N;have h4:HM L n<=n*212:=f7 L n hL;generalize whN L n N=m at*;refine ⟨U3,λk hk=>hL k U3,h2,U3,λj hj=>Wy5 L h1 hj,?_⟩;rcases An m n with h5|h5;have h6:=h3 h5;rw [dY] at h6;have h7:=hL m h5;refine .inr ⟨(L m).size,tpK (L m) m,U3,a9 _ _ U3 U3,λj hj=>?_,.inl U3⟩;rw [cA L h5 U3,Wj7 _ _ hj];obtain rfl:m=n:=U3;exact .inl U3
theorem Jk5{N m k:Nat}{B:ByteArray}{L:Cf}(h:EM N B m L)(hk:k<m):
  (L k).size<=200/\HM L (k+1)=HM L k+12+(L k).size/\HM L (k+1)<=N/\(0<=tpK (L k) k/\tpK (L k) k<=99970)/\(∀j,j<11->DZ B (HM L k+j)=DZ (tpB ((L k).size:Int) (tpK (L k) k)) j)/\(∀j,j<(L k).size->DZ B (HM L k+11+j)=DZ (L k) j)/\DZ B (HM L k+11+(L k).size)=10:=by
 obtain ⟨h1,h2,h3,h4,h5,_⟩:=h;have h6:=dY L k;have h7:=dZ L (show k+1<=m from hk);have h8:=h2 k hk;refine ⟨h8,h6,U3,a9 _ _ U3 U3,λj hj=>?_,λj hj=>?_,?_⟩;rw [h5 _ U3,cA L hk U3,Wj7 _ _ hj];rw [h5 _ U3,Ba,cA L hk U3,Zq6 _ _ hj];rw [h5 _ U3,Ba,cA L hk U3,Jk2]
