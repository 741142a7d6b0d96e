/- Contracts, put together. Conditions: those of each. -/
import Derived.Test.YtakpdkmhclhlnaaGreatDoorMh
import Derived.Shelf.Slices.Cells
import Derived.Deep.Upon
set_option linter.unusedSimpArgs false
set_option linter.unusedVariables false
set_option maxRecDepth 100000
namespace Go.Proofs.YtakpdkmhclhlnaaGreatDoor.Hd
open Go Go.Shelf Go.Sx Go.RowKit
def nS:Go.Shelf.Ren:=⟨λ| 112=>238|n=>n,λ| 28=>22|n=>n,λn=>n⟩
theorem Wd4:Go.Proofs.Lays.n112 Tryz.prog nS:=by
 constructor<;>first|(intro _;kernel_rfl)|kernel_rfl|(constructor<;>first|(intro _;kernel_rfl)|kernel_rfl|(constructor<;>first|(intro _;kernel_rfl)|kernel_rfl))
def s6:D0:=λavs m nx sv=>match avs with
 |[.row q]=>match DB m q with
  |some (.row T sz n g)=>match N7 [(T,3),(sz,1)] with
   |true=>some (.needT [UG 1 n g,n<=100000] (.leaf (.tup [],j6 (nL m) q,nx,sv)))
   |false=>none
  |_=>none
 |_=>none
theorem yE(b:Nat): ∀(vs:List Value) (o:Nat) (w:World),(w.setCells b o vs).heap.size=w.heap.size
 |[],_,_=>rfl
 |v::r,o,w=>by
  rw [World.setCells,yE b r];simp
theorem yD(b:Nat): ∀(vs:List Value) (o:Nat) (w:World),(w.setCells b o vs).tape=w.tape
 |[],_,_=>rfl
 |v::r,o,w=>by
  rw [World.setCells,yD b r];simp
theorem Qi7{w:World}{ov:Value}{n:Nat}{l:List Int}(hn:n<=100000)(ho:w.ownsRow 0 3 1 ov n (l.map (Value.int .i64))):
  Calls Tryz.prog 238 #[ov] w λen W=>en= .returned (.tuple #[])/\W.heap.size=w.heap.size/\W.os=w.os/\W.tape=w.tape/\W.output=w.output/\ ∀x,x<w.heap.size->ov.ownBlock≠some x->W.heap[x]? =w.heap[x]? :=by
 have HW:l.length=n:=by
  have:=ho.1;simpa using this
 rcases ho.2 with ⟨rfl,rfl⟩|⟨g,cap,cur,rfl,_,hh,r1,r2,r3,r4⟩
 ·refine Calls.mono (Any.slices_Reverse_int_empty Wd4 none 0 w) ?_;rintro en W ⟨rfl,rfl⟩;exact ⟨rfl,rfl,rfl,rfl,rfl,λ_ _ _=>rfl⟩
 ·have uY: ∀j,j<l.length->w.cell? ⟨g,0+j,none⟩=some (.int .i64 (l.getD j 0)):=by
   intro j hj;have h2:cur[j]? =some (.int .i64 (l.getD j 0)):=by
    have h3:=congrArg (λl=>l[j]?) r4
    simp only [List.getElem?_take,Bn] at h3;rw [if_pos VL,HZ hj] at h3;rw [List.getD_eq_getElem?_getD,HZ hj];simpa using h3
   rw [Ap];simp [World.cell?,hh,h2]
  refine Calls.mono (Any.slices_Reverse_int_cells Wd4 g 0 n cap l w VL VL uY (λj _=>by simp [World.frozen?,hh])) ?_
  rintro en W ⟨rfl,q,rfl⟩;refine ⟨rfl,?_,?_,?_,?_,λx hx hne=>?_⟩
  ·rw [yE];rfl
  ·rw [World.os_setCells];rfl
  ·rw [yD];rfl
  ·rw [World.output_setCells];rfl
  ·exact World.heap_setCells_other (w.drewN q) g 0 _ hx (λh=>hne (by rw [h];rfl))
theorem Wa3:GC VQ 238 s6:=by
 refine ⟨(UJ Tryz.func238),?_⟩;intro avs m nx sv tr ht Q hQ cx w0 TT e ds args w hE hB hm hlv LN hxt hr;unfold s6 at ht;split at ht
 ·rename_i q;split at ht
  ·rename_i T sz n g h1;split at ht
   ·rename_i hb;simp only [CW] at hb;obtain ⟨rfl,rfl,_⟩:=hb;cases ht;obtain ⟨hn,hq⟩:=VO.sat_needT hQ;obtain ⟨n1,n2⟩:=hn;obtain ⟨ov,l1,rfl,r1,hr⟩:=hr.cons_inv;obtain rfl:=hr.nil_inv;have H1:=hm _ (UX h1);have R1:=qD H1 n1;have hv:e.val q=ov:=by
     cases r1 with
     |row _ a n c _ hv=>exact hv
    simp only at R1;rw [hv] at R1;have own1: ∀x,ov.ownBlock=some x->e.own x=some q:=λx hx=>H1.2.1 x (by show (e.val q).ownBlock=some x;rw [hv];exact hx)
    refine (Qi7 n2 R1).mono ?_;rintro en W ⟨rfl,hsz,q1,q2,q3,zW⟩;have dne: ∀{x y j j':Nat},e.own x=some j->e.own y=some j'->j≠j'->x≠y:=by
     rintro x y j j' hx hy hj rfl;rw [hx] at hy;exact hj (Bb hy)
    have Xe4: ∀x,x<w.heap.size->e.ro x->W.heap[x]? =w.heap[x]? :=λx hx hx2=>zW x hx (λh=>by
     have:=own1 x h;rw [(hE.apart x hx2).1] at this;cases this)
    have st:Step e e w W:=⟨λx hx hx2=>⟨hx2,Xe4 x hx hx2⟩,λ_ h=>⟨h,rfl,rfl⟩,VL⟩
    have hBel:Below w0.heap.size w0 W:=by
     refine ⟨q1.trans hB.os,q2.trans hB.tape,q3.trans hB.output,by have:=hB.size;omega,λx hx=>?_⟩
     rw [zW x (xO hx hB.size) (λh=>by have:=(hE.owned _ _ (own1 x h)).1;omega)]
     exact hB.block x hx
    refine ⟨_,_,_,_,_,e,rfl,hq,⟨λx hx=>⟨(hE.apart x hx).1,by rw [hsz];exact (hE.apart x hx).2⟩,λx j hx=>⟨(hE.owned x j hx).1,by rw [hsz];exact (hE.owned x j hx).2⟩,hE.glob.step st⟩,hBel,?_,hlv,LN,hxt.step st,Rep.tupL (.nil _ _)⟩
    intro p hp;obtain ⟨hp,hne⟩:=L3 hp;obtain ⟨hpm,hna⟩:=CZ hp;exact LH st (λx hx=>⟨hx,zW x (hE.owned x _ hx).2 (λh=>dne hx (own1 x h) hne rfl)⟩) hna (hm p hpm)
   ·cases ht
  ·cases ht
 ·cases ht
end Go.Proofs.YtakpdkmhclhlnaaGreatDoor.Hd
namespace Go.Proofs.YtakpdkmhclhlnaaGreatDoor.Hd
open Go Go.Sx Go.RowKit Bo
open Go.Sx.VO (need branch leaf)
open Go.Sx.AV (lst ptr agg roI tup top)
section
variable (n:Nat)(a b c U O:Nat->Int)
def orE:Int:=if zK n a b c U O=true then 0 else 9
theorem Qj7(VV:sV n a b c U O):VZ VQ 213 [.agg [i 4,i 10,sls n a b c U O]] (.tup [.top,.top,i (orE n a b c U O)]):=by
 refine G9 (X:={R:=[],H:=[(237,(Xo4 [(.slot 1,0,0,0),(.slot 2,0,0,0),(.slot 3,0,0,0),(.cell 1 0,900,3,1)] (m6 n a b c U O (2^n)))),(238,s6)],C:=[(55,(IQ n a b c U O))] }) (L:=[]) Aa (Aj Ab (Ag (cI (Wa7 VV (2^n))) (Ag Wa3 Ac)) (Ah (yV n a b c U O VV) (UB.nil _))) U0 Tryz.func213 (UV Tryz.f213) G4 (t:=let z2:=(orG n a b c U O (0:Int).toNat (0:Int));let z0:=(leaf (RV.tup [RV.top,RV.lst 1 n λj=>[iI (dyU z2 (col 0 λx=>List.map AV.x (Array.toList (Value.cells (X0)))) j)],RV.x (X0)]));let z1:=(leaf (RV.tup [RV.top,RV.lst 1 n λx=>[iI 0],RV.x (X0)]));let z3:=(need [(0:Int)<=(n:Int)/\(n:Int)<=1000000,U1 (n:Int)] VO.fail);(need [QP n a b c U O] (branch (!true) (branch ((2:Int) != 0) (leaf (RV.tup [RV.x (J4),RV.x (J4),RV.x (.int .i64 (2:Int))])) z3) (branch (!zK n a b c U O) (branch ((9:Int) != 0) (leaf (RV.tup [RV.x (J4),RV.x (J4),RV.x (.int .i64 (9:Int))])) z3) (branch ((0:Int) != 0) (leaf (RV.tup [RV.x (J4),RV.x (J4),RV.x (X0)])) (need [(0:Int)<=(n:Int)/\(n:Int)<=1000000,U1 (n:Int)] (need [U1 (iI 4),U1 (iI 10),W2 n a b c U O,∀(x:Value),False->orH n a b c U O x/\x=orV x,UG 1 0 λx=>[],UG 1 n λx=>List.map AV.x (Array.toList (Value.cells (X0))),n=n,(0:Int)<=0/\(0:Int)<2^n,2^n-(0:Int).toNat<=2^n,(0:Int)<=0/\(0:Int)<=100,0<=1000] (branch (Option.isSome (orS n a b c U O (0:Int).toNat (0:Int))) (need [UG 1 (List.length ((x8 0 λx=>[])++orL z2)) λj=>[i (U9 ((x8 0 λx=>[])++orL z2) j)],List.length ((x8 0 λx=>[])++orL z2)<=100000] (VO.may True z0 (VO.may True z0 z0))) (need [UG 1 0 λx=>[],0<=100000] (VO.may True z1 (VO.may True z1 z1))))))))))) VX ?_
 have h8:=VV.1;have hp1:1<=2^n:=Nat.one_le_two_pow;have hpi:=uF h8;have h256:=rN h8;have hgl:=t9 n a b c U O 0 0;simp only [VO.sat,UE,G5,GL,UH,UK,orE,Int.toNat_zero];refine ⟨λh=>by simp at h,λ_=>⟨λh=>?_,λh=>?_⟩⟩
 ·have hf: ¬zK n a b c U O=true:=by
   rw [Ax] at h;rw [h];simp
  rw [if_neg hf];exact ⟨λ_=>rfl,λh=>by simp at h⟩
 ·have hf:zK n a b c U O=true:=by simpa using h
  rw [if_pos hf];have HW:((x8 0 λx=>[])++orL (orG n a b c U O 0 0)).length<=100000:=by
   rw [Be];simp only [x8,orL,List.range_zero,List.map_nil,List.length_nil,Bm];omega
  refine ⟨λh=>by simp at h,λ_=>⟨VL,⟨λ_ h=>h.elim,λk hk=>absurd hk (Aq _),λk _=>rfl,VL,VL⟩,λ_=>?_,λ_=>?_⟩⟩
  ·exact ⟨⟨mQ _ _,HW⟩,λ_=>rfl,λ_=>rfl,rfl⟩
  ·exact ⟨⟨λk hk=>absurd hk (Aq _),VL⟩,λ_=>rfl,λ_=>rfl,rfl⟩
end
def gdX(sz n:Nat)(f:Nat->List AV):Prop:= ∀k,k<n->(f k).length=sz/\ ∀x∈f k,isX x/\AV.one x=true
def HE(n:Nat)(f:Nat->Int)(x:Int)(k:Nat):Int:=if k<n then f k else x
def apB(n:Nat)(f:Nat->Bool)(x:Bool)(k:Nat):Bool:=if k<n then f k else x
abbrev crs(n:Nat)(a b c d:Nat->Int)(v:Nat->Bool):AV:= .lst 5 n (λk=>[i (a k),i (b k),i (c k),i (d k),bl (v k)])
theorem Qb4(f:Nat->List AV)(k:Nat):GJ 0 (λ_=>[]) f k=f k:=by
 show HF (decide (k<0)) [] (f (k-0))=_;rw [show decide (k<0)=false by simp]
 rfl
theorem V4{p:Prop}(h:p:=by
 simp only [VO.sat,UE,Xf6,true_and];refine ⟨λh=>h,⟨VL,λk hk x hm=>((UI k hk).2 x hm).2⟩,VL,λk hk=>⟨Qb4 f k,λx hm=>((UI k hk).2 x hm).1⟩⟩):p:=h
theorem Wk7(n:Nat)(f:Nat->List AV)(VV:n<=100000)(UI:gdX 4 n f):DI VQ 99 [.lst 4 n f] 145 4 (n) (f):=by
 refine BK (L:=[]) Aa Ad U0 Tryz.func99 (UV Tryz.f99) G4 (t:=VO.may (n=0) (leaf none) (need [(0+n)*32<=140737488355328,∀(i:Nat),i<n-> ∀(a:AV),a∈f i->AV.one a=true] (leaf (some (145,4,0+n,GJ 0 (λx=>[]) λa=>f a))))) VX ?_ (λk hk=>(UI k hk).1)
 exact V4
def sB:BH:=λl=>match l with
 |[.lst 4 n f]=>some ([n<=100000,gdX 4 n f],145,4,n,f)
 |_=>none
theorem Wk6:Sx.Enters Tryz.prog 99/\ ∀avs ns T sz n g,sB avs=some (ns,T,sz,n,g)->(∀q∈ns,q)->DI VQ 99 avs T sz n g:=by
 refine ⟨(UJ Tryz.func99),?_⟩;intro avs ns T sz n g h hn;unfold sB at h;split at h
 ·cases h;exact Wk7 _ _ (hn _ VW) (hn _ VW)
 ·cases h
theorem Wk9(n:Nat)(f:Nat->List AV)(VV:n<=100000)(UI:gdX 5 n f):DI VQ 100 [.lst 5 n f] 74 5 (n) (f):=by
 refine BK (L:=[]) Aa Ad U0 Tryz.func100 (UV Tryz.f100) G4 (t:=VO.may (n=0) (leaf none) (need [(0+n)*40<=140737488355328,∀(i:Nat),i<n-> ∀(a:AV),a∈f i->AV.one a=true] (leaf (some (74,5,0+n,GJ 0 (λx=>[]) λa=>f a))))) VX ?_ (λk hk=>(UI k hk).1)
 exact V4
def aF:BH:=λl=>match l with
 |[.lst 5 n f]=>some ([n<=100000,gdX 5 n f],74,5,n,f)
 |_=>none
theorem eU:Sx.Enters Tryz.prog 100/\ ∀avs ns T sz n g,aF avs=some (ns,T,sz,n,g)->(∀q∈ns,q)->DI VQ 100 avs T sz n g:=by
 refine ⟨(UJ Tryz.func100),?_⟩;intro avs ns T sz n g h hn;unfold aF at h;split at h
 ·cases h;exact Wk9 _ _ (hn _ VW) (hn _ VW)
 ·cases h
theorem Wk5(n:Nat)(f:Nat->List AV)(VV:n<=100000)(UI:gdX 5 n f):DI VQ 101 [.lst 5 n f] 152 5 (n) (f):=by
 refine BK (L:=[]) Aa Ad U0 Tryz.func101 (UV Tryz.f101) G4 (t:=VO.may (n=0) (leaf none) (need [(0+n)*40<=140737488355328,∀(i:Nat),i<n-> ∀(a:AV),a∈f i->AV.one a=true] (leaf (some (152,5,0+n,GJ 0 (λx=>[]) λa=>f a))))) VX ?_ (λk hk=>(UI k hk).1)
 exact V4
def sA:BH:=λl=>match l with
 |[.lst 5 n f]=>some ([n<=100000,gdX 5 n f],152,5,n,f)
 |_=>none
theorem Wk4:Sx.Enters Tryz.prog 101/\ ∀avs ns T sz n g,sA avs=some (ns,T,sz,n,g)->(∀q∈ns,q)->DI VQ 101 avs T sz n g:=by
 refine ⟨(UJ Tryz.func101),?_⟩;intro avs ns T sz n g h hn;unfold sA at h;split at h
 ·cases h;exact Wk5 _ _ (hn _ VW) (hn _ VW)
 ·cases h
theorem Wk3(n:Nat)(f:Nat->List AV)(VV:n<=100000)(UI:gdX 2 n f):DI VQ 102 [.lst 2 n f] 150 2 (n) (f):=by
 refine BK (L:=[]) Aa Ad U0 Tryz.func102 (UV Tryz.f102) G4 (t:=VO.may (n=0) (leaf none) (need [(0+n)*16<=140737488355328,∀(i:Nat),i<n-> ∀(a:AV),a∈f i->AV.one a=true] (leaf (some (150,2,0+n,GJ 0 (λx=>[]) λa=>f a))))) VX ?_ (λk hk=>(UI k hk).1)
 exact V4
def s9:BH:=λl=>match l with
 |[.lst 2 n f]=>some ([n<=100000,gdX 2 n f],150,2,n,f)
 |_=>none
theorem Wk2:Sx.Enters Tryz.prog 102/\ ∀avs ns T sz n g,s9 avs=some (ns,T,sz,n,g)->(∀q∈ns,q)->DI VQ 102 avs T sz n g:=by
 refine ⟨(UJ Tryz.func102),?_⟩;intro avs ns T sz n g h hn;unfold s9 at h;split at h
 ·cases h;exact Wk3 _ _ (hn _ VW) (hn _ VW)
 ·cases h
abbrev rdl(n:Nat)(r v:Nat->Int):AV:= .lst 2 n (λk=>[i (r k),i (v k)])
theorem V0{p:Prop}(h:p:=by
 have e0:j-n=0:=VL;show HF (decide (j<n)) _ (U8 _ _ (j-n))=_;rw [e0];rcases (show j<n\/j=n by omega) with h|rfl
 ·rw [decide_eq_true h];simp only [HE,apB,if_pos h];rfl
 ·rw [show decide (j<j)=false by simp]
  simp only [HE,apB,if_neg (Bf j)];rfl):p:=h
section
variable (n:Nat)
theorem Zg2(a b u v:Nat->Int)(x0 A S I:Int)(VV:n<=100000):VZ VQ 204 [rds n a b u v,.agg [i x0,i A,i S,i I]] (rds (n+1) (HE n a x0) (HE n b A) (HE n u S) (HE n v I)):=by
 refine G9 (X:={R:=[],H:=[],C:=[],F:=[(99,sB)],D:=[] }) (L:=[]) Aa (VY.ofF Ab Ac (UB.nil _) (RU.cons Wk6 (RU.nil _)) (PZ.nil _)) U0 Tryz.func204 (UV Tryz.f204) G4 (t:=need [n<=100000,gdX 4 n λk=>[Bo.i (a k),Bo.i (b k),Bo.i (u k),Bo.i (v k)]] (need [(n+1)*32<=140737488355328,L0 1 (U8 4 [iI x0,iI A,iI S,iI I])] (leaf (RV.lst 4 (n+1) (GJ n ((rq4 a b u v)) (U8 4 [iI x0,iI A,iI S,iI I])))))) VX ?_
 simp only [VO.sat,UE,G5,GL,UH,UK];have hg:gdX 4 n (λk=>[i (a k),i (b k),i (u k),i (v k)]):=λk _=>⟨rfl,λx hx=>by
  simp only [GM,DL,or_false] at hx;rcases hx with rfl|rfl|rfl|rfl<;>exact ⟨Ak,by simp [AV.one,Value.oneCell']⟩⟩
 refine ⟨⟨VV,hg⟩,⟨VL,λj hj x hx=>?_⟩,?_⟩
 ·obtain rfl:j=0:=VL;have hx:x∈[i x0,i A,i S,i I]:=hx;simp only [GM,DL,or_false] at hx;rcases hx with rfl|rfl|rfl|rfl<;>simp [AV.one,Value.oneCell']
 ·intro j hj;refine ⟨?_,λx hx=>?_⟩
  ·exact V0
  ·simp only [GM,DL,or_false] at hx;rcases hx with rfl|rfl|rfl|rfl<;>exact Ak
def Qf7(a b u v:Nat->Int):G0
 |[.lst 4 n1 f1,.agg [.x (.int .i64 x0),.x (.int .i64 A),.x (.int .i64 S),.x (.int .i64 I)]]=>some ([lst 4 n1 f1=rds n a b u v,n<=100000],rds (n+1) (HE n a x0) (HE n b A) (HE n u S) (HE n v I))
 |_=>none
theorem Xd9(a b u v:Nat->Int):VS VQ 204 (Qf7 n a b u v):=by
 refine ⟨(UJ Tryz.func204),?_⟩;intro avs ns Z h hn;unfold Qf7 at h;split at h
 ·cases h;have e:=hn _ GI;rw [e];exact Zg2 n a b u v _ _ _ _ (hn _ VW)
 ·cases h
theorem Zg1(a b c U O:Nat->Int)(x0 A S I x4:Int)(VV:n<=100000):VZ VQ 212 [sls n a b c U O,.agg [i x0,i A,i S,i I,i x4]] (sls (n+1) (HE n a x0) (HE n b A) (HE n c S) (HE n U I) (HE n O x4)):=by
 refine G9 (X:={R:=[],H:=[],C:=[],F:=[(101,sA)],D:=[] }) (L:=[]) Aa (VY.ofF Ab Ac (UB.nil _) (RU.cons Wk4 (RU.nil _)) (PZ.nil _)) U0 Tryz.func212 (UV Tryz.f212) G4 (t:=need [n<=100000,gdX 5 n λk=>[i (a k),i (b k),i (c k),i (U k),i (O k)]] (need [(n+1)*40<=140737488355328,L0 1 (U8 5 [iI x0,iI A,iI S,iI I,iI x4])] (leaf (RV.lst 5 (n+1) (GJ n (λk=>[iI (a k),iI (b k),iI (c k),iI (U k),iI (O k)]) (U8 5 [iI x0,iI A,iI S,iI I,iI x4])))))) VX ?_
 simp only [VO.sat,UE,G5,GL,UH,UK];have hg:gdX 5 n (λk=>[i (a k),i (b k),i (c k),i (U k),i (O k)]):=λk _=>⟨rfl,λx hx=>by
  simp only [GM,DL,or_false] at hx;rcases hx with rfl|rfl|rfl|rfl|rfl<;>exact ⟨Ak,by simp [AV.one,Value.oneCell']⟩⟩
 refine ⟨⟨VV,hg⟩,⟨VL,λj hj x hx=>?_⟩,?_⟩
 ·obtain rfl:j=0:=VL;have hx:x∈[i x0,i A,i S,i I,i x4]:=hx;simp only [GM,DL,or_false] at hx;rcases hx with rfl|rfl|rfl|rfl|rfl<;>simp [AV.one,Value.oneCell']
 ·intro j hj;refine ⟨?_,λx hx=>?_⟩
  ·exact V0
  ·simp only [GM,DL,or_false] at hx;rcases hx with rfl|rfl|rfl|rfl|rfl<;>exact Ak
def Qf6(a b c U O:Nat->Int):G0
 |[.lst 5 n1 f1,.agg [.x (.int .i64 x0),.x (.int .i64 A),.x (.int .i64 S),.x (.int .i64 I),.x (.int .i64 x4)]]=>some ([lst 5 n1 f1=sls n a b c U O,n<=100000],sls (n+1) (HE n a x0) (HE n b A) (HE n c S) (HE n U I) (HE n O x4))
 |_=>none
theorem Xd8(a b c U O:Nat->Int):VS VQ 212 (Qf6 n a b c U O):=by
 refine ⟨(UJ Tryz.func212),?_⟩;intro avs ns Z h hn;unfold Qf6 at h;split at h
 ·cases h;have e:=hn _ GI;rw [e];exact Zg1 n a b c U O _ _ _ _ _ (hn _ VW)
 ·cases h
theorem Zg0(r v:Nat->Int)(x0 A:Int)(VV:n<=100000):VZ VQ 210 [rdl n r v,.agg [i x0,i A]] (rdl (n+1) (HE n r x0) (HE n v A)):=by
 refine G9 (X:={R:=[],H:=[],C:=[],F:=[(102,s9)],D:=[] }) (L:=[]) Aa (VY.ofF Ab Ac (UB.nil _) (RU.cons Wk2 (RU.nil _)) (PZ.nil _)) U0 Tryz.func210 (UV Tryz.f210) G4 (t:=need [n<=100000,gdX 2 n λk=>[i (r k),i (v k)]] (need [(n+1)*16<=140737488355328,L0 1 (U8 2 [iI x0,iI A])] (leaf (RV.lst 2 (n+1) (GJ n (λk=>[iI (r k),iI (v k)]) (U8 2 [iI x0,iI A])))))) VX ?_
 simp only [VO.sat,UE,G5,GL,UH,UK];have hg:gdX 2 n (λk=>[i (r k),i (v k)]):=λk _=>⟨rfl,λx hx=>by
  simp only [GM,DL,or_false] at hx;rcases hx with rfl|rfl<;>exact ⟨Ak,by simp [AV.one,Value.oneCell']⟩⟩
 refine ⟨⟨VV,hg⟩,⟨VL,λj hj x hx=>?_⟩,?_⟩
 ·obtain rfl:j=0:=VL;have hx:x∈[i x0,i A]:=hx;simp only [GM,DL,or_false] at hx;rcases hx with rfl|rfl<;>simp [AV.one,Value.oneCell']
 ·intro j hj;refine ⟨?_,λx hx=>?_⟩
  ·exact V0
  ·simp only [GM,DL,or_false] at hx;rcases hx with rfl|rfl<;>exact Ak
def Qf5(r v:Nat->Int):G0
 |[.lst 2 n1 f1,.agg [.x (.int .i64 x0),.x (.int .i64 A)]]=>some ([lst 2 n1 f1=rdl n r v,n<=100000],rdl (n+1) (HE n r x0) (HE n v A))
 |_=>none
theorem Xd7(r v:Nat->Int):VS VQ 210 (Qf5 n r v):=by
 refine ⟨(UJ Tryz.func210),?_⟩;intro avs ns Z h hn;unfold Qf5 at h;split at h
 ·cases h;have e:=hn _ GI;rw [e];exact Zg0 n r v _ _ (hn _ VW)
 ·cases h
theorem Zg3(a b c d:Nat->Int)(w:Nat->Bool)(x0 A S I:Int)(xw:Bool)(VV:n<=100000):VZ VQ 211 [crs n a b c d w,.agg [i x0,i A,i S,i I,bl xw]] (crs (n+1) (HE n a x0) (HE n b A) (HE n c S) (HE n d I) (apB n w xw)):=by
 refine G9 (X:={R:=[],H:=[],C:=[],F:=[(100,aF)],D:=[] }) (L:=[]) Aa (VY.ofF Ab Ac (UB.nil _) (RU.cons eU (RU.nil _)) (PZ.nil _)) U0 Tryz.func211 (UV Tryz.f211) G4 (t:=need [n<=100000,gdX 5 n λk=>[i (a k),i (b k),i (c k),i (d k),bl (w k)]] (need [(n+1)*40<=140737488355328,L0 1 (U8 5 [iI x0,iI A,iI S,iI I,AV.x (.bool xw)])] (leaf (RV.lst 5 (n+1) (GJ n (λk=>[iI (a k),iI (b k),iI (c k),iI (d k),AV.x (.bool (w k))]) (U8 5 [iI x0,iI A,iI S,iI I,AV.x (.bool xw)])))))) VX ?_
 simp only [VO.sat,UE,G5,GL,UH,UK];have hg:gdX 5 n (λk=>[i (a k),i (b k),i (c k),i (d k),bl (w k)]):=λk _=>⟨rfl,λx hx=>by
  simp only [GM,DL,or_false] at hx;rcases hx with rfl|rfl|rfl|rfl|rfl<;>exact ⟨Ak,by simp [AV.one,Value.oneCell']⟩⟩
 refine ⟨⟨VV,hg⟩,⟨VL,λj hj x hx=>?_⟩,?_⟩
 ·obtain rfl:j=0:=VL;have hx:x∈[i x0,i A,i S,i I,bl xw]:=hx;simp only [GM,DL,or_false] at hx;rcases hx with rfl|rfl|rfl|rfl|rfl<;>simp [AV.one,Value.oneCell']
 ·intro j hj;refine ⟨?_,λx hx=>?_⟩
  ·exact V0
  ·simp only [GM,DL,or_false] at hx;rcases hx with rfl|rfl|rfl|rfl|rfl<;>exact Ak
def Qf8(a b c d:Nat->Int)(w:Nat->Bool):G0
 |[.lst 5 n1 f1,.agg [.x (.int .i64 x0),.x (.int .i64 A),.x (.int .i64 S),.x (.int .i64 I),.x (.bool xw)]]=>some ([lst 5 n1 f1=crs n a b c d w,n<=100000],crs (n+1) (HE n a x0) (HE n b A) (HE n c S) (HE n d I) (apB n w xw))
 |_=>none
theorem Xe0(a b c d:Nat->Int)(w:Nat->Bool):VS VQ 211 (Qf8 n a b c d w):=by
 refine ⟨(UJ Tryz.func211),?_⟩;intro avs ns Z h hn;unfold Qf8 at h;split at h
 ·cases h;have e:=hn _ GI;rw [e];exact Zg3 n a b c d w _ _ _ _ _ (hn _ VW)
 ·cases h
end
def RM:G0
 |[.x (.int .i64 n),.x (.int .i64 U),.x (.int .i64 O)]=>some ([],bl (bt U n O))
 |_=>none
theorem o2(n U O:Int):VZ VQ 36 [i n,i U,i O] (bl (bt U n O)):=by
 refine GT Tryz.func36 (t:=branch (decide (U<=n)) (leaf (RV.x (.bool (decide (n<=O))))) (leaf (RV.x (W6)))) VX ?_;exact V9
theorem PR:VS VQ 36 RM:=by
 refine ⟨(UJ Tryz.func36),?_⟩;intro avs ns Z h hn;unfold RM at h;split at h
 ·cases h;exact o2 _ _ _
 ·cases h
end Go.Proofs.YtakpdkmhclhlnaaGreatDoor.Hd
