/- Contracts, put together. Conditions: those of each. -/
import Derived.Test.YtakpdkmhclhlnaaGreatDoorMh
import Derived.Shelf.Slices.Cells
import Derived.Deep.Upon
set_option linter.unusedSimpArgs false
set_option linter.unusedVariables false
set_option maxRecDepth 100000
namespace Go.Proofs.YtakpdkmhclhlnaaGreatDoor.Hd
open Go Go.Shelf Go.Sx Go.RowKit
def o1:Go.Shelf.Ren:=⟨λ| 112=>238|n=>n,λ| 28=>22|n=>n,λn=>n⟩
theorem We2:Go.Proofs.Lays.n112 Tryz.prog o1:=by
 constructor<;>first|(intro _;kernel_rfl)|kernel_rfl|(constructor<;>first|(intro _;kernel_rfl)|kernel_rfl|(constructor<;>first|(intro _;kernel_rfl)|kernel_rfl))
def sH:HX:=λavs m nx sv=>match avs with
 |[.row q]=>match DE m q with
  |some (.row T sz n g)=>match NF [(T,3),(sz,1)] with
   |true=>some (.needT [UF 1 n g,n<=100000] (.leaf (.tup [],zZ (nT m) q,nx,sv)))
   |false=>none
  |_=>none
 |_=>none
theorem yG(b:Nat): ∀(vs:List Value) (o:Nat) (w:World),(w.setCells b o vs).heap.size=w.heap.size
 |[],_,_=>rfl
 |v::r,o,w=>by
  rw [World.setCells,yG b r];simp
theorem yF(b:Nat): ∀(vs:List Value) (o:Nat) (w:World),(w.setCells b o vs).tape=w.tape
 |[],_,_=>rfl
 |v::r,o,w=>by
  rw [World.setCells,yF b r];simp
theorem Qj1{w:World}{ov:Value}{n:Nat}{l:List Int}(I:n<=100000)(ho:w.ownsRow 0 3 1 ov n (l.map (Value.int .i64))):
  Calls Tryz.prog 238 #[ov] w λen Z=>en= .returned (.tuple #[])/\Z.heap.size=w.heap.size/\Z.os=w.os/\Z.tape=w.tape/\Z.output=w.output/\ ∀x,x<w.heap.size->ov.ownBlock≠some x->Z.heap[x]? =w.heap[x]? :=by
 have HU:l.length=n:=by
  have:=ho.1;simpa using this
 rcases ho.2 with ⟨rfl,rfl⟩|⟨g,cap,cur,rfl,_,hh,r1,r2,r3,r4⟩
 ·refine Calls.mono (Any.slices_Reverse_int_empty We2 none 0 w) ?_;rintro en Z ⟨rfl,rfl⟩;exact ⟨rfl,rfl,rfl,rfl,rfl,λ_ _ _=>rfl⟩
 ·have gA: ∀j,j<l.length->w.cell? ⟨g,0+j,none⟩=some (.int .i64 (l.getD j 0)):=by
   intro j hj;have h2:cur[j]? =some (.int .i64 (l.getD j 0)):=by
    have h3:=congrArg (λl=>l[j]?) r4
    simp only [List.getElem?_take,Bn] at h3;rw [if_pos VJ,HY hj] at h3;rw [List.getD_eq_getElem?_getD,HY hj];simpa using h3
   rw [Ap];simp [World.cell?,hh,h2]
  refine Calls.mono (Any.slices_Reverse_int_cells We2 g 0 n cap l w VJ VJ gA (λj _=>by simp [World.frozen?,hh])) ?_
  rintro en Z ⟨rfl,q,rfl⟩;refine ⟨rfl,?_,?_,?_,?_,λx hx hne=>?_⟩
  ·rw [yG];rfl
  ·rw [World.os_setCells];rfl
  ·rw [yF];rfl
  ·rw [World.output_setCells];rfl
  ·exact World.heap_setCells_other (w.drewN q) g 0 _ hx (λh=>hne (by rw [h];rfl))
theorem Wb1:GB VO 238 sH:=by
 refine ⟨(UG Tryz.func238),?_⟩;intro avs m nx sv tr ht Q hQ cx w0 TT e ds args w hE hB hm hlv LN hxt hr;unfold sH at ht;split at ht
 ·rename_i q;split at ht
  ·rename_i T sz n g h1;split at ht
   ·rename_i hb;simp only [E3] at hb;obtain ⟨rfl,rfl,_⟩:=hb;cases ht;obtain ⟨I,hq⟩:=VM.sat_needT hQ;obtain ⟨n1,n2⟩:=I;obtain ⟨ov,l1,rfl,r1,hr⟩:=hr.cons_inv;obtain rfl:=hr.nil_inv;have H1:=hm _ (UX h1);have R1:=qB H1 n1;have hv:e.val q=ov:=by
     cases r1 with
     |row _ a n c _ hv=>exact hv
    simp only at R1;rw [hv] at R1;have own1: ∀x,ov.ownBlock=some x->e.own x=some q:=λx hx=>H1.2.1 x (by show (e.val q).ownBlock=some x;rw [hv];exact hx)
    refine (Qj1 n2 R1).mono ?_;rintro en Z ⟨rfl,hsz,q1,q2,q3,zU⟩;have dne: ∀{x y j j':Nat},e.own x=some j->e.own y=some j'->j≠j'->x≠y:=by
     rintro x y j j' hx hy hj rfl;rw [hx] at hy;exact hj (Bb hy)
    have Xg4: ∀x,x<w.heap.size->e.ro x->Z.heap[x]? =w.heap[x]? :=λx hx hx2=>zU x hx (λh=>by
     have:=own1 x h;rw [(hE.apart x hx2).1] at this;cases this)
    have st:Step e e w Z:=⟨λx hx hx2=>⟨hx2,Xg4 x hx hx2⟩,λ_ h=>⟨h,rfl,rfl⟩,VJ⟩
    have hBel:Below w0.heap.size w0 Z:=by
     refine ⟨q1.trans hB.os,q2.trans hB.tape,q3.trans hB.output,by have:=hB.size;omega,λx hx=>?_⟩
     rw [zU x (xM hx hB.size) (λh=>by have:=(hE.owned _ _ (own1 x h)).1;omega)]
     exact hB.block x hx
    refine ⟨_,_,_,_,_,e,rfl,hq,⟨λx hx=>⟨(hE.apart x hx).1,by rw [hsz];exact (hE.apart x hx).2⟩,λx j hx=>⟨(hE.owned x j hx).1,by rw [hsz];exact (hE.owned x j hx).2⟩,hE.glob.step st⟩,hBel,?_,hlv,LN,hxt.step st,Rep.tupL (.nil _ _)⟩
    intro p hp;obtain ⟨hp,hne⟩:=L3 hp;obtain ⟨hpm,hna⟩:=E6 hp;exact LH st (λx hx=>⟨hx,zU x (hE.owned x _ hx).2 (λh=>dne hx (own1 x h) hne rfl)⟩) hna (hm p hpm)
   ·cases ht
  ·cases ht
 ·cases ht
end Go.Proofs.YtakpdkmhclhlnaaGreatDoor.Hd
namespace Go.Proofs.YtakpdkmhclhlnaaGreatDoor.Hd
open Go Go.Sx Go.RowKit Bo
open Go.Sx.VM (need branch leaf)
open Go.Sx.AV (lst ptr agg roI tup top)
section
variable (n:Nat)(a b c U O:Nat->Int)
def orE:Int:=if zI n a b c U O=true then 0 else 9
theorem Qk1(VR:sV n a b c U O):VX VO 213 [.agg [i 4,i 10,sls n a b c U O]] (.tup [.top,.top,i (orE n a b c U O)]):=by
 refine GA (X:={R:=[],H:=[(237,(Xq9 [(.slot 1,0,0,0),(.slot 2,0,0,0),(.slot 3,0,0,0),(.cell 1 0,900,3,1)] (mE n a b c U O (2^n)))),(238,sH)],C:=[(55,(IY n a b c U O))] }) (L:=[]) Aa (Aj Ab (Ag (cS (Wb5 VR (2^n))) (Ag Wb1 Ac)) (Ah (yW n a b c U O VR) (UA.nil _))) VY Tryz.func213 (UT Tryz.f213) G5 (t:=let z2:=(orG n a b c U O (0:Int).toNat (0:Int));let z0:=(leaf (RV.tup [RV.top,RV.lst 1 n λj=>[iI (dyU z2 (col 0 λx=>List.map AV.x (Array.toList (Value.cells (X0)))) j)],RV.x (X0)]));let z1:=(leaf (RV.tup [RV.top,RV.lst 1 n λx=>[iI 0],RV.x (X0)]));let z3:=(need [(0:Int)<=(n:Int)/\(n:Int)<=1000000,VZ (n:Int)] VM.fail);(need [QP n a b c U O] (branch (!true) (branch ((2:Int) != 0) (leaf (RV.tup [RV.x (J4),RV.x (J4),RV.x (.int .i64 (2:Int))])) z3) (branch (!zI n a b c U O) (branch ((9:Int) != 0) (leaf (RV.tup [RV.x (J4),RV.x (J4),RV.x (.int .i64 (9:Int))])) z3) (branch ((0:Int) != 0) (leaf (RV.tup [RV.x (J4),RV.x (J4),RV.x (X0)])) (need [(0:Int)<=(n:Int)/\(n:Int)<=1000000,VZ (n:Int)] (need [VZ (iI 4),VZ (iI 10),W2 n a b c U O,∀(x:Value),False->orH n a b c U O x/\x=orV x,UF 1 0 λx=>[],UF 1 n λx=>List.map AV.x (Array.toList (Value.cells (X0))),n=n,(0:Int)<=0/\(0:Int)<2^n,2^n-(0:Int).toNat<=2^n,(0:Int)<=0/\(0:Int)<=100,0<=1000] (branch (Option.isSome (orS n a b c U O (0:Int).toNat (0:Int))) (need [UF 1 (List.length ((x6 0 λx=>[])++orL z2)) λj=>[i (U8 ((x6 0 λx=>[])++orL z2) j)],List.length ((x6 0 λx=>[])++orL z2)<=100000] (VM.may True z0 (VM.may True z0 z0))) (need [UF 1 0 λx=>[],0<=100000] (VM.may True z1 (VM.may True z1 z1))))))))))) VT ?_
 have h8:=VR.1;have hp1:1<=2^n:=Nat.one_le_two_pow;have hpi:=uG h8;have h256:=rQ h8;have hgl:=tJ n a b c U O 0 0;simp only [VM.sat,UB,G4,GJ,UD,UH,orE,Int.toNat_zero];refine ⟨λh=>by simp at h,λ_=>⟨λh=>?_,λh=>?_⟩⟩
 ·have hf: ¬zI n a b c U O=true:=by
   rw [Ax] at h;rw [h];simp
  rw [if_neg hf];exact ⟨λ_=>rfl,λh=>by simp at h⟩
 ·have hf:zI n a b c U O=true:=by simpa using h
  rw [if_pos hf];have HU:((x6 0 λx=>[])++orL (orG n a b c U O 0 0)).length<=100000:=by
   rw [Be];simp only [x6,orL,List.range_zero,List.map_nil,List.length_nil,Bm];omega
  refine ⟨λh=>by simp at h,λ_=>⟨VJ,⟨λ_ h=>h.elim,λk hk=>absurd hk (Aq _),λk _=>rfl,VJ,VJ⟩,λ_=>?_,λ_=>?_⟩⟩
  ·exact ⟨⟨mY _ _,HU⟩,λ_=>rfl,λ_=>rfl,rfl⟩
  ·exact ⟨⟨λk hk=>absurd hk (Aq _),VJ⟩,λ_=>rfl,λ_=>rfl,rfl⟩
end
def gdX(sz n:Nat)(f:Nat->List AV):Prop:= ∀k,k<n->(f k).length=sz/\ ∀x∈f k,isX x/\AV.one x=true
def HE(n:Nat)(f:Nat->Int)(x:Int)(k:Nat):Int:=if k<n then f k else x
def apB(n:Nat)(f:Nat->Bool)(x:Bool)(k:Nat):Bool:=if k<n then f k else x
abbrev crs(n:Nat)(a b c d:Nat->Int)(v:Nat->Bool):AV:= .lst 5 n (λk=>[i (a k),i (b k),i (c k),i (d k),bl (v k)])
theorem OC(f:Nat->List AV)(k:Nat):GE 0 (λ_=>[]) f k=f k:=by
 show H0 (decide (k<0)) [] (f (k-0))=_;rw [show decide (k<0)=false by simp]
 rfl
theorem V5{p:Prop}(h:p:=by
 simp only [VM.sat,UB,Xh6,true_and];refine ⟨λh=>h,⟨VJ,λk hk x hm=>((UE k hk).2 x hm).2⟩,VJ,λk hk=>⟨OC f k,λx hm=>((UE k hk).2 x hm).1⟩⟩):p:=h
theorem Wm0(n:Nat)(f:Nat->List AV)(VR:n<=100000)(UE:gdX 4 n f):DL VO 99 [.lst 4 n f] 145 4 (n) (f):=by
 refine BI (L:=[]) Aa Ad VY Tryz.func99 (UT Tryz.f99) G5 (t:=VM.may (n=0) (leaf none) (need [(0+n)*32<=140737488355328,∀(i:Nat),i<n-> ∀(a:AV),a∈f i->AV.one a=true] (leaf (some (145,4,0+n,GE 0 (λx=>[]) λa=>f a))))) VT ?_ (λk hk=>(UE k hk).1)
 exact V5
def sN:BF:=λl=>match l with
 |[.lst 4 n f]=>some ([n<=100000,gdX 4 n f],145,4,n,f)
 |_=>none
theorem Wl9:Sx.Enters Tryz.prog 99/\ ∀avs ns T sz n g,sN avs=some (ns,T,sz,n,g)->(∀q∈ns,q)->DL VO 99 avs T sz n g:=by
 refine ⟨(UG Tryz.func99),?_⟩;intro avs ns T sz n g h I;unfold sN at h;split at h
 ·cases h;exact Wm0 _ _ (I _ VV) (I _ VV)
 ·cases h
theorem Wm2(n:Nat)(f:Nat->List AV)(VR:n<=100000)(UE:gdX 5 n f):DL VO 100 [.lst 5 n f] 74 5 (n) (f):=by
 refine BI (L:=[]) Aa Ad VY Tryz.func100 (UT Tryz.f100) G5 (t:=VM.may (n=0) (leaf none) (need [(0+n)*40<=140737488355328,∀(i:Nat),i<n-> ∀(a:AV),a∈f i->AV.one a=true] (leaf (some (74,5,0+n,GE 0 (λx=>[]) λa=>f a))))) VT ?_ (λk hk=>(UE k hk).1)
 exact V5
def aN:BF:=λl=>match l with
 |[.lst 5 n f]=>some ([n<=100000,gdX 5 n f],74,5,n,f)
 |_=>none
theorem iA:Sx.Enters Tryz.prog 100/\ ∀avs ns T sz n g,aN avs=some (ns,T,sz,n,g)->(∀q∈ns,q)->DL VO 100 avs T sz n g:=by
 refine ⟨(UG Tryz.func100),?_⟩;intro avs ns T sz n g h I;unfold aN at h;split at h
 ·cases h;exact Wm2 _ _ (I _ VV) (I _ VV)
 ·cases h
theorem Wl8(n:Nat)(f:Nat->List AV)(VR:n<=100000)(UE:gdX 5 n f):DL VO 101 [.lst 5 n f] 152 5 (n) (f):=by
 refine BI (L:=[]) Aa Ad VY Tryz.func101 (UT Tryz.f101) G5 (t:=VM.may (n=0) (leaf none) (need [(0+n)*40<=140737488355328,∀(i:Nat),i<n-> ∀(a:AV),a∈f i->AV.one a=true] (leaf (some (152,5,0+n,GE 0 (λx=>[]) λa=>f a))))) VT ?_ (λk hk=>(UE k hk).1)
 exact V5
def sM:BF:=λl=>match l with
 |[.lst 5 n f]=>some ([n<=100000,gdX 5 n f],152,5,n,f)
 |_=>none
theorem Wl7:Sx.Enters Tryz.prog 101/\ ∀avs ns T sz n g,sM avs=some (ns,T,sz,n,g)->(∀q∈ns,q)->DL VO 101 avs T sz n g:=by
 refine ⟨(UG Tryz.func101),?_⟩;intro avs ns T sz n g h I;unfold sM at h;split at h
 ·cases h;exact Wl8 _ _ (I _ VV) (I _ VV)
 ·cases h
theorem Wl6(n:Nat)(f:Nat->List AV)(VR:n<=100000)(UE:gdX 2 n f):DL VO 102 [.lst 2 n f] 150 2 (n) (f):=by
 refine BI (L:=[]) Aa Ad VY Tryz.func102 (UT Tryz.f102) G5 (t:=VM.may (n=0) (leaf none) (need [(0+n)*16<=140737488355328,∀(i:Nat),i<n-> ∀(a:AV),a∈f i->AV.one a=true] (leaf (some (150,2,0+n,GE 0 (λx=>[]) λa=>f a))))) VT ?_ (λk hk=>(UE k hk).1)
 exact V5
def sL:BF:=λl=>match l with
 |[.lst 2 n f]=>some ([n<=100000,gdX 2 n f],150,2,n,f)
 |_=>none
theorem Wl5:Sx.Enters Tryz.prog 102/\ ∀avs ns T sz n g,sL avs=some (ns,T,sz,n,g)->(∀q∈ns,q)->DL VO 102 avs T sz n g:=by
 refine ⟨(UG Tryz.func102),?_⟩;intro avs ns T sz n g h I;unfold sL at h;split at h
 ·cases h;exact Wl6 _ _ (I _ VV) (I _ VV)
 ·cases h
abbrev rdl(n:Nat)(r v:Nat->Int):AV:= .lst 2 n (λk=>[i (r k),i (v k)])
theorem V1{p:Prop}(h:p:=by
 have e0:j-n=0:=VJ;show H0 (decide (j<n)) _ (U4 _ _ (j-n))=_;rw [e0];rcases (show j<n\/j=n by omega) with h|rfl
 ·rw [decide_eq_true h];simp only [HE,apB,if_pos h];rfl
 ·rw [show decide (j<j)=false by simp]
  simp only [HE,apB,if_neg (Bf j)];rfl):p:=h
section
variable (n:Nat)
theorem Zj8(a b u v:Nat->Int)(x0 A W S:Int)(VR:n<=100000):VX VO 204 [rds n a b u v,.agg [i x0,i A,i W,i S]] (rds (n+1) (HE n a x0) (HE n b A) (HE n u W) (HE n v S)):=by
 refine GA (X:={R:=[],H:=[],C:=[],F:=[(99,sN)],D:=[] }) (L:=[]) Aa (VW.ofF Ab Ac (UA.nil _) (RS.cons Wl9 (RS.nil _)) (PW.nil _)) VY Tryz.func204 (UT Tryz.f204) G5 (t:=need [n<=100000,gdX 4 n λk=>[Bo.i (a k),Bo.i (b k),Bo.i (u k),Bo.i (v k)]] (need [(n+1)*32<=140737488355328,RT 1 (U4 4 [iI x0,iI A,iI W,iI S])] (leaf (RV.lst 4 (n+1) (GE n ((rq4 a b u v)) (U4 4 [iI x0,iI A,iI W,iI S])))))) VT ?_
 simp only [VM.sat,UB,G4,GJ,UD,UH];have hg:gdX 4 n (λk=>[i (a k),i (b k),i (u k),i (v k)]):=λk _=>⟨rfl,λx hx=>by
  simp only [GM,DO,or_false] at hx;rcases hx with rfl|rfl|rfl|rfl<;>exact ⟨Ak,by simp [AV.one,Value.oneCell']⟩⟩
 refine ⟨⟨VR,hg⟩,⟨VJ,λj hj x hx=>?_⟩,?_⟩
 ·obtain rfl:j=0:=VJ;have hx:x∈[i x0,i A,i W,i S]:=hx;simp only [GM,DO,or_false] at hx;rcases hx with rfl|rfl|rfl|rfl<;>simp [AV.one,Value.oneCell']
 ·intro j hj;refine ⟨?_,λx hx=>?_⟩
  ·exact V1
  ·simp only [GM,DO,or_false] at hx;rcases hx with rfl|rfl|rfl|rfl<;>exact Ak
def Qg2(a b u v:Nat->Int):UW
 |[.lst 4 n1 f1,.agg [.x (.int .i64 x0),.x (.int .i64 A),.x (.int .i64 W),.x (.int .i64 S)]]=>some ([lst 4 n1 f1=rds n a b u v,n<=100000],rds (n+1) (HE n a x0) (HE n b A) (HE n u W) (HE n v S))
 |_=>none
theorem Xf9(a b u v:Nat->Int):VP VO 204 (Qg2 n a b u v):=by
 refine ⟨(UG Tryz.func204),?_⟩;intro avs ns res h I;unfold Qg2 at h;split at h
 ·cases h;have e:=I _ GG;rw [e];exact Zj8 n a b u v _ _ _ _ (I _ VV)
 ·cases h
theorem Zj7(a b c U O:Nat->Int)(x0 A W S x4:Int)(VR:n<=100000):VX VO 212 [sls n a b c U O,.agg [i x0,i A,i W,i S,i x4]] (sls (n+1) (HE n a x0) (HE n b A) (HE n c W) (HE n U S) (HE n O x4)):=by
 refine GA (X:={R:=[],H:=[],C:=[],F:=[(101,sM)],D:=[] }) (L:=[]) Aa (VW.ofF Ab Ac (UA.nil _) (RS.cons Wl7 (RS.nil _)) (PW.nil _)) VY Tryz.func212 (UT Tryz.f212) G5 (t:=need [n<=100000,gdX 5 n λk=>[i (a k),i (b k),i (c k),i (U k),i (O k)]] (need [(n+1)*40<=140737488355328,RT 1 (U4 5 [iI x0,iI A,iI W,iI S,iI x4])] (leaf (RV.lst 5 (n+1) (GE n (λk=>[iI (a k),iI (b k),iI (c k),iI (U k),iI (O k)]) (U4 5 [iI x0,iI A,iI W,iI S,iI x4])))))) VT ?_
 simp only [VM.sat,UB,G4,GJ,UD,UH];have hg:gdX 5 n (λk=>[i (a k),i (b k),i (c k),i (U k),i (O k)]):=λk _=>⟨rfl,λx hx=>by
  simp only [GM,DO,or_false] at hx;rcases hx with rfl|rfl|rfl|rfl|rfl<;>exact ⟨Ak,by simp [AV.one,Value.oneCell']⟩⟩
 refine ⟨⟨VR,hg⟩,⟨VJ,λj hj x hx=>?_⟩,?_⟩
 ·obtain rfl:j=0:=VJ;have hx:x∈[i x0,i A,i W,i S,i x4]:=hx;simp only [GM,DO,or_false] at hx;rcases hx with rfl|rfl|rfl|rfl|rfl<;>simp [AV.one,Value.oneCell']
 ·intro j hj;refine ⟨?_,λx hx=>?_⟩
  ·exact V1
  ·simp only [GM,DO,or_false] at hx;rcases hx with rfl|rfl|rfl|rfl|rfl<;>exact Ak
def Qg1(a b c U O:Nat->Int):UW
 |[.lst 5 n1 f1,.agg [.x (.int .i64 x0),.x (.int .i64 A),.x (.int .i64 W),.x (.int .i64 S),.x (.int .i64 x4)]]=>some ([lst 5 n1 f1=sls n a b c U O,n<=100000],sls (n+1) (HE n a x0) (HE n b A) (HE n c W) (HE n U S) (HE n O x4))
 |_=>none
theorem Xf8(a b c U O:Nat->Int):VP VO 212 (Qg1 n a b c U O):=by
 refine ⟨(UG Tryz.func212),?_⟩;intro avs ns res h I;unfold Qg1 at h;split at h
 ·cases h;have e:=I _ GG;rw [e];exact Zj7 n a b c U O _ _ _ _ _ (I _ VV)
 ·cases h
theorem Zj6(r v:Nat->Int)(x0 A:Int)(VR:n<=100000):VX VO 210 [rdl n r v,.agg [i x0,i A]] (rdl (n+1) (HE n r x0) (HE n v A)):=by
 refine GA (X:={R:=[],H:=[],C:=[],F:=[(102,sL)],D:=[] }) (L:=[]) Aa (VW.ofF Ab Ac (UA.nil _) (RS.cons Wl5 (RS.nil _)) (PW.nil _)) VY Tryz.func210 (UT Tryz.f210) G5 (t:=need [n<=100000,gdX 2 n λk=>[i (r k),i (v k)]] (need [(n+1)*16<=140737488355328,RT 1 (U4 2 [iI x0,iI A])] (leaf (RV.lst 2 (n+1) (GE n (λk=>[iI (r k),iI (v k)]) (U4 2 [iI x0,iI A])))))) VT ?_
 simp only [VM.sat,UB,G4,GJ,UD,UH];have hg:gdX 2 n (λk=>[i (r k),i (v k)]):=λk _=>⟨rfl,λx hx=>by
  simp only [GM,DO,or_false] at hx;rcases hx with rfl|rfl<;>exact ⟨Ak,by simp [AV.one,Value.oneCell']⟩⟩
 refine ⟨⟨VR,hg⟩,⟨VJ,λj hj x hx=>?_⟩,?_⟩
 ·obtain rfl:j=0:=VJ;have hx:x∈[i x0,i A]:=hx;simp only [GM,DO,or_false] at hx;rcases hx with rfl|rfl<;>simp [AV.one,Value.oneCell']
 ·intro j hj;refine ⟨?_,λx hx=>?_⟩
  ·exact V1
  ·simp only [GM,DO,or_false] at hx;rcases hx with rfl|rfl<;>exact Ak
def Qg0(r v:Nat->Int):UW
 |[.lst 2 n1 f1,.agg [.x (.int .i64 x0),.x (.int .i64 A)]]=>some ([lst 2 n1 f1=rdl n r v,n<=100000],rdl (n+1) (HE n r x0) (HE n v A))
 |_=>none
theorem Xf7(r v:Nat->Int):VP VO 210 (Qg0 n r v):=by
 refine ⟨(UG Tryz.func210),?_⟩;intro avs ns res h I;unfold Qg0 at h;split at h
 ·cases h;have e:=I _ GG;rw [e];exact Zj6 n r v _ _ (I _ VV)
 ·cases h
theorem Zj9(a b c d:Nat->Int)(w:Nat->Bool)(x0 A W S:Int)(xw:Bool)(VR:n<=100000):VX VO 211 [crs n a b c d w,.agg [i x0,i A,i W,i S,bl xw]] (crs (n+1) (HE n a x0) (HE n b A) (HE n c W) (HE n d S) (apB n w xw)):=by
 refine GA (X:={R:=[],H:=[],C:=[],F:=[(100,aN)],D:=[] }) (L:=[]) Aa (VW.ofF Ab Ac (UA.nil _) (RS.cons iA (RS.nil _)) (PW.nil _)) VY Tryz.func211 (UT Tryz.f211) G5 (t:=need [n<=100000,gdX 5 n λk=>[i (a k),i (b k),i (c k),i (d k),bl (w k)]] (need [(n+1)*40<=140737488355328,RT 1 (U4 5 [iI x0,iI A,iI W,iI S,AV.x (.bool xw)])] (leaf (RV.lst 5 (n+1) (GE n (λk=>[iI (a k),iI (b k),iI (c k),iI (d k),AV.x (.bool (w k))]) (U4 5 [iI x0,iI A,iI W,iI S,AV.x (.bool xw)])))))) VT ?_
 simp only [VM.sat,UB,G4,GJ,UD,UH];have hg:gdX 5 n (λk=>[i (a k),i (b k),i (c k),i (d k),bl (w k)]):=λk _=>⟨rfl,λx hx=>by
  simp only [GM,DO,or_false] at hx;rcases hx with rfl|rfl|rfl|rfl|rfl<;>exact ⟨Ak,by simp [AV.one,Value.oneCell']⟩⟩
 refine ⟨⟨VR,hg⟩,⟨VJ,λj hj x hx=>?_⟩,?_⟩
 ·obtain rfl:j=0:=VJ;have hx:x∈[i x0,i A,i W,i S,bl xw]:=hx;simp only [GM,DO,or_false] at hx;rcases hx with rfl|rfl|rfl|rfl|rfl<;>simp [AV.one,Value.oneCell']
 ·intro j hj;refine ⟨?_,λx hx=>?_⟩
  ·exact V1
  ·simp only [GM,DO,or_false] at hx;rcases hx with rfl|rfl|rfl|rfl|rfl<;>exact Ak
def Qg3(a b c d:Nat->Int)(w:Nat->Bool):UW
 |[.lst 5 n1 f1,.agg [.x (.int .i64 x0),.x (.int .i64 A),.x (.int .i64 W),.x (.int .i64 S),.x (.bool xw)]]=>some ([lst 5 n1 f1=crs n a b c d w,n<=100000],crs (n+1) (HE n a x0) (HE n b A) (HE n c W) (HE n d S) (apB n w xw))
 |_=>none
theorem Xg0(a b c d:Nat->Int)(w:Nat->Bool):VP VO 211 (Qg3 n a b c d w):=by
 refine ⟨(UG Tryz.func211),?_⟩;intro avs ns res h I;unfold Qg3 at h;split at h
 ·cases h;have e:=I _ GG;rw [e];exact Zj9 n a b c d w _ _ _ _ _ (I _ VV)
 ·cases h
end
def RL:UW
 |[.x (.int .i64 n),.x (.int .i64 U),.x (.int .i64 O)]=>some ([],bl (bt U n O))
 |_=>none
theorem oM(n U O:Int):VX VO 36 [i n,i U,i O] (bl (bt U n O)):=by
 refine GV Tryz.func36 (t:=branch (decide (U<=n)) (leaf (RV.x (.bool (decide (n<=O))))) (leaf (RV.x (WM)))) VT ?_;exact V9
theorem PP:VP VO 36 RL:=by
 refine ⟨(UG Tryz.func36),?_⟩;intro avs ns res h I;unfold RL at h;split at h
 ·cases h;exact oM _ _ _
 ·cases h
end Go.Proofs.YtakpdkmhclhlnaaGreatDoor.Hd
