/- Contracts, put together. Conditions: those of each. -/
import Derived.Test.YtlclobclmfhlmaaGreatDoorMh
import Derived.Shelf.Slices.Cells
import Derived.Deep.Upon
set_option linter.unusedSimpArgs false
set_option linter.unusedVariables false
set_option maxRecDepth 100000
namespace Go.Proofs.YtlclobclmfhlmaaGreatDoor.Hd
open Go Go.Shelf Go.Sx Go.RowKit
def pM:Go.Shelf.Ren:=⟨λ| 112=>223|n=>n,λ| 28=>61|n=>n,λn=>n⟩
theorem Wj7:Go.Proofs.Lays.n112 Tryz.prog pM:=by
 constructor<;>first|(intro _;kernel_rfl)|kernel_rfl|(constructor<;>first|(intro _;kernel_rfl)|kernel_rfl|(constructor<;>first|(intro _;kernel_rfl)|kernel_rfl))
def Qa1:D6:=λavs m nx sv=>match avs with
 |[.row q]=>match DJ m q with
  |some (.row T sz n g)=>match O8 [(T,3),(sz,1)] with
   |true=>some (.needT [UH 1 n g,n<=100000] (.leaf (.tup [],jU (pF m) q,nx,sv)))
   |false=>none
  |_=>none
 |_=>none
theorem v8(b:Nat): ∀(vs:List Value) (o:Nat) (w:World),(w.setCells b o vs).heap.size=w.heap.size
 |[],_,_=>rfl
 |v::r,o,w=>by
  rw [World.setCells,v8 b r];simp
theorem v7(b:Nat): ∀(vs:List Value) (o:Nat) (w:World),(w.setCells b o vs).tape=w.tape
 |[],_,_=>rfl
 |v::r,o,w=>by
  rw [World.setCells,v7 b r];simp
theorem Qn9{w:World}{ov:Value}{n:Nat}{l:List Int}(I:n<=100000)(ho:w.ownsRow 0 3 1 ov n (l.map (Value.int .i64))):
  Calls Tryz.prog 223 #[ov] w λen Z=>en= .returned (.tuple #[])/\Z.heap.size=w.heap.size/\Z.os=w.os/\Z.tape=w.tape/\Z.output=w.output/\ ∀x,x<w.heap.size->ov.ownBlock≠some x->Z.heap[x]? =w.heap[x]? :=by
 have HZ:l.length=n:=by
  have:=ho.1;simpa using this
 rcases ho.2 with ⟨rfl,rfl⟩|⟨g,cap,cur,rfl,_,hh,r1,r2,r3,r4⟩
 ·refine Calls.mono (Any.slices_Reverse_int_empty Wj7 none 0 w) ?_;rintro en Z ⟨rfl,rfl⟩;exact ⟨rfl,rfl,rfl,rfl,rfl,λ_ _ _=>rfl⟩
 ·have PR: ∀j,j<l.length->w.cell? ⟨g,0+j,none⟩=some (.int .i64 (l.getD j 0)):=by
   intro j hj;have h2:cur[j]? =some (.int .i64 (l.getD j 0)):=by
    have h3:=congrArg (λl=>l[j]?) r4
    simp only [List.getElem?_take,Bn] at h3;rw [if_pos VM,D4 hj] at h3;rw [List.getD_eq_getElem?_getD,D4 hj];simpa using h3
   rw [Ap];simp [World.cell?,hh,h2]
  refine Calls.mono (Any.slices_Reverse_int_cells Wj7 g 0 n cap l w VM VM PR (λj _=>by simp [World.frozen?,hh])) ?_
  rintro en Z ⟨rfl,q,rfl⟩;refine ⟨rfl,?_,?_,?_,?_,λx hx hne=>?_⟩
  ·rw [v8];rfl
  ·rw [World.os_setCells];rfl
  ·rw [v7];rfl
  ·rw [World.output_setCells];rfl
  ·exact World.heap_setCells_other (w.drewN q) g 0 _ hx (λh=>hne (by rw [h];rfl))
theorem Wg3:GE VR 223 Qa1:=by
 refine ⟨(UK Tryz.func223),?_⟩;intro avs m nx sv tr ht Q hQ cx w0 TT e ds args w hE hB hm hlv LT hxt hr;unfold Qa1 at ht;split at ht
 ·rename_i q;split at ht
  ·rename_i T sz n g h1;split at ht
   ·rename_i hb;simp only [EM] at hb;obtain ⟨rfl,rfl,_⟩:=hb;cases ht;obtain ⟨I,hq⟩:=VP.sat_needT hQ;obtain ⟨n1,n2⟩:=I;obtain ⟨ov,l1,rfl,r1,hr⟩:=hr.cons_inv;obtain rfl:=hr.nil_inv;have H1:=hm _ (G0 h1);have R1:=qO H1 n1;have hv:e.val q=ov:=by
     cases r1 with
     |row _ a n c _ hv=>exact hv
    simp only at R1;rw [hv] at R1;have own1: ∀x,ov.ownBlock=some x->e.own x=some q:=λx hx=>H1.2.1 x (by show (e.val q).ownBlock=some x;rw [hv];exact hx)
    refine (Qn9 n2 R1).mono ?_;rintro en Z ⟨rfl,hsz,q1,q2,q3,jP⟩;have dne: ∀{x y j j':Nat},e.own x=some j->e.own y=some j'->j≠j'->x≠y:=by
     rintro x y j j' hx hy hj rfl;rw [hx] at hy;exact hj (Bb hy)
    have Xl3: ∀x,x<w.heap.size->e.ro x->Z.heap[x]? =w.heap[x]? :=λx hx hx2=>jP x hx (λh=>by
     have:=own1 x h;rw [(hE.apart x hx2).1] at this;cases this)
    have st:Step e e w Z:=⟨λx hx hx2=>⟨hx2,Xl3 x hx hx2⟩,λ_ h=>⟨h,rfl,rfl⟩,VM⟩
    have hBel:Below w0.heap.size w0 Z:=by
     refine ⟨q1.trans hB.os,q2.trans hB.tape,q3.trans hB.output,by have:=hB.size;omega,λx hx=>?_⟩
     rw [jP x (qD hx hB.size) (λh=>by have:=(hE.owned _ _ (own1 x h)).1;omega)]
     exact hB.block x hx
    refine ⟨_,_,_,_,_,e,rfl,hq,⟨λx hx=>⟨(hE.apart x hx).1,by rw [hsz];exact (hE.apart x hx).2⟩,λx j hx=>⟨(hE.owned x j hx).1,by rw [hsz];exact (hE.owned x j hx).2⟩,hE.glob.step st⟩,hBel,?_,hlv,LT,hxt.step st,Rep.tupL (.nil _ _)⟩
    intro p hp;obtain ⟨hp,hne⟩:=L6 hp;obtain ⟨hpm,hna⟩:=EP hp;exact LN st (λx hx=>⟨hx,jP x (hE.owned x _ hx).2 (λh=>dne hx (own1 x h) hne rfl)⟩) hna (hm p hpm)
   ·cases ht
  ·cases ht
 ·cases ht
end Go.Proofs.YtlclobclmfhlmaaGreatDoor.Hd
namespace Go.Proofs.YtlclobclmfhlmaaGreatDoor.Hd
open Go Go.Sx Go.RowKit Bo
open Go.Sx.VP (need branch leaf)
open Go.Sx.AV (lst ptr agg roI tup top)
section
variable (n:Nat)(a b c U O:Nat->Int)
def orE:Int:=if jD n a b c U O=true then 0 else 9
theorem Qp0(VU:sV n a b c U O):U0 VR 193 [.agg [i 4,i 10,sls n a b c U O]] (.tup [.top,.top,i (orE n a b c U O)]):=by
 refine GD (X:={R:=[],H:=[(222,(Xv7 [(.slot 1,0,0,0),(.slot 2,0,0,0),(.slot 3,0,0,0),(.cell 1 0,900,3,1)] (nO n a b c U O (2^n)))),(223,Qa1)],C:=[(26,(MM n a b c U O))] }) (L:=[]) Aa (Aj Ab (Ag (iB (Wg8 VU (2^n))) (Ag Wg3 Ac)) (Ah (vP n a b c U O VU) (UE.nil _))) U1 Tryz.func193 (UW Tryz.f193) G7 (t:=let z2:=(orG n a b c U O (0:Int).toNat (0:Int));let z0:=(leaf (RV.tup [RV.top,RV.lst 1 n λj=>[iI (dyU z2 (col 0 λx=>List.map AV.x (Array.toList (Value.cells (X2)))) j)],RV.x (X2)]));let z1:=(leaf (RV.tup [RV.top,RV.lst 1 n λx=>[iI 0],RV.x (X2)]));let z3:=(need [(0:Int)<=(n:Int)/\(n:Int)<=1000000,U2 (n:Int)] VP.fail);(need [QP n a b c U O] (branch (!true) (branch ((2:Int) != 0) (leaf (RV.tup [RV.x (J4),RV.x (J4),RV.x (.int .i64 (2:Int))])) z3) (branch (!jD n a b c U O) (branch ((9:Int) != 0) (leaf (RV.tup [RV.x (J4),RV.x (J4),RV.x (.int .i64 (9:Int))])) z3) (branch ((0:Int) != 0) (leaf (RV.tup [RV.x (J4),RV.x (J4),RV.x (X2)])) (need [(0:Int)<=(n:Int)/\(n:Int)<=1000000,U2 (n:Int)] (need [U2 (iI 4),U2 (iI 10),W5 n a b c U O,∀(x:Value),False->orH n a b c U O x/\x=orV x,UH 1 0 λx=>[],UH 1 n λx=>List.map AV.x (Array.toList (Value.cells (X2))),n=n,(0:Int)<=0/\(0:Int)<2^n,2^n-(0:Int).toNat<=2^n,(0:Int)<=0/\(0:Int)<=100,0<=1000] (branch (Option.isSome (orS n a b c U O (0:Int).toNat (0:Int))) (need [UH 1 (List.length ((xS 0 λx=>[])++orL z2)) λj=>[i (UB ((xS 0 λx=>[])++orL z2) j)],List.length ((xS 0 λx=>[])++orL z2)<=100000] (VP.may True z0 (VP.may True z0 z0))) (need [UH 1 0 λx=>[],0<=100000] (VP.may True z1 (VP.may True z1 z1))))))))))) VW ?_
 have h8:=VU.1;have hp1:1<=2^n:=Nat.one_le_two_pow;have hpi:=gD h8;have h256:=AC h8;have hgl:=Qc8 n a b c U O 0 0;simp only [VP.sat,UD,G8,GO,UG,UJ,orE,Int.toNat_zero];refine ⟨λh=>by simp at h,λ_=>⟨λh=>?_,λh=>?_⟩⟩
 ·have hf: ¬jD n a b c U O=true:=by
   rw [Ax] at h;rw [h];simp
  rw [if_neg hf];exact ⟨λ_=>rfl,λh=>by simp at h⟩
 ·have hf:jD n a b c U O=true:=by simpa using h
  rw [if_pos hf];have HZ:((xS 0 λx=>[])++orL (orG n a b c U O 0 0)).length<=100000:=by
   rw [Be];simp only [xS,orL,List.range_zero,List.map_nil,List.length_nil,Bm];omega
  refine ⟨λh=>by simp at h,λ_=>⟨VM,⟨λ_ h=>h.elim,λk hk=>absurd hk (Aq _),λk _=>rfl,VM,VM⟩,λ_=>?_,λ_=>?_⟩⟩
  ·exact ⟨⟨oI _ _,HZ⟩,λ_=>rfl,λ_=>rfl,rfl⟩
  ·exact ⟨⟨λk hk=>absurd hk (Aq _),VM⟩,λ_=>rfl,λ_=>rfl,rfl⟩
end
def gdX(sz n:Nat)(f:Nat->List AV):Prop:= ∀k,k<n->(f k).length=sz/\ ∀x∈f k,isX x/\AV.one x=true
def HI(n:Nat)(f:Nat->Int)(x:Int)(k:Nat):Int:=if k<n then f k else x
def apB(n:Nat)(f:Nat->Bool)(x:Bool)(k:Nat):Bool:=if k<n then f k else x
abbrev crs(n:Nat)(a b c d:Nat->Int)(v:Nat->Bool):AV:= .lst 5 n (λk=>[i (a k),i (b k),i (c k),i (d k),bl (v k)])
theorem S7(f:Nat->List AV)(k:Nat):GI 0 (λ_=>[]) f k=f k:=by
 show HD (decide (k<0)) [] (f (k-0))=_;rw [show decide (k<0)=false by simp]
 rfl
theorem V9{p:Prop}(h:p:=by
 simp only [VP.sat,UD,Xm6,true_and];refine ⟨λh=>h,⟨VM,λk hk x hm=>((UI k hk).2 x hm).2⟩,VM,λk hk=>⟨S7 f k,λx hm=>((UI k hk).2 x hm).1⟩⟩):p:=h
theorem Wr4(n:Nat)(f:Nat->List AV)(VU:n<=100000)(UI:gdX 4 n f):DR VR 64 [.lst 4 n f] 72 4 (n) (f):=by
 refine BS (L:=[]) Aa Ad U1 Tryz.func64 (UW Tryz.f64) G7 (t:=VP.may (n=0) (leaf none) (need [(0+n)*32<=140737488355328,∀(i:Nat),i<n-> ∀(a:AV),a∈f i->AV.one a=true] (leaf (some (72,4,0+n,GI 0 (λx=>[]) λa=>f a))))) VW ?_ (λk hk=>(UI k hk).1)
 exact V9
def Qa6:BQ:=λl=>match l with
 |[.lst 4 n f]=>some ([n<=100000,gdX 4 n f],72,4,n,f)
 |_=>none
theorem Wr3:Sx.Enters Tryz.prog 64/\ ∀avs ns T sz n g,Qa6 avs=some (ns,T,sz,n,g)->(∀q∈ns,q)->DR VR 64 avs T sz n g:=by
 refine ⟨(UK Tryz.func64),?_⟩;intro avs ns T sz n g h I;unfold Qa6 at h;split at h
 ·cases h;exact Wr4 _ _ (I _ VX) (I _ VX)
 ·cases h
theorem Wr6(n:Nat)(f:Nat->List AV)(VU:n<=100000)(UI:gdX 5 n f):DR VR 65 [.lst 5 n f] 81 5 (n) (f):=by
 refine BS (L:=[]) Aa Ad U1 Tryz.func65 (UW Tryz.f65) G7 (t:=VP.may (n=0) (leaf none) (need [(0+n)*40<=140737488355328,∀(i:Nat),i<n-> ∀(a:AV),a∈f i->AV.one a=true] (leaf (some (81,5,0+n,GI 0 (λx=>[]) λa=>f a))))) VW ?_ (λk hk=>(UI k hk).1)
 exact V9
def bS:BQ:=λl=>match l with
 |[.lst 5 n f]=>some ([n<=100000,gdX 5 n f],81,5,n,f)
 |_=>none
theorem lH:Sx.Enters Tryz.prog 65/\ ∀avs ns T sz n g,bS avs=some (ns,T,sz,n,g)->(∀q∈ns,q)->DR VR 65 avs T sz n g:=by
 refine ⟨(UK Tryz.func65),?_⟩;intro avs ns T sz n g h I;unfold bS at h;split at h
 ·cases h;exact Wr6 _ _ (I _ VX) (I _ VX)
 ·cases h
theorem Wr2(n:Nat)(f:Nat->List AV)(VU:n<=100000)(UI:gdX 5 n f):DR VR 66 [.lst 5 n f] 83 5 (n) (f):=by
 refine BS (L:=[]) Aa Ad U1 Tryz.func66 (UW Tryz.f66) G7 (t:=VP.may (n=0) (leaf none) (need [(0+n)*40<=140737488355328,∀(i:Nat),i<n-> ∀(a:AV),a∈f i->AV.one a=true] (leaf (some (83,5,0+n,GI 0 (λx=>[]) λa=>f a))))) VW ?_ (λk hk=>(UI k hk).1)
 exact V9
def Qa5:BQ:=λl=>match l with
 |[.lst 5 n f]=>some ([n<=100000,gdX 5 n f],83,5,n,f)
 |_=>none
theorem Wr1:Sx.Enters Tryz.prog 66/\ ∀avs ns T sz n g,Qa5 avs=some (ns,T,sz,n,g)->(∀q∈ns,q)->DR VR 66 avs T sz n g:=by
 refine ⟨(UK Tryz.func66),?_⟩;intro avs ns T sz n g h I;unfold Qa5 at h;split at h
 ·cases h;exact Wr2 _ _ (I _ VX) (I _ VX)
 ·cases h
theorem Wr0(n:Nat)(f:Nat->List AV)(VU:n<=100000)(UI:gdX 2 n f):DR VR 67 [.lst 2 n f] 77 2 (n) (f):=by
 refine BS (L:=[]) Aa Ad U1 Tryz.func67 (UW Tryz.f67) G7 (t:=VP.may (n=0) (leaf none) (need [(0+n)*16<=140737488355328,∀(i:Nat),i<n-> ∀(a:AV),a∈f i->AV.one a=true] (leaf (some (77,2,0+n,GI 0 (λx=>[]) λa=>f a))))) VW ?_ (λk hk=>(UI k hk).1)
 exact V9
def Qa4:BQ:=λl=>match l with
 |[.lst 2 n f]=>some ([n<=100000,gdX 2 n f],77,2,n,f)
 |_=>none
theorem Wq9:Sx.Enters Tryz.prog 67/\ ∀avs ns T sz n g,Qa4 avs=some (ns,T,sz,n,g)->(∀q∈ns,q)->DR VR 67 avs T sz n g:=by
 refine ⟨(UK Tryz.func67),?_⟩;intro avs ns T sz n g h I;unfold Qa4 at h;split at h
 ·cases h;exact Wr0 _ _ (I _ VX) (I _ VX)
 ·cases h
abbrev rdl(n:Nat)(r v:Nat->Int):AV:= .lst 2 n (λk=>[i (r k),i (v k)])
theorem V5{p:Prop}(h:p:=by
 have e0:j-n=0:=VM;show HD (decide (j<n)) _ (U8 _ _ (j-n))=_;rw [e0];rcases (show j<n\/j=n by omega) with h|rfl
 ·rw [decide_eq_true h];simp only [HI,apB,if_pos h];rfl
 ·rw [show decide (j<j)=false by simp]
  simp only [HI,apB,if_neg (Bf j)];rfl):p:=h
section
variable (n:Nat)
theorem Zn5(a b u v:Nat->Int)(x0 A W S:Int)(VU:n<=100000):U0 VR 183 [rds n a b u v,.agg [i x0,i A,i W,i S]] (rds (n+1) (HI n a x0) (HI n b A) (HI n u W) (HI n v S)):=by
 refine GD (X:={R:=[],H:=[],C:=[],F:=[(64,Qa6)],D:=[] }) (L:=[]) Aa (VZ.ofF Ab Ac (UE.nil _) (RY.cons Wr3 (RY.nil _)) (B9.nil _)) U1 Tryz.func183 (UW Tryz.f183) G7 (t:=need [n<=100000,gdX 4 n λk=>[Bo.i (a k),Bo.i (b k),Bo.i (u k),Bo.i (v k)]] (need [(n+1)*32<=140737488355328,RZ 1 (U8 4 [iI x0,iI A,iI W,iI S])] (leaf (RV.lst 4 (n+1) (GI n ((rq4 a b u v)) (U8 4 [iI x0,iI A,iI W,iI S])))))) VW ?_
 simp only [VP.sat,UD,G8,GO,UG,UJ];have hg:gdX 4 n (λk=>[i (a k),i (b k),i (u k),i (v k)]):=λk _=>⟨rfl,λx hx=>by
  simp only [GQ,DQ,or_false] at hx;rcases hx with rfl|rfl|rfl|rfl<;>exact ⟨Ak,by simp [AV.one,Value.oneCell']⟩⟩
 refine ⟨⟨VU,hg⟩,⟨VM,λj hj x hx=>?_⟩,?_⟩
 ·obtain rfl:j=0:=VM;have hx:x∈[i x0,i A,i W,i S]:=hx;simp only [GQ,DQ,or_false] at hx;rcases hx with rfl|rfl|rfl|rfl<;>simp [AV.one,Value.oneCell']
 ·intro j hj;refine ⟨?_,λx hx=>?_⟩
  ·exact V5
  ·simp only [GQ,DQ,or_false] at hx;rcases hx with rfl|rfl|rfl|rfl<;>exact Ak
def Qk9(a b u v:Nat->Int):UY
 |[.lst 4 n1 f1,.agg [.x (.int .i64 x0),.x (.int .i64 A),.x (.int .i64 W),.x (.int .i64 S)]]=>some ([lst 4 n1 f1=rds n a b u v,n<=100000],rds (n+1) (HI n a x0) (HI n b A) (HI n u W) (HI n v S))
 |_=>none
theorem Xk8(a b u v:Nat->Int):VS VR 183 (Qk9 n a b u v):=by
 refine ⟨(UK Tryz.func183),?_⟩;intro avs ns res h I;unfold Qk9 at h;split at h
 ·cases h;have e:=I _ GJ;rw [e];exact Zn5 n a b u v _ _ _ _ (I _ VX)
 ·cases h
theorem Zn4(a b c U O:Nat->Int)(x0 A W S x4:Int)(VU:n<=100000):U0 VR 192 [sls n a b c U O,.agg [i x0,i A,i W,i S,i x4]] (sls (n+1) (HI n a x0) (HI n b A) (HI n c W) (HI n U S) (HI n O x4)):=by
 refine GD (X:={R:=[],H:=[],C:=[],F:=[(66,Qa5)],D:=[] }) (L:=[]) Aa (VZ.ofF Ab Ac (UE.nil _) (RY.cons Wr1 (RY.nil _)) (B9.nil _)) U1 Tryz.func192 (UW Tryz.f192) G7 (t:=need [n<=100000,gdX 5 n λk=>[i (a k),i (b k),i (c k),i (U k),i (O k)]] (need [(n+1)*40<=140737488355328,RZ 1 (U8 5 [iI x0,iI A,iI W,iI S,iI x4])] (leaf (RV.lst 5 (n+1) (GI n (λk=>[iI (a k),iI (b k),iI (c k),iI (U k),iI (O k)]) (U8 5 [iI x0,iI A,iI W,iI S,iI x4])))))) VW ?_
 simp only [VP.sat,UD,G8,GO,UG,UJ];have hg:gdX 5 n (λk=>[i (a k),i (b k),i (c k),i (U k),i (O k)]):=λk _=>⟨rfl,λx hx=>by
  simp only [GQ,DQ,or_false] at hx;rcases hx with rfl|rfl|rfl|rfl|rfl<;>exact ⟨Ak,by simp [AV.one,Value.oneCell']⟩⟩
 refine ⟨⟨VU,hg⟩,⟨VM,λj hj x hx=>?_⟩,?_⟩
 ·obtain rfl:j=0:=VM;have hx:x∈[i x0,i A,i W,i S,i x4]:=hx;simp only [GQ,DQ,or_false] at hx;rcases hx with rfl|rfl|rfl|rfl|rfl<;>simp [AV.one,Value.oneCell']
 ·intro j hj;refine ⟨?_,λx hx=>?_⟩
  ·exact V5
  ·simp only [GQ,DQ,or_false] at hx;rcases hx with rfl|rfl|rfl|rfl|rfl<;>exact Ak
def Qk8(a b c U O:Nat->Int):UY
 |[.lst 5 n1 f1,.agg [.x (.int .i64 x0),.x (.int .i64 A),.x (.int .i64 W),.x (.int .i64 S),.x (.int .i64 x4)]]=>some ([lst 5 n1 f1=sls n a b c U O,n<=100000],sls (n+1) (HI n a x0) (HI n b A) (HI n c W) (HI n U S) (HI n O x4))
 |_=>none
theorem Xk7(a b c U O:Nat->Int):VS VR 192 (Qk8 n a b c U O):=by
 refine ⟨(UK Tryz.func192),?_⟩;intro avs ns res h I;unfold Qk8 at h;split at h
 ·cases h;have e:=I _ GJ;rw [e];exact Zn4 n a b c U O _ _ _ _ _ (I _ VX)
 ·cases h
theorem Zn3(r v:Nat->Int)(x0 A:Int)(VU:n<=100000):U0 VR 190 [rdl n r v,.agg [i x0,i A]] (rdl (n+1) (HI n r x0) (HI n v A)):=by
 refine GD (X:={R:=[],H:=[],C:=[],F:=[(67,Qa4)],D:=[] }) (L:=[]) Aa (VZ.ofF Ab Ac (UE.nil _) (RY.cons Wq9 (RY.nil _)) (B9.nil _)) U1 Tryz.func190 (UW Tryz.f190) G7 (t:=need [n<=100000,gdX 2 n λk=>[i (r k),i (v k)]] (need [(n+1)*16<=140737488355328,RZ 1 (U8 2 [iI x0,iI A])] (leaf (RV.lst 2 (n+1) (GI n (λk=>[iI (r k),iI (v k)]) (U8 2 [iI x0,iI A])))))) VW ?_
 simp only [VP.sat,UD,G8,GO,UG,UJ];have hg:gdX 2 n (λk=>[i (r k),i (v k)]):=λk _=>⟨rfl,λx hx=>by
  simp only [GQ,DQ,or_false] at hx;rcases hx with rfl|rfl<;>exact ⟨Ak,by simp [AV.one,Value.oneCell']⟩⟩
 refine ⟨⟨VU,hg⟩,⟨VM,λj hj x hx=>?_⟩,?_⟩
 ·obtain rfl:j=0:=VM;have hx:x∈[i x0,i A]:=hx;simp only [GQ,DQ,or_false] at hx;rcases hx with rfl|rfl<;>simp [AV.one,Value.oneCell']
 ·intro j hj;refine ⟨?_,λx hx=>?_⟩
  ·exact V5
  ·simp only [GQ,DQ,or_false] at hx;rcases hx with rfl|rfl<;>exact Ak
def Qk7(r v:Nat->Int):UY
 |[.lst 2 n1 f1,.agg [.x (.int .i64 x0),.x (.int .i64 A)]]=>some ([lst 2 n1 f1=rdl n r v,n<=100000],rdl (n+1) (HI n r x0) (HI n v A))
 |_=>none
theorem Xk6(r v:Nat->Int):VS VR 190 (Qk7 n r v):=by
 refine ⟨(UK Tryz.func190),?_⟩;intro avs ns res h I;unfold Qk7 at h;split at h
 ·cases h;have e:=I _ GJ;rw [e];exact Zn3 n r v _ _ (I _ VX)
 ·cases h
theorem Zn6(a b c d:Nat->Int)(w:Nat->Bool)(x0 A W S:Int)(xw:Bool)(VU:n<=100000):U0 VR 191 [crs n a b c d w,.agg [i x0,i A,i W,i S,bl xw]] (crs (n+1) (HI n a x0) (HI n b A) (HI n c W) (HI n d S) (apB n w xw)):=by
 refine GD (X:={R:=[],H:=[],C:=[],F:=[(65,bS)],D:=[] }) (L:=[]) Aa (VZ.ofF Ab Ac (UE.nil _) (RY.cons lH (RY.nil _)) (B9.nil _)) U1 Tryz.func191 (UW Tryz.f191) G7 (t:=need [n<=100000,gdX 5 n λk=>[i (a k),i (b k),i (c k),i (d k),bl (w k)]] (need [(n+1)*40<=140737488355328,RZ 1 (U8 5 [iI x0,iI A,iI W,iI S,AV.x (.bool xw)])] (leaf (RV.lst 5 (n+1) (GI n (λk=>[iI (a k),iI (b k),iI (c k),iI (d k),AV.x (.bool (w k))]) (U8 5 [iI x0,iI A,iI W,iI S,AV.x (.bool xw)])))))) VW ?_
 simp only [VP.sat,UD,G8,GO,UG,UJ];have hg:gdX 5 n (λk=>[i (a k),i (b k),i (c k),i (d k),bl (w k)]):=λk _=>⟨rfl,λx hx=>by
  simp only [GQ,DQ,or_false] at hx;rcases hx with rfl|rfl|rfl|rfl|rfl<;>exact ⟨Ak,by simp [AV.one,Value.oneCell']⟩⟩
 refine ⟨⟨VU,hg⟩,⟨VM,λj hj x hx=>?_⟩,?_⟩
 ·obtain rfl:j=0:=VM;have hx:x∈[i x0,i A,i W,i S,bl xw]:=hx;simp only [GQ,DQ,or_false] at hx;rcases hx with rfl|rfl|rfl|rfl|rfl<;>simp [AV.one,Value.oneCell']
 ·intro j hj;refine ⟨?_,λx hx=>?_⟩
  ·exact V5
  ·simp only [GQ,DQ,or_false] at hx;rcases hx with rfl|rfl|rfl|rfl|rfl<;>exact Ak
def Ql0(a b c d:Nat->Int)(w:Nat->Bool):UY
 |[.lst 5 n1 f1,.agg [.x (.int .i64 x0),.x (.int .i64 A),.x (.int .i64 W),.x (.int .i64 S),.x (.bool xw)]]=>some ([lst 5 n1 f1=crs n a b c d w,n<=100000],crs (n+1) (HI n a x0) (HI n b A) (HI n c W) (HI n d S) (apB n w xw))
 |_=>none
theorem Xk9(a b c d:Nat->Int)(w:Nat->Bool):VS VR 191 (Ql0 n a b c d w):=by
 refine ⟨(UK Tryz.func191),?_⟩;intro avs ns res h I;unfold Ql0 at h;split at h
 ·cases h;have e:=I _ GJ;rw [e];exact Zn6 n a b c d w _ _ _ _ _ (I _ VX)
 ·cases h
end
def RQ:UY
 |[.x (.int .i64 n),.x (.int .i64 U),.x (.int .i64 O)]=>some ([],bl (bt U n O))
 |_=>none
theorem I1(n U O:Int):U0 VR 37 [i n,i U,i O] (bl (bt U n O)):=by
 refine GZ Tryz.func37 (t:=branch (decide (U<=n)) (leaf (RV.x (.bool (decide (n<=O))))) (leaf (RV.x (WO)))) VW ?_;exact VD
theorem B1:VS VR 37 RQ:=by
 refine ⟨(UK Tryz.func37),?_⟩;intro avs ns res h I;unfold RQ at h;split at h
 ·cases h;exact I1 _ _ _
 ·cases h
end Go.Proofs.YtlclobclmfhlmaaGreatDoor.Hd
