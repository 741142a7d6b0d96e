/- Contracts, put together. Conditions: those of each. -/
import Derived.Test.YtlclobclmfhlmaaGreatDoorMh
import Derived.Shelf.Slices.Cells
import Derived.Deep.Upon
set_option linter.unusedSimpArgs false
set_option linter.unusedVariables false
set_option maxRecDepth 100000
namespace Go.Proofs.YtlclobclmfhlmaaGreatDoor.Hd
open Go Go.Shelf Go.Sx Go.RowKit
def pO:Go.Shelf.Ren:=⟨λ| 112=>223|n=>n,λ| 28=>61|n=>n,λn=>n⟩
theorem Wj6:Go.Proofs.Lays.n112 Tryz.prog pO:=by
 constructor<;>first|(intro _;kernel_rfl)|kernel_rfl|(constructor<;>first|(intro _;kernel_rfl)|kernel_rfl|(constructor<;>first|(intro _;kernel_rfl)|kernel_rfl))
def Qa2:D7:=λavs m nx sv=>match avs with
 |[.row q]=>match DL m q with
  |some (.row T sz n g)=>match OA [(T,3),(sz,1)] with
   |true=>some (.needT [UJ 1 n g,n<=100000] (.leaf (.tup [],jW (pH m) q,nx,sv)))
   |false=>none
  |_=>none
 |_=>none
theorem v9(b:Nat): ∀(vs:List Value) (o:Nat) (w:World),(w.setCells b o vs).heap.size=w.heap.size
 |[],_,_=>rfl
 |v::r,o,w=>by
  rw [World.setCells,v9 b r];simp
theorem v8(b:Nat): ∀(vs:List Value) (o:Nat) (w:World),(w.setCells b o vs).tape=w.tape
 |[],_,_=>rfl
 |v::r,o,w=>by
  rw [World.setCells,v8 b r];simp
theorem Qo0{w:World}{ov:Value}{n:Nat}{l:List Int}(I:n<=100000)(ho:w.ownsRow 0 3 1 ov n (l.map (Value.int .i64))):
  Calls Tryz.prog 223 #[ov] w λen Z=>en= .returned (.tuple #[])/\Z.heap.size=w.heap.size/\Z.os=w.os/\Z.tape=w.tape/\Z.output=w.output/\ ∀x,x<w.heap.size->ov.ownBlock≠some x->Z.heap[x]? =w.heap[x]? :=by
 have D1:l.length=n:=by
  have:=ho.1;simpa using this
 rcases ho.2 with ⟨rfl,rfl⟩|⟨g,cap,cur,rfl,_,hh,r1,r2,r3,r4⟩
 ·refine Calls.mono (Any.slices_Reverse_int_empty Wj6 none 0 w) ?_;rintro en Z ⟨rfl,rfl⟩;exact ⟨rfl,rfl,rfl,rfl,rfl,λ_ _ _=>rfl⟩
 ·have PV: ∀j,j<l.length->w.cell? ⟨g,0+j,none⟩=some (.int .i64 (l.getD j 0)):=by
   intro j hj;have h2:cur[j]? =some (.int .i64 (l.getD j 0)):=by
    have h3:=congrArg (λl=>l[j]?) r4
    simp only [List.getElem?_take,Bn] at h3;rw [if_pos VO,D5 hj] at h3;rw [List.getD_eq_getElem?_getD,D5 hj];simpa using h3
   rw [Ap];simp [World.cell?,hh,h2]
  refine Calls.mono (Any.slices_Reverse_int_cells Wj6 g 0 n cap l w VO VO PV (λj _=>by simp [World.frozen?,hh])) ?_
  rintro en Z ⟨rfl,q,rfl⟩;refine ⟨rfl,?_,?_,?_,?_,λx hx hne=>?_⟩
  ·rw [v9];rfl
  ·rw [World.os_setCells];rfl
  ·rw [v8];rfl
  ·rw [World.output_setCells];rfl
  ·exact World.heap_setCells_other (w.drewN q) g 0 _ hx (λh=>hne (by rw [h];rfl))
theorem Wg3:GG VT 223 Qa2:=by
 refine ⟨(UM Tryz.func223),?_⟩;intro avs m nx sv tr ht Q hQ cx w0 TT e ds args w hE hB hm hlv LU hxt hr;unfold Qa2 at ht;split at ht
 ·rename_i q;split at ht
  ·rename_i T sz n g h1;split at ht
   ·rename_i hb;simp only [EP] at hb;obtain ⟨rfl,rfl,_⟩:=hb;cases ht;obtain ⟨I,hq⟩:=VR.sat_needT hQ;obtain ⟨n1,n2⟩:=I;obtain ⟨ov,l1,rfl,r1,hr⟩:=hr.cons_inv;obtain rfl:=hr.nil_inv;have H1:=hm _ (G5 h1);have R1:=qQ H1 n1;have hv:e.val q=ov:=by
     cases r1 with
     |row _ a n c _ hv=>exact hv
    simp only at R1;rw [hv] at R1;have own1: ∀x,ov.ownBlock=some x->e.own x=some q:=λx hx=>H1.2.1 x (by show (e.val q).ownBlock=some x;rw [hv];exact hx)
    refine (Qo0 n2 R1).mono ?_;rintro en Z ⟨rfl,hsz,q1,q2,q3,jR⟩;have dne: ∀{x y j j':Nat},e.own x=some j->e.own y=some j'->j≠j'->x≠y:=by
     rintro x y j j' hx hy hj rfl;rw [hx] at hy;exact hj (Bb hy)
    have Xl2: ∀x,x<w.heap.size->e.ro x->Z.heap[x]? =w.heap[x]? :=λx hx hx2=>jR x hx (λh=>by
     have:=own1 x h;rw [(hE.apart x hx2).1] at this;cases this)
    have st:Step e e w Z:=⟨λx hx hx2=>⟨hx2,Xl2 x hx hx2⟩,λ_ h=>⟨h,rfl,rfl⟩,VO⟩
    have hBel:Below w0.heap.size w0 Z:=by
     refine ⟨q1.trans hB.os,q2.trans hB.tape,q3.trans hB.output,by have:=hB.size;omega,λx hx=>?_⟩
     rw [jR x (qF hx hB.size) (λh=>by have:=(hE.owned _ _ (own1 x h)).1;omega)]
     exact hB.block x hx
    refine ⟨_,_,_,_,_,e,rfl,hq,⟨λx hx=>⟨(hE.apart x hx).1,by rw [hsz];exact (hE.apart x hx).2⟩,λx j hx=>⟨(hE.owned x j hx).1,by rw [hsz];exact (hE.owned x j hx).2⟩,hE.glob.step st⟩,hBel,?_,hlv,LU,hxt.step st,Rep.tupL (.nil _ _)⟩
    intro p hp;obtain ⟨hp,hne⟩:=L8 hp;obtain ⟨hpm,hna⟩:=ES hp;exact LO st (λx hx=>⟨hx,jR x (hE.owned x _ hx).2 (λh=>dne hx (own1 x h) hne rfl)⟩) hna (hm p hpm)
   ·cases ht
  ·cases ht
 ·cases ht
end Go.Proofs.YtlclobclmfhlmaaGreatDoor.Hd
namespace Go.Proofs.YtlclobclmfhlmaaGreatDoor.Hd
open Go Go.Sx Go.RowKit Bo
open Go.Sx.VR (need branch leaf)
open Go.Sx.AV (lst ptr agg roI tup top)
section
variable (n:Nat)(a b c U O:Nat->Int)
def orE:Int:=if jF n a b c U O=true then 0 else 9
theorem Qp1(VW:sV n a b c U O):U2 VT 193 [.agg [i 4,i 10,sls n a b c U O]] (.tup [.top,.top,i (orE n a b c U O)]):=by
 refine GF (X:={R:=[],H:=[(222,(Xv4 [(.slot 1,0,0,0),(.slot 2,0,0,0),(.slot 3,0,0,0),(.cell 1 0,900,3,1)] (nQ n a b c U O (2^n)))),(223,Qa2)],C:=[(26,(MO n a b c U O))] }) (L:=[]) Aa (Aj Ab (Ag (iC (Wg7 VW (2^n))) (Ag Wg3 Ac)) (Ah (vQ n a b c U O VW) (UG.nil _))) U3 Tryz.func193 (UY Tryz.f193) G9 (t:=let z2:=(orG n a b c U O (0:Int).toNat (0:Int));let z0:=(leaf (RV.tup [RV.top,RV.lst 1 n λj=>[iI (dyU z2 (col 0 λx=>List.map AV.x (Array.toList (Value.cells (X2)))) j)],RV.x (X2)]));let z1:=(leaf (RV.tup [RV.top,RV.lst 1 n λx=>[iI 0],RV.x (X2)]));let z3:=(need [(0:Int)<=(n:Int)/\(n:Int)<=1000000,U4 (n:Int)] VR.fail);(need [QP n a b c U O] (branch (!true) (branch ((2:Int) != 0) (leaf (RV.tup [RV.x (J6),RV.x (J6),RV.x (.int .i64 (2:Int))])) z3) (branch (!jF n a b c U O) (branch ((9:Int) != 0) (leaf (RV.tup [RV.x (J6),RV.x (J6),RV.x (.int .i64 (9:Int))])) z3) (branch ((0:Int) != 0) (leaf (RV.tup [RV.x (J6),RV.x (J6),RV.x (X2)])) (need [(0:Int)<=(n:Int)/\(n:Int)<=1000000,U4 (n:Int)] (need [U4 (iI 4),U4 (iI 10),W5 n a b c U O,∀(x:Value),False->orH n a b c U O x/\x=orV x,UJ 1 0 λx=>[],UJ 1 n λx=>List.map AV.x (Array.toList (Value.cells (X2))),n=n,(0:Int)<=0/\(0:Int)<2^n,2^n-(0:Int).toNat<=2^n,(0:Int)<=0/\(0:Int)<=100,0<=1000] (branch (Option.isSome (orS n a b c U O (0:Int).toNat (0:Int))) (need [UJ 1 (List.length ((xV 0 λx=>[])++orL z2)) λj=>[i (UD ((xV 0 λx=>[])++orL z2) j)],List.length ((xV 0 λx=>[])++orL z2)<=100000] (VR.may True z0 (VR.may True z0 z0))) (need [UJ 1 0 λx=>[],0<=100000] (VR.may True z1 (VR.may True z1 z1))))))))))) VY ?_
 have h8:=VW.1;have hp1:1<=2^n:=Nat.one_le_two_pow;have hpi:=gH h8;have h256:=AF h8;have hgl:=Qc9 n a b c U O 0 0;simp only [VR.sat,UF,GA,GR,UI,UL,orE,Int.toNat_zero];refine ⟨λh=>by simp at h,λ_=>⟨λh=>?_,λh=>?_⟩⟩
 ·have hf: ¬jF n a b c U O=true:=by
   rw [Ax] at h;rw [h];simp
  rw [if_neg hf];exact ⟨λ_=>rfl,λh=>by simp at h⟩
 ·have hf:jF n a b c U O=true:=by simpa using h
  rw [if_pos hf];have D1:((xV 0 λx=>[])++orL (orG n a b c U O 0 0)).length<=100000:=by
   rw [Be];simp only [xV,orL,List.range_zero,List.map_nil,List.length_nil,Bm];omega
  refine ⟨λh=>by simp at h,λ_=>⟨VO,⟨λ_ h=>h.elim,λk hk=>absurd hk (Aq _),λk _=>rfl,VO,VO⟩,λ_=>?_,λ_=>?_⟩⟩
  ·exact ⟨⟨oK _ _,D1⟩,λ_=>rfl,λ_=>rfl,rfl⟩
  ·exact ⟨⟨λk hk=>absurd hk (Aq _),VO⟩,λ_=>rfl,λ_=>rfl,rfl⟩
end
def gdX(sz n:Nat)(f:Nat->List AV):Prop:= ∀k,k<n->(f k).length=sz/\ ∀x∈f k,isX x/\AV.one x=true
def HK(n:Nat)(f:Nat->Int)(x:Int)(k:Nat):Int:=if k<n then f k else x
def apB(n:Nat)(f:Nat->Bool)(x:Bool)(k:Nat):Bool:=if k<n then f k else x
abbrev crs(n:Nat)(a b c d:Nat->Int)(v:Nat->Bool):AV:= .lst 5 n (λk=>[i (a k),i (b k),i (c k),i (d k),bl (v k)])
theorem IY(f:Nat->List AV)(k:Nat):GM 0 (λ_=>[]) f k=f k:=by
 show HG (decide (k<0)) [] (f (k-0))=_;rw [show decide (k<0)=false by simp]
 rfl
theorem VA{p:Prop}(h:p:=by
 simp only [VR.sat,UF,Xm5,true_and];refine ⟨λh=>h,⟨VO,λk hk x hm=>((UK k hk).2 x hm).2⟩,VO,λk hk=>⟨IY f k,λx hm=>((UK k hk).2 x hm).1⟩⟩):p:=h
theorem Wr2(n:Nat)(f:Nat->List AV)(VW:n<=100000)(UK:gdX 4 n f):DU VT 64 [.lst 4 n f] 72 4 (n) (f):=by
 refine BV (L:=[]) Aa Ad U3 Tryz.func64 (UY Tryz.f64) G9 (t:=VR.may (n=0) (leaf none) (need [(0+n)*32<=140737488355328,∀(i:Nat),i<n-> ∀(a:AV),a∈f i->AV.one a=true] (leaf (some (72,4,0+n,GM 0 (λx=>[]) λa=>f a))))) VY ?_ (λk hk=>(UK k hk).1)
 exact VA
def Qa7:BT:=λl=>match l with
 |[.lst 4 n f]=>some ([n<=100000,gdX 4 n f],72,4,n,f)
 |_=>none
theorem Wr1:Sx.Enters Tryz.prog 64/\ ∀avs ns T sz n g,Qa7 avs=some (ns,T,sz,n,g)->(∀q∈ns,q)->DU VT 64 avs T sz n g:=by
 refine ⟨(UM Tryz.func64),?_⟩;intro avs ns T sz n g h I;unfold Qa7 at h;split at h
 ·cases h;exact Wr2 _ _ (I _ VZ) (I _ VZ)
 ·cases h
theorem Wr4(n:Nat)(f:Nat->List AV)(VW:n<=100000)(UK:gdX 5 n f):DU VT 65 [.lst 5 n f] 81 5 (n) (f):=by
 refine BV (L:=[]) Aa Ad U3 Tryz.func65 (UY Tryz.f65) G9 (t:=VR.may (n=0) (leaf none) (need [(0+n)*40<=140737488355328,∀(i:Nat),i<n-> ∀(a:AV),a∈f i->AV.one a=true] (leaf (some (81,5,0+n,GM 0 (λx=>[]) λa=>f a))))) VY ?_ (λk hk=>(UK k hk).1)
 exact VA
def bT:BT:=λl=>match l with
 |[.lst 5 n f]=>some ([n<=100000,gdX 5 n f],81,5,n,f)
 |_=>none
theorem lI:Sx.Enters Tryz.prog 65/\ ∀avs ns T sz n g,bT avs=some (ns,T,sz,n,g)->(∀q∈ns,q)->DU VT 65 avs T sz n g:=by
 refine ⟨(UM Tryz.func65),?_⟩;intro avs ns T sz n g h I;unfold bT at h;split at h
 ·cases h;exact Wr4 _ _ (I _ VZ) (I _ VZ)
 ·cases h
theorem Wr0(n:Nat)(f:Nat->List AV)(VW:n<=100000)(UK:gdX 5 n f):DU VT 66 [.lst 5 n f] 83 5 (n) (f):=by
 refine BV (L:=[]) Aa Ad U3 Tryz.func66 (UY Tryz.f66) G9 (t:=VR.may (n=0) (leaf none) (need [(0+n)*40<=140737488355328,∀(i:Nat),i<n-> ∀(a:AV),a∈f i->AV.one a=true] (leaf (some (83,5,0+n,GM 0 (λx=>[]) λa=>f a))))) VY ?_ (λk hk=>(UK k hk).1)
 exact VA
def Qa6:BT:=λl=>match l with
 |[.lst 5 n f]=>some ([n<=100000,gdX 5 n f],83,5,n,f)
 |_=>none
theorem Wq9:Sx.Enters Tryz.prog 66/\ ∀avs ns T sz n g,Qa6 avs=some (ns,T,sz,n,g)->(∀q∈ns,q)->DU VT 66 avs T sz n g:=by
 refine ⟨(UM Tryz.func66),?_⟩;intro avs ns T sz n g h I;unfold Qa6 at h;split at h
 ·cases h;exact Wr0 _ _ (I _ VZ) (I _ VZ)
 ·cases h
theorem Wq8(n:Nat)(f:Nat->List AV)(VW:n<=100000)(UK:gdX 2 n f):DU VT 67 [.lst 2 n f] 77 2 (n) (f):=by
 refine BV (L:=[]) Aa Ad U3 Tryz.func67 (UY Tryz.f67) G9 (t:=VR.may (n=0) (leaf none) (need [(0+n)*16<=140737488355328,∀(i:Nat),i<n-> ∀(a:AV),a∈f i->AV.one a=true] (leaf (some (77,2,0+n,GM 0 (λx=>[]) λa=>f a))))) VY ?_ (λk hk=>(UK k hk).1)
 exact VA
def Qa5:BT:=λl=>match l with
 |[.lst 2 n f]=>some ([n<=100000,gdX 2 n f],77,2,n,f)
 |_=>none
theorem Wq7:Sx.Enters Tryz.prog 67/\ ∀avs ns T sz n g,Qa5 avs=some (ns,T,sz,n,g)->(∀q∈ns,q)->DU VT 67 avs T sz n g:=by
 refine ⟨(UM Tryz.func67),?_⟩;intro avs ns T sz n g h I;unfold Qa5 at h;split at h
 ·cases h;exact Wq8 _ _ (I _ VZ) (I _ VZ)
 ·cases h
abbrev rdl(n:Nat)(r v:Nat->Int):AV:= .lst 2 n (λk=>[i (r k),i (v k)])
theorem V6{p:Prop}(h:p:=by
 have e0:j-n=0:=VO;show HG (decide (j<n)) _ (UA _ _ (j-n))=_;rw [e0];rcases (show j<n\/j=n by omega) with h|rfl
 ·rw [decide_eq_true h];simp only [HK,apB,if_pos h];rfl
 ·rw [show decide (j<j)=false by simp]
  simp only [HK,apB,if_neg (Bf j)];rfl):p:=h
section
variable (n:Nat)
theorem Zn1(a b u v:Nat->Int)(x0 A W S:Int)(VW:n<=100000):U2 VT 183 [rds n a b u v,.agg [i x0,i A,i W,i S]] (rds (n+1) (HK n a x0) (HK n b A) (HK n u W) (HK n v S)):=by
 refine GF (X:={R:=[],H:=[],C:=[],F:=[(64,Qa7)],D:=[] }) (L:=[]) Aa (U1.ofF Ab Ac (UG.nil _) (L0.cons Wr1 (L0.nil _)) (BC.nil _)) U3 Tryz.func183 (UY Tryz.f183) G9 (t:=need [n<=100000,gdX 4 n λk=>[Bo.i (a k),Bo.i (b k),Bo.i (u k),Bo.i (v k)]] (need [(n+1)*32<=140737488355328,L1 1 (UA 4 [iI x0,iI A,iI W,iI S])] (leaf (RV.lst 4 (n+1) (GM n ((rq4 a b u v)) (UA 4 [iI x0,iI A,iI W,iI S])))))) VY ?_
 simp only [VR.sat,UF,GA,GR,UI,UL];have hg:gdX 4 n (λk=>[i (a k),i (b k),i (u k),i (v k)]):=λk _=>⟨rfl,λx hx=>by
  simp only [GS,DS,or_false] at hx;rcases hx with rfl|rfl|rfl|rfl<;>exact ⟨Ak,by simp [AV.one,Value.oneCell']⟩⟩
 refine ⟨⟨VW,hg⟩,⟨VO,λj hj x hx=>?_⟩,?_⟩
 ·obtain rfl:j=0:=VO;have hx:x∈[i x0,i A,i W,i S]:=hx;simp only [GS,DS,or_false] at hx;rcases hx with rfl|rfl|rfl|rfl<;>simp [AV.one,Value.oneCell']
 ·intro j hj;refine ⟨?_,λx hx=>?_⟩
  ·exact V6
  ·simp only [GS,DS,or_false] at hx;rcases hx with rfl|rfl|rfl|rfl<;>exact Ak
def Ql0(a b u v:Nat->Int):G0
 |[.lst 4 n1 f1,.agg [.x (.int .i64 x0),.x (.int .i64 A),.x (.int .i64 W),.x (.int .i64 S)]]=>some ([lst 4 n1 f1=rds n a b u v,n<=100000],rds (n+1) (HK n a x0) (HK n b A) (HK n u W) (HK n v S))
 |_=>none
theorem Xk7(a b u v:Nat->Int):VU VT 183 (Ql0 n a b u v):=by
 refine ⟨(UM Tryz.func183),?_⟩;intro avs ns res h I;unfold Ql0 at h;split at h
 ·cases h;have e:=I _ GK;rw [e];exact Zn1 n a b u v _ _ _ _ (I _ VZ)
 ·cases h
theorem Zn0(a b c U O:Nat->Int)(x0 A W S x4:Int)(VW:n<=100000):U2 VT 192 [sls n a b c U O,.agg [i x0,i A,i W,i S,i x4]] (sls (n+1) (HK n a x0) (HK n b A) (HK n c W) (HK n U S) (HK n O x4)):=by
 refine GF (X:={R:=[],H:=[],C:=[],F:=[(66,Qa6)],D:=[] }) (L:=[]) Aa (U1.ofF Ab Ac (UG.nil _) (L0.cons Wq9 (L0.nil _)) (BC.nil _)) U3 Tryz.func192 (UY Tryz.f192) G9 (t:=need [n<=100000,gdX 5 n λk=>[i (a k),i (b k),i (c k),i (U k),i (O k)]] (need [(n+1)*40<=140737488355328,L1 1 (UA 5 [iI x0,iI A,iI W,iI S,iI x4])] (leaf (RV.lst 5 (n+1) (GM n (λk=>[iI (a k),iI (b k),iI (c k),iI (U k),iI (O k)]) (UA 5 [iI x0,iI A,iI W,iI S,iI x4])))))) VY ?_
 simp only [VR.sat,UF,GA,GR,UI,UL];have hg:gdX 5 n (λk=>[i (a k),i (b k),i (c k),i (U k),i (O k)]):=λk _=>⟨rfl,λx hx=>by
  simp only [GS,DS,or_false] at hx;rcases hx with rfl|rfl|rfl|rfl|rfl<;>exact ⟨Ak,by simp [AV.one,Value.oneCell']⟩⟩
 refine ⟨⟨VW,hg⟩,⟨VO,λj hj x hx=>?_⟩,?_⟩
 ·obtain rfl:j=0:=VO;have hx:x∈[i x0,i A,i W,i S,i x4]:=hx;simp only [GS,DS,or_false] at hx;rcases hx with rfl|rfl|rfl|rfl|rfl<;>simp [AV.one,Value.oneCell']
 ·intro j hj;refine ⟨?_,λx hx=>?_⟩
  ·exact V6
  ·simp only [GS,DS,or_false] at hx;rcases hx with rfl|rfl|rfl|rfl|rfl<;>exact Ak
def Qk9(a b c U O:Nat->Int):G0
 |[.lst 5 n1 f1,.agg [.x (.int .i64 x0),.x (.int .i64 A),.x (.int .i64 W),.x (.int .i64 S),.x (.int .i64 x4)]]=>some ([lst 5 n1 f1=sls n a b c U O,n<=100000],sls (n+1) (HK n a x0) (HK n b A) (HK n c W) (HK n U S) (HK n O x4))
 |_=>none
theorem Xk6(a b c U O:Nat->Int):VU VT 192 (Qk9 n a b c U O):=by
 refine ⟨(UM Tryz.func192),?_⟩;intro avs ns res h I;unfold Qk9 at h;split at h
 ·cases h;have e:=I _ GK;rw [e];exact Zn0 n a b c U O _ _ _ _ _ (I _ VZ)
 ·cases h
theorem Zm9(r v:Nat->Int)(x0 A:Int)(VW:n<=100000):U2 VT 190 [rdl n r v,.agg [i x0,i A]] (rdl (n+1) (HK n r x0) (HK n v A)):=by
 refine GF (X:={R:=[],H:=[],C:=[],F:=[(67,Qa5)],D:=[] }) (L:=[]) Aa (U1.ofF Ab Ac (UG.nil _) (L0.cons Wq7 (L0.nil _)) (BC.nil _)) U3 Tryz.func190 (UY Tryz.f190) G9 (t:=need [n<=100000,gdX 2 n λk=>[i (r k),i (v k)]] (need [(n+1)*16<=140737488355328,L1 1 (UA 2 [iI x0,iI A])] (leaf (RV.lst 2 (n+1) (GM n (λk=>[iI (r k),iI (v k)]) (UA 2 [iI x0,iI A])))))) VY ?_
 simp only [VR.sat,UF,GA,GR,UI,UL];have hg:gdX 2 n (λk=>[i (r k),i (v k)]):=λk _=>⟨rfl,λx hx=>by
  simp only [GS,DS,or_false] at hx;rcases hx with rfl|rfl<;>exact ⟨Ak,by simp [AV.one,Value.oneCell']⟩⟩
 refine ⟨⟨VW,hg⟩,⟨VO,λj hj x hx=>?_⟩,?_⟩
 ·obtain rfl:j=0:=VO;have hx:x∈[i x0,i A]:=hx;simp only [GS,DS,or_false] at hx;rcases hx with rfl|rfl<;>simp [AV.one,Value.oneCell']
 ·intro j hj;refine ⟨?_,λx hx=>?_⟩
  ·exact V6
  ·simp only [GS,DS,or_false] at hx;rcases hx with rfl|rfl<;>exact Ak
def Qk8(r v:Nat->Int):G0
 |[.lst 2 n1 f1,.agg [.x (.int .i64 x0),.x (.int .i64 A)]]=>some ([lst 2 n1 f1=rdl n r v,n<=100000],rdl (n+1) (HK n r x0) (HK n v A))
 |_=>none
theorem Xk5(r v:Nat->Int):VU VT 190 (Qk8 n r v):=by
 refine ⟨(UM Tryz.func190),?_⟩;intro avs ns res h I;unfold Qk8 at h;split at h
 ·cases h;have e:=I _ GK;rw [e];exact Zm9 n r v _ _ (I _ VZ)
 ·cases h
theorem Zn2(a b c d:Nat->Int)(w:Nat->Bool)(x0 A W S:Int)(xw:Bool)(VW:n<=100000):U2 VT 191 [crs n a b c d w,.agg [i x0,i A,i W,i S,bl xw]] (crs (n+1) (HK n a x0) (HK n b A) (HK n c W) (HK n d S) (apB n w xw)):=by
 refine GF (X:={R:=[],H:=[],C:=[],F:=[(65,bT)],D:=[] }) (L:=[]) Aa (U1.ofF Ab Ac (UG.nil _) (L0.cons lI (L0.nil _)) (BC.nil _)) U3 Tryz.func191 (UY Tryz.f191) G9 (t:=need [n<=100000,gdX 5 n λk=>[i (a k),i (b k),i (c k),i (d k),bl (w k)]] (need [(n+1)*40<=140737488355328,L1 1 (UA 5 [iI x0,iI A,iI W,iI S,AV.x (.bool xw)])] (leaf (RV.lst 5 (n+1) (GM n (λk=>[iI (a k),iI (b k),iI (c k),iI (d k),AV.x (.bool (w k))]) (UA 5 [iI x0,iI A,iI W,iI S,AV.x (.bool xw)])))))) VY ?_
 simp only [VR.sat,UF,GA,GR,UI,UL];have hg:gdX 5 n (λk=>[i (a k),i (b k),i (c k),i (d k),bl (w k)]):=λk _=>⟨rfl,λx hx=>by
  simp only [GS,DS,or_false] at hx;rcases hx with rfl|rfl|rfl|rfl|rfl<;>exact ⟨Ak,by simp [AV.one,Value.oneCell']⟩⟩
 refine ⟨⟨VW,hg⟩,⟨VO,λj hj x hx=>?_⟩,?_⟩
 ·obtain rfl:j=0:=VO;have hx:x∈[i x0,i A,i W,i S,bl xw]:=hx;simp only [GS,DS,or_false] at hx;rcases hx with rfl|rfl|rfl|rfl|rfl<;>simp [AV.one,Value.oneCell']
 ·intro j hj;refine ⟨?_,λx hx=>?_⟩
  ·exact V6
  ·simp only [GS,DS,or_false] at hx;rcases hx with rfl|rfl|rfl|rfl|rfl<;>exact Ak
def Ql1(a b c d:Nat->Int)(w:Nat->Bool):G0
 |[.lst 5 n1 f1,.agg [.x (.int .i64 x0),.x (.int .i64 A),.x (.int .i64 W),.x (.int .i64 S),.x (.bool xw)]]=>some ([lst 5 n1 f1=crs n a b c d w,n<=100000],crs (n+1) (HK n a x0) (HK n b A) (HK n c W) (HK n d S) (apB n w xw))
 |_=>none
theorem Xk8(a b c d:Nat->Int)(w:Nat->Bool):VU VT 191 (Ql1 n a b c d w):=by
 refine ⟨(UM Tryz.func191),?_⟩;intro avs ns res h I;unfold Ql1 at h;split at h
 ·cases h;have e:=I _ GK;rw [e];exact Zn2 n a b c d w _ _ _ _ _ (I _ VZ)
 ·cases h
end
def RR:G0
 |[.x (.int .i64 n),.x (.int .i64 U),.x (.int .i64 O)]=>some ([],bl (bt U n O))
 |_=>none
theorem I4(n U O:Int):U2 VT 37 [i n,i U,i O] (bl (bt U n O)):=by
 refine H3 Tryz.func37 (t:=branch (decide (U<=n)) (leaf (RV.x (.bool (decide (n<=O))))) (leaf (RV.x (WN)))) VY ?_;exact VE
theorem B5:VU VT 37 RR:=by
 refine ⟨(UM Tryz.func37),?_⟩;intro avs ns res h I;unfold RR at h;split at h
 ·cases h;exact I4 _ _ _
 ·cases h
end Go.Proofs.YtlclobclmfhlmaaGreatDoor.Hd
