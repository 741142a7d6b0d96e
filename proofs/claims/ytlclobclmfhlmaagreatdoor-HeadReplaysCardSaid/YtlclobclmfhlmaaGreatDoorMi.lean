/- Contracts, put together. Conditions: those of each. -/
import Derived.Test.YtlclobclmfhlmaaGreatDoorMh
import Derived.Shelf.Slices.Cells
import Derived.Deep.Upon
set_option linter.unusedSimpArgs false
set_option linter.unusedVariables false
set_option maxRecDepth 100000
namespace Go.Proofs.YtlclobclmfhlmaaGreatDoor.Hd
open Go Go.Shelf Go.Sx Go.RowKit
def oB:Go.Shelf.Ren:=⟨λ| 112=>223|n=>n,λ| 28=>61|n=>n,λn=>n⟩
theorem We4:Go.Proofs.Lays.n112 Tryz.prog oB:=by
 constructor<;>first|(intro _;kernel_rfl)|kernel_rfl|(constructor<;>first|(intro _;kernel_rfl)|kernel_rfl|(constructor<;>first|(intro _;kernel_rfl)|kernel_rfl))
def sJ:HZ:=λavs m nx sv=>match avs with
 |[.row q]=>match DE m q with
  |some (.row T sz n g)=>match NK [(T,3),(sz,1)] with
   |true=>some (.needT [UF 1 n g,n<=100000] (.leaf (.tup [],j5 (nX m) q,nx,sv)))
   |false=>none
  |_=>none
 |_=>none
theorem yE(b:Nat): ∀(vs:List Value) (o:Nat) (w:World),(w.setCells b o vs).heap.size=w.heap.size
 |[],_,_=>rfl
 |v::r,o,w=>by
  rw [World.setCells,yE b r];simp
theorem yD(b:Nat): ∀(vs:List Value) (o:Nat) (w:World),(w.setCells b o vs).tape=w.tape
 |[],_,_=>rfl
 |v::r,o,w=>by
  rw [World.setCells,yD b r];simp
theorem Qj4{w:World}{ov:Value}{n:Nat}{l:List Int}(hn:n<=100000)(ho:w.ownsRow 0 3 1 ov n (l.map (Value.int .i64))):
  Calls Tryz.prog 223 #[ov] w λen w1=>en= .returned (.tuple #[])/\w1.heap.size=w.heap.size/\w1.os=w.os/\w1.tape=w.tape/\w1.output=w.output/\ ∀x,x<w.heap.size->ov.ownBlock≠some x->w1.heap[x]? =w.heap[x]? :=by
 have HV:l.length=n:=by
  have:=ho.1;simpa using this
 rcases ho.2 with ⟨rfl,rfl⟩|⟨g,cap,cur,rfl,_,hh,r1,r2,r3,r4⟩
 ·refine Calls.mono (Any.slices_Reverse_int_empty We4 none 0 w) ?_;rintro en w1 ⟨rfl,rfl⟩;exact ⟨rfl,rfl,rfl,rfl,rfl,λ_ _ _=>rfl⟩
 ·have gB: ∀j,j<l.length->w.cell? ⟨g,0+j,none⟩=some (.int .i64 (l.getD j 0)):=by
   intro j hj;have h2:cur[j]? =some (.int .i64 (l.getD j 0)):=by
    have h3:=congrArg (λl=>l[j]?) r4
    simp only [List.getElem?_take,List.getElem?_map] at h3;rw [if_pos VK,HY hj] at h3;rw [List.getD_eq_getElem?_getD,HY hj];simpa using h3
   rw [Nat.zero_add];simp [World.cell?,hh,h2]
  refine Calls.mono (Any.slices_Reverse_int_cells We4 g 0 n cap l w VK VK gB (λj _=>by simp [World.frozen?,hh])) ?_
  rintro en w1 ⟨rfl,q,rfl⟩;refine ⟨rfl,?_,?_,?_,?_,λx hx hne=>?_⟩
  ·rw [yE];rfl
  ·rw [World.os_setCells];rfl
  ·rw [yD];rfl
  ·rw [World.output_setCells];rfl
  ·exact World.heap_setCells_other (w.drewN q) g 0 _ hx (λh=>hne (by rw [h];rfl))
theorem Wb3:GC VP 223 sJ:=by
 refine ⟨(UK Tryz.func223),?_⟩;intro avs m nx sv tr ht Q hQ cx w0 TT e ds args w hE hB hm hlv LN hxt hr;unfold sJ at ht;split at ht
 ·rename_i q;split at ht
  ·rename_i T sz n g h1;split at ht
   ·rename_i hb;simp only [E7] at hb;obtain ⟨rfl,rfl,_⟩:=hb;cases ht;obtain ⟨hn,hq⟩:=VN.sat_needT hQ;obtain ⟨n1,n2⟩:=hn;obtain ⟨ov,l1,rfl,r1,hr⟩:=hr.cons_inv;obtain rfl:=hr.nil_inv;have H1:=hm _ (UX h1);have R1:=qC H1 n1;have hv:e.val q=ov:=by
     cases r1 with
     |row _ a n c _ hv=>exact hv
    simp only at R1;rw [hv] at R1;have own1: ∀x,ov.ownBlock=some x->e.own x=some q:=λx hx=>H1.2.1 x (by show (e.val q).ownBlock=some x;rw [hv];exact hx)
    refine (Qj4 n2 R1).mono ?_;rintro en w1 ⟨rfl,hsz,q1,q2,q3,zV⟩;have dne: ∀{x y j j':Nat},e.own x=some j->e.own y=some j'->j≠j'->x≠y:=by
     rintro x y j j' hx hy hj rfl;rw [hx] at hy;exact hj (Option.some.inj hy)
    have Xg6: ∀x,x<w.heap.size->e.ro x->w1.heap[x]? =w.heap[x]? :=λx hx hx2=>zV x hx (λh=>by
     have:=own1 x h;rw [(hE.apart x hx2).1] at this;cases this)
    have st:Step e e w w1:=⟨λx hx hx2=>⟨hx2,Xg6 x hx hx2⟩,λ_ h=>⟨h,rfl,rfl⟩,VK⟩
    have hBel:Below w0.heap.size w0 w1:=by
     refine ⟨q1.trans hB.os,q2.trans hB.tape,q3.trans hB.output,by have:=hB.size;omega,λx hx=>?_⟩
     rw [zV x (xN hx hB.size) (λh=>by have:=(hE.owned _ _ (own1 x h)).1;omega)]
     exact hB.block x hx
    refine ⟨_,_,_,_,_,e,rfl,hq,⟨λx hx=>⟨(hE.apart x hx).1,by rw [hsz];exact (hE.apart x hx).2⟩,λx j hx=>⟨(hE.owned x j hx).1,by rw [hsz];exact (hE.owned x j hx).2⟩,hE.glob.step st⟩,hBel,?_,hlv,LN,hxt.step st,Rep.tupL (.nil _ _)⟩
    intro p hp;obtain ⟨hp,hne⟩:=L3 hp;obtain ⟨hpm,hna⟩:=EA hp;exact LH st (λx hx=>⟨hx,zV x (hE.owned x _ hx).2 (λh=>dne hx (own1 x h) hne rfl)⟩) hna (hm p hpm)
   ·cases ht
  ·cases ht
 ·cases ht
end Go.Proofs.YtlclobclmfhlmaaGreatDoor.Hd
namespace Go.Proofs.YtlclobclmfhlmaaGreatDoor.Hd
open Go Go.Sx Go.RowKit Bo
open Go.Sx.VN (need branch leaf)
open Go.Sx.AV (lst ptr agg roI tup top)
section
variable (n:Nat)(a b c lo hi:Nat->Int)
def orE:Int:=if zJ n a b c lo hi=true then 0 else 9
theorem Qk4(VT:sV n a b c lo hi):VY VP 193 [.agg [i 4,i 10,sls n a b c lo hi]] (.tup [.top,.top,i (orE n a b c lo hi)]):=by
 refine GB (X:={R:=[],H:=[(222,(Xr0 [(.slot 1,0,0,0),(.slot 2,0,0,0),(.slot 3,0,0,0),(.cell 1 0,900,3,1)] (mI n a b c lo hi (2^n)))),(223,sJ)],C:=[(26,(M3 n a b c lo hi))] }) (L:=[]) (VL.nil _) (VX.ofC (VR.nil _) (VO.cons (cV (Wb7 VT (2^n))) (VO.cons Wb3 (VO.nil _))) (UC.cons (yV n a b c lo hi VT) (UC.nil _))) VZ Tryz.func193 (UV Tryz.f193) G8 (t:=let z2:=(orG n a b c lo hi (0:Int).toNat (0:Int));let z0:=(leaf (RV.tup [RV.top,RV.lst 1 n λj=>[iI (dyU z2 (col 0 λx=>List.map AV.x (Array.toList (Value.cells (X7)))) j)],RV.x (X7)]));let z1:=(leaf (RV.tup [RV.top,RV.lst 1 n λx=>[iI 0],RV.x (X7)]));let z3:=(need [(0:Int)<=(n:Int)/\(n:Int)<=1000000,U0 (n:Int)] VN.fail);(need [QP n a b c lo hi] (branch (!true) (branch ((2:Int) != 0) (leaf (RV.tup [RV.x (J5),RV.x (J5),RV.x (.int .i64 (2:Int))])) z3) (branch (!zJ n a b c lo hi) (branch ((9:Int) != 0) (leaf (RV.tup [RV.x (J5),RV.x (J5),RV.x (.int .i64 (9:Int))])) z3) (branch ((0:Int) != 0) (leaf (RV.tup [RV.x (J5),RV.x (J5),RV.x (X7)])) (need [(0:Int)<=(n:Int)/\(n:Int)<=1000000,U0 (n:Int)] (need [U0 (iI 4),U0 (iI 10),W8 n a b c lo hi,∀(x:Value),False->orH n a b c lo hi x/\x=orV x,UF 1 0 λx=>[],UF 1 n λx=>List.map AV.x (Array.toList (Value.cells (X7))),n=n,(0:Int)<=0/\(0:Int)<2^n,2^n-(0:Int).toNat<=2^n,(0:Int)<=0/\(0:Int)<=100,0<=1000] (branch (Option.isSome (orS n a b c lo hi (0:Int).toNat (0:Int))) (need [UF 1 (List.length ((x7 0 λx=>[])++orL z2)) λj=>[i (UA ((x7 0 λx=>[])++orL z2) j)],List.length ((x7 0 λx=>[])++orL z2)<=100000] (VN.may True z0 (VN.may True z0 z0))) (need [UF 1 0 λx=>[],0<=100000] (VN.may True z1 (VN.may True z1 z1))))))))))) VU ?_
 have h8:=VT.1;have hp1:1<=2^n:=Nat.one_le_two_pow;have hpi:=uH h8;have h256:=rR h8;have hgl:=tL n a b c lo hi 0 0;simp only [VN.sat,UB,UY,GL,UE,UJ,orE,Int.toNat_zero];refine ⟨λh=>by simp at h,λ_=>⟨λh=>?_,λh=>?_⟩⟩
 ·have hf: ¬zJ n a b c lo hi=true:=by
   rw [Bool.not_eq_true'] at h;rw [h];simp
  rw [if_neg hf];exact ⟨λ_=>rfl,λh=>by simp at h⟩
 ·have hf:zJ n a b c lo hi=true:=by simpa using h
  rw [if_pos hf];have HV:((x7 0 λx=>[])++orL (orG n a b c lo hi 0 0)).length<=100000:=by
   rw [List.length_append];simp only [x7,orL,List.range_zero,List.map_nil,List.length_nil,List.length_map];omega
  refine ⟨λh=>by simp at h,λ_=>⟨VK,⟨λ_ h=>h.elim,λk hk=>absurd hk (Nat.not_lt_zero _),λk _=>rfl,VK,VK⟩,λ_=>?_,λ_=>?_⟩⟩
  ·exact ⟨⟨nC _ _,HV⟩,λ_=>rfl,λ_=>rfl,rfl⟩
  ·exact ⟨⟨λk hk=>absurd hk (Nat.not_lt_zero _),VK⟩,λ_=>rfl,λ_=>rfl,rfl⟩
end
def gdX(sz n:Nat)(f:Nat->List AV):Prop:= ∀k,k<n->(f k).length=sz/\ ∀x∈f k,isX x/\AV.one x=true
def HG(n:Nat)(f:Nat->Int)(x:Int)(k:Nat):Int:=if k<n then f k else x
def apB(n:Nat)(f:Nat->Bool)(x:Bool)(k:Nat):Bool:=if k<n then f k else x
abbrev crs(n:Nat)(a b c d:Nat->Int)(v:Nat->Bool):AV:= .lst 5 n (λk=>[i (a k),i (b k),i (c k),i (d k),bl (v k)])
theorem l7(f:Nat->List AV)(k:Nat):GI 0 (λ_=>[]) f k=f k:=by
 show HB (decide (k<0)) [] (f (k-0))=_;rw [show decide (k<0)=false by simp]
 rfl
theorem V6{p:Prop}(h:p:=by
 simp only [VN.sat,UB,Xh8,true_and];refine ⟨λh=>h,⟨VK,λk hk x hm=>((UI k hk).2 x hm).2⟩,VK,λk hk=>⟨l7 f k,λx hm=>((UI k hk).2 x hm).1⟩⟩):p:=h
theorem Wm8(n:Nat)(f:Nat->List AV)(VT:n<=100000)(UI:gdX 4 n f):DL VP 64 [.lst 4 n f] 72 4 (n) (f):=by
 refine BK (L:=[]) (VL.nil _) (VX.of (VR.nil _) (VO.nil _)) VZ Tryz.func64 (UV Tryz.f64) G8 (t:=VN.may (n=0) (leaf none) (need [(0+n)*32<=140737488355328,∀(i:Nat),i<n-> ∀(a:AV),a∈f i->AV.one a=true] (leaf (some (72,4,0+n,GI 0 (λx=>[]) λa=>f a))))) VU ?_ (λk hk=>(UI k hk).1)
 exact V6
def sP:BH:=λl=>match l with
 |[.lst 4 n f]=>some ([n<=100000,gdX 4 n f],72,4,n,f)
 |_=>none
theorem Wm7:Sx.Enters Tryz.prog 64/\ ∀avs ns T sz n g,sP avs=some (ns,T,sz,n,g)->(∀q∈ns,q)->DL VP 64 avs T sz n g:=by
 refine ⟨(UK Tryz.func64),?_⟩;intro avs ns T sz n g h hn;unfold sP at h;split at h
 ·cases h;exact Wm8 _ _ (hn _ VW) (hn _ VW)
 ·cases h
theorem Wn0(n:Nat)(f:Nat->List AV)(VT:n<=100000)(UI:gdX 5 n f):DL VP 65 [.lst 5 n f] 81 5 (n) (f):=by
 refine BK (L:=[]) (VL.nil _) (VX.of (VR.nil _) (VO.nil _)) VZ Tryz.func65 (UV Tryz.f65) G8 (t:=VN.may (n=0) (leaf none) (need [(0+n)*40<=140737488355328,∀(i:Nat),i<n-> ∀(a:AV),a∈f i->AV.one a=true] (leaf (some (81,5,0+n,GI 0 (λx=>[]) λa=>f a))))) VU ?_ (λk hk=>(UI k hk).1)
 exact V6
def aT:BH:=λl=>match l with
 |[.lst 5 n f]=>some ([n<=100000,gdX 5 n f],81,5,n,f)
 |_=>none
theorem iD:Sx.Enters Tryz.prog 65/\ ∀avs ns T sz n g,aT avs=some (ns,T,sz,n,g)->(∀q∈ns,q)->DL VP 65 avs T sz n g:=by
 refine ⟨(UK Tryz.func65),?_⟩;intro avs ns T sz n g h hn;unfold aT at h;split at h
 ·cases h;exact Wn0 _ _ (hn _ VW) (hn _ VW)
 ·cases h
theorem Wm6(n:Nat)(f:Nat->List AV)(VT:n<=100000)(UI:gdX 5 n f):DL VP 66 [.lst 5 n f] 83 5 (n) (f):=by
 refine BK (L:=[]) (VL.nil _) (VX.of (VR.nil _) (VO.nil _)) VZ Tryz.func66 (UV Tryz.f66) G8 (t:=VN.may (n=0) (leaf none) (need [(0+n)*40<=140737488355328,∀(i:Nat),i<n-> ∀(a:AV),a∈f i->AV.one a=true] (leaf (some (83,5,0+n,GI 0 (λx=>[]) λa=>f a))))) VU ?_ (λk hk=>(UI k hk).1)
 exact V6
def sO:BH:=λl=>match l with
 |[.lst 5 n f]=>some ([n<=100000,gdX 5 n f],83,5,n,f)
 |_=>none
theorem Wm5:Sx.Enters Tryz.prog 66/\ ∀avs ns T sz n g,sO avs=some (ns,T,sz,n,g)->(∀q∈ns,q)->DL VP 66 avs T sz n g:=by
 refine ⟨(UK Tryz.func66),?_⟩;intro avs ns T sz n g h hn;unfold sO at h;split at h
 ·cases h;exact Wm6 _ _ (hn _ VW) (hn _ VW)
 ·cases h
theorem Wm4(n:Nat)(f:Nat->List AV)(VT:n<=100000)(UI:gdX 2 n f):DL VP 67 [.lst 2 n f] 77 2 (n) (f):=by
 refine BK (L:=[]) (VL.nil _) (VX.of (VR.nil _) (VO.nil _)) VZ Tryz.func67 (UV Tryz.f67) G8 (t:=VN.may (n=0) (leaf none) (need [(0+n)*16<=140737488355328,∀(i:Nat),i<n-> ∀(a:AV),a∈f i->AV.one a=true] (leaf (some (77,2,0+n,GI 0 (λx=>[]) λa=>f a))))) VU ?_ (λk hk=>(UI k hk).1)
 exact V6
def sN:BH:=λl=>match l with
 |[.lst 2 n f]=>some ([n<=100000,gdX 2 n f],77,2,n,f)
 |_=>none
theorem Wm3:Sx.Enters Tryz.prog 67/\ ∀avs ns T sz n g,sN avs=some (ns,T,sz,n,g)->(∀q∈ns,q)->DL VP 67 avs T sz n g:=by
 refine ⟨(UK Tryz.func67),?_⟩;intro avs ns T sz n g h hn;unfold sN at h;split at h
 ·cases h;exact Wm4 _ _ (hn _ VW) (hn _ VW)
 ·cases h
abbrev rdl(n:Nat)(r v:Nat->Int):AV:= .lst 2 n (λk=>[i (r k),i (v k)])
theorem V1{p:Prop}(h:p:=by
 have e0:j-n=0:=VK;show HB (decide (j<n)) _ (U6 _ _ (j-n))=_;rw [e0];rcases (show j<n\/j=n by omega) with h|rfl
 ·rw [decide_eq_true h];simp only [HG,apB,if_pos h];rfl
 ·rw [show decide (j<j)=false by simp]
  simp only [HG,apB,if_neg (Nat.lt_irrefl j)];rfl):p:=h
section
variable (n:Nat)
theorem Zj5(a b u v:Nat->Int)(x0 x1 x2 x3:Int)(VT:n<=100000):VY VP 183 [rds n a b u v,.agg [i x0,i x1,i x2,i x3]] (rds (n+1) (HG n a x0) (HG n b x1) (HG n u x2) (HG n v x3)):=by
 refine GB (X:={R:=[],H:=[],C:=[],F:=[(64,sP)],D:=[] }) (L:=[]) (VL.nil _) (VX.ofF (VR.nil _) (VO.nil _) (UC.nil _) (RT.cons Wm7 (RT.nil _)) (PZ.nil _)) VZ Tryz.func183 (UV Tryz.f183) G8 (t:=need [n<=100000,gdX 4 n λk=>[Bo.i (a k),Bo.i (b k),Bo.i (u k),Bo.i (v k)]] (need [(n+1)*32<=140737488355328,RU 1 (U6 4 [iI x0,iI x1,iI x2,iI x3])] (leaf (RV.lst 4 (n+1) (GI n ((rq4 a b u v)) (U6 4 [iI x0,iI x1,iI x2,iI x3])))))) VU ?_
 simp only [VN.sat,UB,UY,GL,UE,UJ];have hg:gdX 4 n (λk=>[i (a k),i (b k),i (u k),i (v k)]):=λk _=>⟨rfl,λx hx=>by
  simp only [GN,DU,or_false] at hx;rcases hx with rfl|rfl|rfl|rfl<;>exact ⟨True.intro,by simp [AV.one,Value.oneCell']⟩⟩
 refine ⟨⟨VT,hg⟩,⟨VK,λj hj x hx=>?_⟩,?_⟩
 ·obtain rfl:j=0:=VK;have hx:x∈[i x0,i x1,i x2,i x3]:=hx;simp only [GN,DU,or_false] at hx;rcases hx with rfl|rfl|rfl|rfl<;>simp [AV.one,Value.oneCell']
 ·intro j hj;refine ⟨?_,λx hx=>?_⟩
  ·exact V1
  ·simp only [GN,DU,or_false] at hx;rcases hx with rfl|rfl|rfl|rfl<;>exact True.intro
def Qg5(a b u v:Nat->Int):UZ
 |[.lst 4 n1 f1,.agg [.x (.int .i64 x0),.x (.int .i64 x1),.x (.int .i64 x2),.x (.int .i64 x3)]]=>some ([lst 4 n1 f1=rds n a b u v,n<=100000],rds (n+1) (HG n a x0) (HG n b x1) (HG n u x2) (HG n v x3))
 |_=>none
theorem Xg1(a b u v:Nat->Int):VQ VP 183 (Qg5 n a b u v):=by
 refine ⟨(UK Tryz.func183),?_⟩;intro avs ns res h hn;unfold Qg5 at h;split at h
 ·cases h;have e:=hn _ GF;rw [e];exact Zj5 n a b u v _ _ _ _ (hn _ VW)
 ·cases h
theorem Zj4(a b c lo hi:Nat->Int)(x0 x1 x2 x3 x4:Int)(VT:n<=100000):VY VP 192 [sls n a b c lo hi,.agg [i x0,i x1,i x2,i x3,i x4]] (sls (n+1) (HG n a x0) (HG n b x1) (HG n c x2) (HG n lo x3) (HG n hi x4)):=by
 refine GB (X:={R:=[],H:=[],C:=[],F:=[(66,sO)],D:=[] }) (L:=[]) (VL.nil _) (VX.ofF (VR.nil _) (VO.nil _) (UC.nil _) (RT.cons Wm5 (RT.nil _)) (PZ.nil _)) VZ Tryz.func192 (UV Tryz.f192) G8 (t:=need [n<=100000,gdX 5 n λk=>[i (a k),i (b k),i (c k),i (lo k),i (hi k)]] (need [(n+1)*40<=140737488355328,RU 1 (U6 5 [iI x0,iI x1,iI x2,iI x3,iI x4])] (leaf (RV.lst 5 (n+1) (GI n (λk=>[iI (a k),iI (b k),iI (c k),iI (lo k),iI (hi k)]) (U6 5 [iI x0,iI x1,iI x2,iI x3,iI x4])))))) VU ?_
 simp only [VN.sat,UB,UY,GL,UE,UJ];have hg:gdX 5 n (λk=>[i (a k),i (b k),i (c k),i (lo k),i (hi k)]):=λk _=>⟨rfl,λx hx=>by
  simp only [GN,DU,or_false] at hx;rcases hx with rfl|rfl|rfl|rfl|rfl<;>exact ⟨True.intro,by simp [AV.one,Value.oneCell']⟩⟩
 refine ⟨⟨VT,hg⟩,⟨VK,λj hj x hx=>?_⟩,?_⟩
 ·obtain rfl:j=0:=VK;have hx:x∈[i x0,i x1,i x2,i x3,i x4]:=hx;simp only [GN,DU,or_false] at hx;rcases hx with rfl|rfl|rfl|rfl|rfl<;>simp [AV.one,Value.oneCell']
 ·intro j hj;refine ⟨?_,λx hx=>?_⟩
  ·exact V1
  ·simp only [GN,DU,or_false] at hx;rcases hx with rfl|rfl|rfl|rfl|rfl<;>exact True.intro
def Qg4(a b c lo hi:Nat->Int):UZ
 |[.lst 5 n1 f1,.agg [.x (.int .i64 x0),.x (.int .i64 x1),.x (.int .i64 x2),.x (.int .i64 x3),.x (.int .i64 x4)]]=>some ([lst 5 n1 f1=sls n a b c lo hi,n<=100000],sls (n+1) (HG n a x0) (HG n b x1) (HG n c x2) (HG n lo x3) (HG n hi x4))
 |_=>none
theorem Xg0(a b c lo hi:Nat->Int):VQ VP 192 (Qg4 n a b c lo hi):=by
 refine ⟨(UK Tryz.func192),?_⟩;intro avs ns res h hn;unfold Qg4 at h;split at h
 ·cases h;have e:=hn _ GF;rw [e];exact Zj4 n a b c lo hi _ _ _ _ _ (hn _ VW)
 ·cases h
theorem Zj3(r v:Nat->Int)(x0 x1:Int)(VT:n<=100000):VY VP 190 [rdl n r v,.agg [i x0,i x1]] (rdl (n+1) (HG n r x0) (HG n v x1)):=by
 refine GB (X:={R:=[],H:=[],C:=[],F:=[(67,sN)],D:=[] }) (L:=[]) (VL.nil _) (VX.ofF (VR.nil _) (VO.nil _) (UC.nil _) (RT.cons Wm3 (RT.nil _)) (PZ.nil _)) VZ Tryz.func190 (UV Tryz.f190) G8 (t:=need [n<=100000,gdX 2 n λk=>[i (r k),i (v k)]] (need [(n+1)*16<=140737488355328,RU 1 (U6 2 [iI x0,iI x1])] (leaf (RV.lst 2 (n+1) (GI n (λk=>[iI (r k),iI (v k)]) (U6 2 [iI x0,iI x1])))))) VU ?_
 simp only [VN.sat,UB,UY,GL,UE,UJ];have hg:gdX 2 n (λk=>[i (r k),i (v k)]):=λk _=>⟨rfl,λx hx=>by
  simp only [GN,DU,or_false] at hx;rcases hx with rfl|rfl<;>exact ⟨True.intro,by simp [AV.one,Value.oneCell']⟩⟩
 refine ⟨⟨VT,hg⟩,⟨VK,λj hj x hx=>?_⟩,?_⟩
 ·obtain rfl:j=0:=VK;have hx:x∈[i x0,i x1]:=hx;simp only [GN,DU,or_false] at hx;rcases hx with rfl|rfl<;>simp [AV.one,Value.oneCell']
 ·intro j hj;refine ⟨?_,λx hx=>?_⟩
  ·exact V1
  ·simp only [GN,DU,or_false] at hx;rcases hx with rfl|rfl<;>exact True.intro
def Qg3(r v:Nat->Int):UZ
 |[.lst 2 n1 f1,.agg [.x (.int .i64 x0),.x (.int .i64 x1)]]=>some ([lst 2 n1 f1=rdl n r v,n<=100000],rdl (n+1) (HG n r x0) (HG n v x1))
 |_=>none
theorem Xf9(r v:Nat->Int):VQ VP 190 (Qg3 n r v):=by
 refine ⟨(UK Tryz.func190),?_⟩;intro avs ns res h hn;unfold Qg3 at h;split at h
 ·cases h;have e:=hn _ GF;rw [e];exact Zj3 n r v _ _ (hn _ VW)
 ·cases h
theorem Zj6(a b c d:Nat->Int)(w:Nat->Bool)(x0 x1 x2 x3:Int)(xw:Bool)(VT:n<=100000):VY VP 191 [crs n a b c d w,.agg [i x0,i x1,i x2,i x3,bl xw]] (crs (n+1) (HG n a x0) (HG n b x1) (HG n c x2) (HG n d x3) (apB n w xw)):=by
 refine GB (X:={R:=[],H:=[],C:=[],F:=[(65,aT)],D:=[] }) (L:=[]) (VL.nil _) (VX.ofF (VR.nil _) (VO.nil _) (UC.nil _) (RT.cons iD (RT.nil _)) (PZ.nil _)) VZ Tryz.func191 (UV Tryz.f191) G8 (t:=need [n<=100000,gdX 5 n λk=>[i (a k),i (b k),i (c k),i (d k),bl (w k)]] (need [(n+1)*40<=140737488355328,RU 1 (U6 5 [iI x0,iI x1,iI x2,iI x3,AV.x (.bool xw)])] (leaf (RV.lst 5 (n+1) (GI n (λk=>[iI (a k),iI (b k),iI (c k),iI (d k),AV.x (.bool (w k))]) (U6 5 [iI x0,iI x1,iI x2,iI x3,AV.x (.bool xw)])))))) VU ?_
 simp only [VN.sat,UB,UY,GL,UE,UJ];have hg:gdX 5 n (λk=>[i (a k),i (b k),i (c k),i (d k),bl (w k)]):=λk _=>⟨rfl,λx hx=>by
  simp only [GN,DU,or_false] at hx;rcases hx with rfl|rfl|rfl|rfl|rfl<;>exact ⟨True.intro,by simp [AV.one,Value.oneCell']⟩⟩
 refine ⟨⟨VT,hg⟩,⟨VK,λj hj x hx=>?_⟩,?_⟩
 ·obtain rfl:j=0:=VK;have hx:x∈[i x0,i x1,i x2,i x3,bl xw]:=hx;simp only [GN,DU,or_false] at hx;rcases hx with rfl|rfl|rfl|rfl|rfl<;>simp [AV.one,Value.oneCell']
 ·intro j hj;refine ⟨?_,λx hx=>?_⟩
  ·exact V1
  ·simp only [GN,DU,or_false] at hx;rcases hx with rfl|rfl|rfl|rfl|rfl<;>exact True.intro
def Qg6(a b c d:Nat->Int)(w:Nat->Bool):UZ
 |[.lst 5 n1 f1,.agg [.x (.int .i64 x0),.x (.int .i64 x1),.x (.int .i64 x2),.x (.int .i64 x3),.x (.bool xw)]]=>some ([lst 5 n1 f1=crs n a b c d w,n<=100000],crs (n+1) (HG n a x0) (HG n b x1) (HG n c x2) (HG n d x3) (apB n w xw))
 |_=>none
theorem Xg2(a b c d:Nat->Int)(w:Nat->Bool):VQ VP 191 (Qg6 n a b c d w):=by
 refine ⟨(UK Tryz.func191),?_⟩;intro avs ns res h hn;unfold Qg6 at h;split at h
 ·cases h;have e:=hn _ GF;rw [e];exact Zj6 n a b c d w _ _ _ _ _ (hn _ VW)
 ·cases h
end
def RN:UZ
 |[.x (.int .i64 n),.x (.int .i64 lo),.x (.int .i64 hi)]=>some ([],bl (bt lo n hi))
 |_=>none
theorem oP(n lo hi:Int):VY VP 37 [i n,i lo,i hi] (bl (bt lo n hi)):=by
 refine GW Tryz.func37 (t:=branch (decide (lo<=n)) (leaf (RV.x (.bool (decide (n<=hi))))) (leaf (RV.x (WQ)))) VU ?_;exact VA
theorem PR:VQ VP 37 RN:=by
 refine ⟨(UK Tryz.func37),?_⟩;intro avs ns res h hn;unfold RN at h;split at h
 ·cases h;exact oP _ _ _
 ·cases h
end Go.Proofs.YtlclobclmfhlmaaGreatDoor.Hd
