/- Contracts, put together. Conditions: those of each. -/
import Derived.Test.YtlclobclmfhlmaaGreatDoorMp
import Derived.Lib.AtoiAllCases
set_option linter.unusedSimpArgs false
set_option linter.unusedVariables false
namespace Go.Proofs.YtlclobclmfhlmaaGreatDoor.Hd
open Go Go.Shelf Go.Sx Go.RowKit
theorem kW{n:Int}(h:0<=n/\n<=1000000):(UInt8.ofNat (dgI n).toNat).toNat=48+(n%10).toNat:=by
 have e:dgI n=(48+n.tmod 10)%256:=rfl;rw [Int.tmod_eq_emod_of_nonneg h.1] at e;have h1:(dgI n).toNat=48+(n%10).toNat:=VM;rw [h1,UInt8.toNat_ofNat_of_lt' (by show _<256;omega)]
theorem Qn2{x:Int}(h:0<=x):x.tdiv 10=x / 10:=Int.tdiv_eq_ediv_of_nonneg h
theorem BC{c:UInt8}{d acc:Nat}{r:List UInt8}(h:c.toNat=48+d)(hd:d<=9)(ha:acc<=1000000):Lib.parseUint10 acc (c::r)=Lib.parseUint10 (acc*10+d) r:=by
 show (if 48<=c.toNat/\c.toNat<=57 then _ else _)=_
 rw [if_pos VM,if_neg VM,if_neg VM,h,Nat.add_sub_cancel_left]
theorem mG{n:Int}(h:0<=n/\n<=999):Lib.atoiAll (dg3 n).data.toList= .ok n:=by
 have q1:=Qn2 h.1;have q2:=Qn2 (x:=n / 10) VM;have v1:=kW (n:=n) VM;have Z:=kW (n:=n / 10) VM;have W:=kW (n:=n / 10 / 10) VM;unfold dg3;rw [q1,q2];show Lib.atoiAll [_,_,_]=_;rw [Lib.atoiAll_plain _ _ VM VM];unfold Lib.parseMag;rw [if_neg VX,BC W VM VM,BC Z VM VM,BC v1 VM VM];show (if _ then _ else Lib.NumEnd.ok _)=_
 rw [if_neg VM]
 congr 1
 omega
theorem mF{n:Int}(h:0<=n/\n<=99999):Lib.atoiAll (dg5 n).data.toList= .ok n:=by
 have q1:=Qn2 h.1;have q2:=Qn2 (x:=n / 10) VM;have q3:=Qn2 (x:=n / 10 / 10) VM;have q4:=Qn2 (x:=n / 10 / 10 / 10) VM;have v1:=kW (n:=n) VM;have Z:=kW (n:=n / 10) VM;have W:=kW (n:=n / 10 / 10) VM;have v4:=kW (n:=n / 10 / 10 / 10) VM;have v5:=kW (n:=n / 10 / 10 / 10 / 10) VM;unfold dg5;rw [q1,q2,q3,q4];show Lib.atoiAll [_,_,_,_,_]=_;rw [Lib.atoiAll_plain _ _ VM VM];unfold Lib.parseMag;rw [if_neg VX,BC v5 VM VM,BC v4 VM VM,BC W VM VM,BC Z VM VM,BC v1 VM VM];show (if _ then _ else Lib.NumEnd.ok _)=_
 rw [if_neg VM]
 congr 1
 omega
theorem Qd1{s:ByteArray}{v:Int}(h:Lib.atoiAll s.data.toList= .ok v):U3 s=v:=by
 unfold U3;rw [h]
theorem Wi0{n:Int}(h:0<=n/\n<=999):U3 (dg3 n)=n:=Qd1 (mG h)
theorem Wh9{n:Int}(h:0<=n/\n<=99999):U3 (dg5 n)=n:=Qd1 (mF h)
section
variable {n:Nat}{f:Nat->List AV}{s:ByteArray}
theorem bC(hs:s.size=n)(h: ∀j,j<n->f j=D2 s j):bsO n f=s:=by
 refine zD.2 ?_;apply List.ext_getElem?;intro j;by_cases hj:j<n
 ·have hj':j<s.data.size:=by
   have:s.data.size=s.size:=rfl;omega
  have I:byO (f j)=(s.data[j]).toNat:=by
   rw [h j hj];show (D1 s j).toNat=_;unfold D1;rw [L9,Array.getElem?_eq_getElem hj'];exact DP _
  rw [Bn,List.getElem?_range hj,Array.getElem?_toList,Array.getElem?_eq_getElem hj'];show some (UInt8.ofNat (byO (f j)))=some _;rw [I,UInt8.ofNat_toNat]
 ·have hj':s.data.size<=j:=by
   have:s.data.size=s.size:=rfl;omega
  rw [Br (by simp;omega),Br (by simpa using hj')]
theorem Qh0{o:Nat}(h: ∀j,j<n->f j=D2 s (o+j)):wL n f:=by
 intro j hj;rw [h j hj];have h1:=bB s (o+j);exact by1 (x:=D1 s (o+j)) ⟨h1.1,VM⟩
end
theorem sz1(x:UInt8):(⟨#[x]⟩:ByteArray).size=1:=rfl
theorem sz3(n:Int):(dgB n 3).size=3:=rfl
theorem sz5(n:Int):(dgB n 5).size=5:=rfl
theorem Qg9(l c:Int){j:Nat}(h:j<3):D1 (tpB l c) (1+j)=D1 (dg3 l) j:=by
 unfold tpB;rw [FR,if_pos (by simp only [Av,sz1,sz3,sz5];omega),FR,if_pos (by simp only [Av,sz1,sz3,sz5];omega),FR,if_pos (by simp only [Av,sz1,sz3,sz5];omega),FR,if_neg (by simp only [sz1];omega),sz1,Nat.add_sub_cancel_left]
 rfl
theorem Qg8(l c:Int){j:Nat}(h:j<5):D1 (tpB l c) (5+j)=D1 (dg5 c) j:=by
 unfold tpB;rw [FR,if_pos (by simp only [Av,sz1,sz3,sz5];omega),FR,if_neg (by simp only [Av,sz1,sz3,sz5];omega)]
 have e:5+j-((⟨#[91]⟩:ByteArray)++dgB l 3++⟨#[58]⟩).size=j:=by
  simp only [Av,sz1,sz3];omega
 rw [e];rfl
section
variable (f:Nat->List AV)
def rdL:Int:=U3 (bsO 3 (λi=>f (1+i)))
def rdC:Int:=U3 (bsO 5 (λi=>f (5+i)))
def Qr0:Prop:=(0<=rdL f/\rdL f<=200)/\(0<=rdC f/\rdC f<=99970)/\ ∀j,j<11->f j=D2 (tpB (rdL f) (rdC f)) j
end
section
variable {f:Nat->List AV}{l c:Int}
theorem Jd6(h: ∀j,j<11->f j=D2 (tpB l c) j):bsO 3 (λi=>f (1+i))=dg3 l/\bsO 5 (λi=>f (5+i))=dg5 c:=by
 refine ⟨bC rfl λj hj=>?_,bC rfl λj hj=>?_⟩
 ·show f (1+j)=_;rw [h _ VM];unfold D2;rw [Qg9 l c hj]
 ·show f (5+j)=_;rw [h _ VM];unfold D2;rw [Qg8 l c hj]
theorem Xv3(hl:0<=l/\l<=200)(hc:0<=c/\c<=99970)(h: ∀j,j<11->f j=D2 (tpB l c) j):rdL f=l/\rdC f=c/\Qr0 f:=by
 obtain ⟨h1,h2⟩:=Jd6 h;have I:rdL f=l:=by
  unfold rdL;rw [h1,Wi0 VM]
 have S:rdC f=c:=by
  unfold rdC;rw [h2,Wh9 VM]
 exact ⟨I,S,by unfold Qr0;rw [I,S];exact ⟨hl,hc,h⟩⟩
end
end Go.Proofs.YtlclobclmfhlmaaGreatDoor.Hd
namespace Go.Proofs.YtlclobclmfhlmaaGreatDoor.Hd
open Go Go.Sx Go.RowKit
open Go.Sx.VP (need branch leaf)
open Go.Sx.AV (lst ptr agg roI tup top)
section
variable (L:Nat->ByteArray)
def GL(k:Nat):Nat:=(flB L k).size
theorem qW(k:Nat):GL L (k+1)=GL L k+12+(L k).size:=by
 have e:GL L (k+1)=(flB L k).size+(rcB (L k) k).size:=Av;have h:=CI (L k) k;unfold GL at*;omega
theorem BG{k m:Nat}(h:k<=m):GL L k<=GL L m:=by
 induction h with
 |refl=>exact Am _
 |step _ ih=>rw [qW];omega
theorem Wu3{k m j:Nat}(h:k<=m)(hj:j<GL L k):D1 (flB L m) j=D1 (flB L k) j:=by
 induction h with
 |refl=>rfl
 | @step m h ih=>
  have h1:=BG L h;show D1 (flB L m++rcB (L m) m) j=_;rw [FR,if_pos (show j<(flB L m).size by unfold GL at*;omega)]
  exact ih
theorem IO{k m j:Nat}(h:k<m)(hj:j<12+(L k).size):D1 (flB L m) (GL L k+j)=D1 (rcB (L k) k) j:=by
 rw [Wu3 L (k:=k+1) h (by rw [qW];omega)]
 show D1 (flB L k++rcB (L k) k) (GL L k+j)=_;rw [FR,if_neg (show ¬GL L k+j<(flB L k).size by unfold GL;omega)]
 congr 1
 unfold GL;omega
end
section
variable (s:ByteArray)(ix:Int)
theorem Wf5{j:Nat}(h:j<11):D1 (rcB s ix) j=D1 (tpB (s.size:Int) (tpK s ix)) j:=by
 have h1:=qK (s.size:Int) (tpK s ix);unfold rcB;rw [FR,if_pos (by rw [Av];omega),FR,if_pos VM]
theorem Wf4{j:Nat}(h:j<s.size):D1 (rcB s ix) (11+j)=D1 s j:=by
 have h1:=qK (s.size:Int) (tpK s ix);unfold rcB;rw [FR,if_pos (by rw [Av];omega),FR,if_neg VM,h1,Nat.add_sub_cancel_left]
theorem Jd8:D1 (rcB s ix) (11+s.size)=10:=by
 have h1:=qK (s.size:Int) (tpK s ix);unfold rcB;rw [FR,if_neg (by rw [Av];omega),Av,h1,Bs]
 rfl
theorem T6(O:0<=ix/\ix<=100000)(h:s.size<=1000):0<=tpK s ix/\tpK s ix<=99970:=by
 have h3:=zL s ix O s.size h;have h4:tpK s ix=(tpC s ix s.size)%99971:=Int.tmod_eq_emod_of_nonneg h3.1;omega
end
theorem cM(s:ByteArray)(ix:Int): ∀k,tpC s (ix+1) k=tpC s ix k+23
 | 0=>by
  show 23*(ix+1+1)=23*(ix+1)+23;omega
 |k+1=>by
  show tpC s (ix+1) k+_=tpC s ix k+_+23;rw [cM s ix k];omega
theorem Wc1(s:ByteArray)(ix:Int)(O:0<=ix/\ix<=10000)(h:s.size<=1000):tpK s (ix+1)≠tpK s ix:=by
 have h1:=zL s ix VM s.size h;have h2:=zL s (ix+1) VM s.size h;have I:tpK s ix=(tpC s ix s.size)%99971:=Int.tmod_eq_emod_of_nonneg h1.1;have S:tpK s (ix+1)=(tpC s (ix+1) s.size)%99971:=Int.tmod_eq_emod_of_nonneg h2.1;rw [cM] at S;omega
def Qo3(N:Nat)(B:ByteArray)(m:Nat)(L:Nat->ByteArray):Prop:=
 m<=50/\(∀k,k<m->(L k).size<=200)/\GL L m<=N/\N<=100000/\(∀j,j<GL L m->D1 B j=D1 (flB L m) j)/\
  (N<=GL L m+11\/ ∃l c:Int,(0<=l/\l<=200)/\(0<=c/\c<=99970)/\(∀j,j<11->D1 B (GL L m+j)=D1 (tpB l c) j)/\
   ((N:Int)<GL L m+12+l\/ ∃s:ByteArray,(s.size:Int)=l/\(∀j,j<s.size->D1 B (GL L m+11+j)=D1 s j)/\c≠tpK s m))
def IV(L:Nat->ByteArray)(n k:Nat):ByteArray:=flB L k++(flB L n).extract (GL L (k+1)) (GL L n)
theorem Xo0(s:ByteArray){a b j:Nat}(hb:b<=s.size)(hj:j<b-a):D1 (s.extract a b) j=D1 s (a+j):=by
 unfold D1;have e:(s.extract a b).data=s.data.extract a b:=ByteArray.data_extract;rw [e,L9,L9,Array.getElem?_extract];have hs:s.data.size=s.size:=rfl;rw [if_pos VM]
theorem sO(L:Nat->ByteArray){n k j:Nat}(hk:k<n)(hj:j<GL L n-GL L (k+1)):D1 (IV L n k) (GL L k+j)=D1 (flB L n) (GL L (k+1)+j):=by
 unfold IV;rw [FR,if_neg (show ¬GL L k+j<(flB L k).size by unfold GL;omega),show GL L k+j-(flB L k).size=j by unfold GL;omega]
 exact Xo0 _ (Am _) hj
theorem Zq2{L:Nat->ByteArray}{n k:Nat}(hn:n<=50)(hL: ∀k,k<n->(L k).size<=200)(hk:k<n):Qo3 (GL L k+(GL L n-GL L (k+1))) (IV L n k) k L:=by
 have h4:GL L n<=n*212:=kU L n hL;have h5:=BG L (show k+1<=n from hk);have h6:=qW L k;refine ⟨VM,λj hj=>hL j VM,VM,VM,λj hj=>?_,?_⟩
 ·unfold IV;rw [FR,if_pos (show j<(flB L k).size from hj)]
 ·rcases An (k+1) n with A|A
  ·have h8:=BG L (show k+1+1<=n from A);have h9:=qW L (k+1);have h10:=hL (k+1) A;refine .inr ⟨(L (k+1)).size,tpK (L (k+1)) ((k:Int)+1),VM,T6 _ _ VM VM,λj hj=>?_,.inr ⟨L (k+1),rfl,λj hj=>?_,Wc1 _ _ VM VM⟩⟩
   ·rw [sO L hk VM,IO L A VM,Wf5 _ _ hj];rfl
   ·rw [Ba,sO L hk VM,IO L A VM,Wf4 _ _ hj]
  ·obtain rfl:n=k+1:=VM;exact .inl VM
theorem Je1{N m k:Nat}{B:ByteArray}{L:Nat->ByteArray}(h:Qo3 N B m L)(hk:k<m):
  (L k).size<=200/\GL L (k+1)=GL L k+12+(L k).size/\GL L (k+1)<=N/\(0<=tpK (L k) k/\tpK (L k) k<=99970)/\(∀j,j<11->D1 B (GL L k+j)=D1 (tpB ((L k).size:Int) (tpK (L k) k)) j)/\(∀j,j<(L k).size->D1 B (GL L k+11+j)=D1 (L k) j)/\D1 B (GL L k+11+(L k).size)=10:=by
 obtain ⟨h1,h2,h3,h4,h5,_⟩:=h;have h6:=qW L k;have A:=BG L (show k+1<=m from hk);have h8:=h2 k hk;refine ⟨h8,h6,VM,T6 _ _ VM VM,λj hj=>?_,λj hj=>?_,?_⟩
 ·rw [h5 _ VM,IO L hk VM,Wf5 _ _ hj]
 ·rw [h5 _ VM,Ba,IO L hk VM,Wf4 _ _ hj]
 ·rw [h5 _ VM,Ba,IO L hk VM,Jd8]
end Go.Proofs.YtlclobclmfhlmaaGreatDoor.Hd
