/- Contracts, put together. Conditions: those of each. -/
import Derived.Test.YtlclobclmfhlmaaGreatDoorMp
import Derived.Lib.AtoiAllCases
set_option linter.unusedSimpArgs false
set_option linter.unusedVariables false
namespace Go.Proofs.YtlclobclmfhlmaaGreatDoor.Hd
open Go Go.Shelf Go.Sx Go.RowKit
theorem kX{n:Int}(h:0<=n/\n<=1000000):(UInt8.ofNat (dgI n).toNat).toNat=48+(n%10).toNat:=by
 have e:dgI n=(48+n.tmod 10)%256:=rfl;rw [Int.tmod_eq_emod_of_nonneg h.1] at e;have h1:(dgI n).toNat=48+(n%10).toNat:=VO;rw [h1,UInt8.toNat_ofNat_of_lt' (by show _<256;omega)]
theorem Qn3{x:Int}(h:0<=x):x.tdiv 10=x / 10:=Int.tdiv_eq_ediv_of_nonneg h
theorem BF{c:UInt8}{d acc:Nat}{r:List UInt8}(h:c.toNat=48+d)(hd:d<=9)(ha:acc<=1000000):Lib.parseUint10 acc (c::r)=Lib.parseUint10 (acc*10+d) r:=by
 show (if 48<=c.toNat/\c.toNat<=57 then _ else _)=_
 rw [if_pos VO,if_neg VO,if_neg VO,h,Nat.add_sub_cancel_left]
theorem mH{n:Int}(h:0<=n/\n<=999):Lib.atoiAll (dg3 n).data.toList= .ok n:=by
 have q1:=Qn3 h.1;have q2:=Qn3 (x:=n / 10) VO;have W:=kX (n:=n) VO;have S:=kX (n:=n / 10) VO;have I:=kX (n:=n / 10 / 10) VO;unfold dg3;rw [q1,q2];show Lib.atoiAll [_,_,_]=_;rw [Lib.atoiAll_plain _ _ VO VO];unfold Lib.parseMag;rw [if_neg VZ,BF I VO VO,BF S VO VO,BF W VO VO];show (if _ then _ else Lib.NumEnd.ok _)=_
 rw [if_neg VO]
 congr 1
 omega
theorem mG{n:Int}(h:0<=n/\n<=99999):Lib.atoiAll (dg5 n).data.toList= .ok n:=by
 have q1:=Qn3 h.1;have q2:=Qn3 (x:=n / 10) VO;have q3:=Qn3 (x:=n / 10 / 10) VO;have q4:=Qn3 (x:=n / 10 / 10 / 10) VO;have W:=kX (n:=n) VO;have S:=kX (n:=n / 10) VO;have I:=kX (n:=n / 10 / 10) VO;have v4:=kX (n:=n / 10 / 10 / 10) VO;have v5:=kX (n:=n / 10 / 10 / 10 / 10) VO;unfold dg5;rw [q1,q2,q3,q4];show Lib.atoiAll [_,_,_,_,_]=_;rw [Lib.atoiAll_plain _ _ VO VO];unfold Lib.parseMag;rw [if_neg VZ,BF v5 VO VO,BF v4 VO VO,BF I VO VO,BF S VO VO,BF W VO VO];show (if _ then _ else Lib.NumEnd.ok _)=_
 rw [if_neg VO]
 congr 1
 omega
theorem Qd2{s:ByteArray}{v:Int}(h:Lib.atoiAll s.data.toList= .ok v):U5 s=v:=by
 unfold U5;rw [h]
theorem Wh9{n:Int}(h:0<=n/\n<=999):U5 (dg3 n)=n:=Qd2 (mH h)
theorem Wh8{n:Int}(h:0<=n/\n<=99999):U5 (dg5 n)=n:=Qd2 (mG h)
section
variable {n:Nat}{f:Nat->List AV}{s:ByteArray}
theorem bD(hs:s.size=n)(h: ∀j,j<n->f j=D3 s j):bsO n f=s:=by
 refine zG.2 ?_;apply List.ext_getElem?;intro j;by_cases hj:j<n
 ·have hj':j<s.data.size:=by
   have:s.data.size=s.size:=rfl;omega
  have A:byO (f j)=(s.data[j]).toNat:=by
   rw [h j hj];show (DD s j).toNat=_;unfold DD;rw [LV,Array.getElem?_eq_getElem hj'];exact DR _
  rw [Bn,List.getElem?_range hj,Array.getElem?_toList,Array.getElem?_eq_getElem hj'];show some (UInt8.ofNat (byO (f j)))=some _;rw [A,UInt8.ofNat_toNat]
 ·have hj':s.data.size<=j:=by
   have:s.data.size=s.size:=rfl;omega
  rw [Br (by simp;omega),Br (by simpa using hj')]
theorem Qh1{o:Nat}(h: ∀j,j<n->f j=D3 s (o+j)):wO n f:=by
 intro j hj;rw [h j hj];have h1:=bC s (o+j);exact by1 (x:=DD s (o+j)) ⟨h1.1,VO⟩
end
theorem sz1(x:UInt8):(⟨#[x]⟩:ByteArray).size=1:=rfl
theorem sz3(n:Int):(dgB n 3).size=3:=rfl
theorem sz5(n:Int):(dgB n 5).size=5:=rfl
theorem Qh0(l c:Int){j:Nat}(h:j<3):DD (tpB l c) (1+j)=DD (dg3 l) j:=by
 unfold tpB;rw [RY,if_pos (by simp only [Av,sz1,sz3,sz5];omega),RY,if_pos (by simp only [Av,sz1,sz3,sz5];omega),RY,if_pos (by simp only [Av,sz1,sz3,sz5];omega),RY,if_neg (by simp only [sz1];omega),sz1,Nat.add_sub_cancel_left]
 rfl
theorem Qg9(l c:Int){j:Nat}(h:j<5):DD (tpB l c) (5+j)=DD (dg5 c) j:=by
 unfold tpB;rw [RY,if_pos (by simp only [Av,sz1,sz3,sz5];omega),RY,if_neg (by simp only [Av,sz1,sz3,sz5];omega)]
 have e:5+j-((⟨#[91]⟩:ByteArray)++dgB l 3++⟨#[58]⟩).size=j:=by
  simp only [Av,sz1,sz3];omega
 rw [e];rfl
section
variable (f:Nat->List AV)
def rdL:Int:=U5 (bsO 3 (λi=>f (1+i)))
def rdC:Int:=U5 (bsO 5 (λi=>f (5+i)))
def Qr1:Prop:=(0<=rdL f/\rdL f<=200)/\(0<=rdC f/\rdC f<=99970)/\ ∀j,j<11->f j=D3 (tpB (rdL f) (rdC f)) j
end
section
variable {f:Nat->List AV}{l c:Int}
theorem Jd2(h: ∀j,j<11->f j=D3 (tpB l c) j):bsO 3 (λi=>f (1+i))=dg3 l/\bsO 5 (λi=>f (5+i))=dg5 c:=by
 refine ⟨bD rfl λj hj=>?_,bD rfl λj hj=>?_⟩
 ·show f (1+j)=_;rw [h _ VO];unfold D3;rw [Qh0 l c hj]
 ·show f (5+j)=_;rw [h _ VO];unfold D3;rw [Qg9 l c hj]
theorem Xv0(hl:0<=l/\l<=200)(hc:0<=c/\c<=99970)(h: ∀j,j<11->f j=D3 (tpB l c) j):rdL f=l/\rdC f=c/\Qr1 f:=by
 obtain ⟨h1,h2⟩:=Jd2 h;have A:rdL f=l:=by
  unfold rdL;rw [h1,Wh9 VO]
 have e2:rdC f=c:=by
  unfold rdC;rw [h2,Wh8 VO]
 exact ⟨A,e2,by unfold Qr1;rw [A,e2];exact ⟨hl,hc,h⟩⟩
end
end Go.Proofs.YtlclobclmfhlmaaGreatDoor.Hd
namespace Go.Proofs.YtlclobclmfhlmaaGreatDoor.Hd
open Go Go.Sx Go.RowKit
open Go.Sx.VR (need branch leaf)
open Go.Sx.AV (lst ptr agg roI tup top)
section
variable (L:Nat->ByteArray)
def GN(k:Nat):Nat:=(flB L k).size
theorem qY(k:Nat):GN L (k+1)=GN L k+12+(L k).size:=by
 have e:GN L (k+1)=(flB L k).size+(rcB (L k) k).size:=Av;have h:=CM (L k) k;unfold GN at*;omega
theorem qZ{k m:Nat}(h:k<=m):GN L k<=GN L m:=by
 induction h with
 |refl=>exact Am _
 |step _ ih=>rw [qY];omega
theorem Wu1{k m j:Nat}(h:k<=m)(hj:j<GN L k):DD (flB L m) j=DD (flB L k) j:=by
 induction h with
 |refl=>rfl
 | @step m h ih=>
  have h1:=qZ L h;show DD (flB L m++rcB (L m) m) j=_;rw [RY,if_pos (show j<(flB L m).size by unfold GN at*;omega)]
  exact ih
theorem aW{k m j:Nat}(h:k<m)(hj:j<12+(L k).size):DD (flB L m) (GN L k+j)=DD (rcB (L k) k) j:=by
 rw [Wu1 L (k:=k+1) h (by rw [qY];omega)]
 show DD (flB L k++rcB (L k) k) (GN L k+j)=_;rw [RY,if_neg (show ¬GN L k+j<(flB L k).size by unfold GN;omega)]
 congr 1
 unfold GN;omega
end
section
variable (s:ByteArray)(ix:Int)
theorem Wf5{j:Nat}(h:j<11):DD (rcB s ix) j=DD (tpB (s.size:Int) (tpK s ix)) j:=by
 have h1:=qM (s.size:Int) (tpK s ix);unfold rcB;rw [RY,if_pos (by rw [Av];omega),RY,if_pos VO]
theorem Zj9{j:Nat}(h:j<s.size):DD (rcB s ix) (11+j)=DD s j:=by
 have h1:=qM (s.size:Int) (tpK s ix);unfold rcB;rw [RY,if_pos (by rw [Av];omega),RY,if_neg VO,h1,Nat.add_sub_cancel_left]
theorem Jd4:DD (rcB s ix) (11+s.size)=10:=by
 have h1:=qM (s.size:Int) (tpK s ix);unfold rcB;rw [RY,if_neg (by rw [Av];omega),Av,h1,Bs]
 rfl
theorem T7(O:0<=ix/\ix<=100000)(h:s.size<=1000):0<=tpK s ix/\tpK s ix<=99970:=by
 have h3:=uU s ix O s.size h;have h4:tpK s ix=(tpC s ix s.size)%99971:=Int.tmod_eq_emod_of_nonneg h3.1;omega
end
def Qo4(N:Nat)(B:ByteArray)(m:Nat)(L:Nat->ByteArray):Prop:=
 m<=50/\(∀k,k<m->(L k).size<=200)/\GN L m<=N/\N<=100000/\(∀j,j<GN L m->DD B j=DD (flB L m) j)/\
  (N<=GN L m+11\/ ∃l c:Int,(0<=l/\l<=200)/\(0<=c/\c<=99970)/\(∀j,j<11->DD B (GN L m+j)=DD (tpB l c) j)/\
   ((N:Int)<GN L m+12+l\/ ∃s:ByteArray,(s.size:Int)=l/\(∀j,j<s.size->DD B (GN L m+11+j)=DD s j)/\c≠tpK s m))
section
variable (L:Nat->ByteArray)(n N:Nat)
def whN:Nat:=H0 (λq=>decide (N<GN L (q+1))) n
theorem AX:whN L n N<=n/\GN L (whN L n N)<=N/\(whN L n N<n->N<GN L (whN L n N+1)):=by
 obtain ⟨h1,h2,h3⟩:=F0 (λq=>decide (N<GN L (q+1))) n
 refine ⟨h1,?_,λh=>?_⟩
 ·show GN L (H0 _ n)<=N;generalize H0 (λq=>decide (N<GN L (q+1))) n=q at*
  cases q with
  |zero=>exact Ao _
  |succ q=>
   have:=of_decide_eq_false (h2 q VO);omega
 ·exact BO (h3 h)
end
theorem Zy7{L:Nat->ByteArray}{n N:Nat}(hn:n<=50)(hL: ∀k,k<n->(L k).size<=200)(hN:N<=GN L n):Qo4 N (flB L n) (whN L n N) L:=by
 obtain ⟨h1,h2,h3⟩:=AX L n N;have h4:GN L n<=n*212:=kV L n hL;generalize whN L n N=m at*;refine ⟨VO,λk hk=>hL k VO,h2,VO,λj hj=>Wu1 L h1 hj,?_⟩
 rcases An m n with h5|h5
 ·have Z:=h3 h5;rw [qY] at Z;have h7:=hL m h5;refine .inr ⟨(L m).size,tpK (L m) m,VO,T7 _ _ VO VO,λj hj=>?_,.inl VO⟩
  rw [aW L h5 VO,Wf5 _ _ hj]
 ·obtain rfl:m=n:=VO;exact .inl VO
theorem Jd7{N m k:Nat}{B:ByteArray}{L:Nat->ByteArray}(h:Qo4 N B m L)(hk:k<m):
  (L k).size<=200/\GN L (k+1)=GN L k+12+(L k).size/\GN L (k+1)<=N/\(0<=tpK (L k) k/\tpK (L k) k<=99970)/\(∀j,j<11->DD B (GN L k+j)=DD (tpB ((L k).size:Int) (tpK (L k) k)) j)/\(∀j,j<(L k).size->DD B (GN L k+11+j)=DD (L k) j)/\DD B (GN L k+11+(L k).size)=10:=by
 obtain ⟨h1,h2,h3,h4,h5,_⟩:=h;have Z:=qY L k;have h7:=qZ L (show k+1<=m from hk);have h8:=h2 k hk;refine ⟨h8,Z,VO,T7 _ _ VO VO,λj hj=>?_,λj hj=>?_,?_⟩
 ·rw [h5 _ VO,aW L hk VO,Wf5 _ _ hj]
 ·rw [h5 _ VO,Ba,aW L hk VO,Zj9 _ _ hj]
 ·rw [h5 _ VO,Ba,aW L hk VO,Jd4]
end Go.Proofs.YtlclobclmfhlmaaGreatDoor.Hd
