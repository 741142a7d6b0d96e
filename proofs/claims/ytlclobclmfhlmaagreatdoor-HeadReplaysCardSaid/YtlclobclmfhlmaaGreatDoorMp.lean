/- Contracts, put together. Conditions: those of each. -/
import Derived.Test.YtlclobclmfhlmaaGreatDoorMo
set_option linter.unusedSimpArgs false
set_option linter.unusedVariables false
set_option maxRecDepth 100000
namespace Go.Proofs.YtlclobclmfhlmaaGreatDoor.Hd
open Go Go.Sx Go.RowKit Bo
open Go.Sx.VN (need branch leaf)
open Go.Sx.AV (lst ptr agg roI tup top)
section
variable (L:Nat->ByteArray)
def acB(k:Nat):Bool:=eK L k==0
def kpN(n:Nat):Nat:=G9 (acB L) n
def kpF(n:Nat)(j:Nat):ByteArray:=L (UR (acB L) n j)
end
section
variable (n:Nat)(L:Nat->ByteArray)
def Wx2:DG:=λl=>some (.need [l=[lns n L]] (.leaf (.tup [.agg (hsL (sK L n)),.lst 1 n (exG L),i 0])))
theorem O8(h0:ckE n L=0):Sx.Enters Tryz.prog 19/\ ∀avs t,Wx2 n L avs=some t->UO VP 19 avs t:=by
 refine ⟨(UK Tryz.func19),?_⟩;intro avs t h;cases h;intro Q hQ;have e:avs=[lns n L]:=hQ.1;subst e;have hk:=yO h0;refine iG n L VK Q ⟨λh=>?_,λ_=>hQ.2⟩
 rw [h0] at h;exact absurd h (by decide)
end
theorem catS{a:Nat->ByteArray}{k j:Nat}{x:ByteArray}(h:j<k+1)(hx:x=a k):GI k (λz=>[.x (.string (a z))]) (U6 1 [.x (.string x)]) j=[.x (.string (a j))]:=by
 subst hx;rcases (show j<k\/j=k by omega) with h1|rfl
 ·show HB (decide (j<k)) _ (U6 _ _ (j-k))=_;rw [decide_eq_true h1,show j-k=0 by omega]
  rfl
 ·show HB (decide (j<j)) _ (U6 _ _ (j-j))=_;rw [show decide (j<j)=false by simp,Nat.sub_self]
  rfl
section
variable (n:Nat)(L:Nat->ByteArray)
def Zp7:St:={σ:=[Q8 n L,top,ptr 0 0,QA,AV.lit false,ptr 1 0,lst 1 n λj=>[iI (eK L j)],iI 0]++HI 39 [],m:=[(905,GO.row 9 1 0 λx=>[]),(1,GO.cells 32 (hL (sK L n))),(0,GO.cells 32 YL)],nx:=906}
noncomputable def Jp5:Code:=U9 (VS (U8 Tryz.f9) 0)
def Wg7(k:Nat):St:={σ:=H4 [(8,.row 905),(9,i k)] (Zp7 n L).σ,m:=[(905,.row 9 1 (kpN L k) (λz=>[.x (.string (kpF L n z))])),(1,.cells 32 (hsL (sK L n))),(0,.cells 32 [.x (.slice none 0 0),i 0,i 0,.x (.slice none 0 0),.x (.slice none 0 0),.x (.slice none 0 0)])],nx:=906}
def CE(k:Nat):G6->Option St
 | .exit 0=>some {σ:=H4 [(8,.row 905),(9,i n)] (Zp7 n L).σ,m:=[(905,.row 9 1 (kpN L n) (λz=>[.x (.string (kpF L n z))])),(1,.cells 32 (hsL (sK L n))),(0,.cells 32 [.x (.slice none 0 0),i 0,i 0,.x (.slice none 0 0),.x (.slice none 0 0),.x (.slice none 0 0)])],nx:=906}
 |_=>none
def Jk7:CT:= .leaf (.exit 0,(CE n L 0 (.exit 0)).getD (Zp7 n L))
def Xv1:UG:=GK [(.slot 2,0,0,2),(.slot 5,1,0,2),(.slot 8,905,9,1)] (HF (Wg7 n L (0)) (Jk7 n L))
theorem Ja4(VT:ckE n L=0):G5 VP (.loop Jp5) (Xv1 n L):=by
 refine US [(.slot 2,0,0,2),(.slot 5,1,0,2),(.slot 8,905,9,1)] (L:=[]) (VL.cons (NQ n L (by have:=yO VT;omega)) (VL.nil _)) (VX.ofC (VR.nil _) (VO.nil _) (UC.cons (O8 n L VT) (UC.nil _))) VZ U3 (X:=Nat) (Wg7 n L) (λk=>k<=n) (λk=>n-k) (CE n L) (x0:=0) VW ?_ ?_ ?_
 ·rintro k;kernel_rfl
 ·rintro k y E h;unfold CE at h;split at h
  ·cases h;kernel_rfl
  ·cases h
 ·rintro Q hQ k hx;refine ⟨(k+1),?_⟩;(with_reducible refine D6 (t:=let z0:=(U0 (lst 1 n λj=>[iI (eK L j)]));let z1:=(U0 (hR ((sK L n).nr) (sK L n)));let z2:=(U0 (hY ((sK L n).nb) (sK L n)));let z3:=(U0 (hC ((sK L n).nc) (sK L n)));let z4:=(U0 (hT ((sK L n).ns) (sK L n)));(branch (decide ((k:Int)<(n:Int))) (need [UH k n] (branch (eK L k==0) (need [UH k n] (need [(kpN L k+1)*16<=140737488355328,RU 1 (U6 1 [DX (L k)])] (need [VM ((k:Int)+1)] (need [U0 (Q8 n L),QL,QA=QA,WO,WS,z0,QT,U0 (AV.row 905),(k:Int)+1=(↑(k+1):Int),kpN L k+1=kpN L (k+1),∀(i:Nat),i<kpN L (k+1)->GI (kpN L k) (λz=>[DX (kpF L n z)]) (U6 1 [DX (L k)]) i=[DX (kpF L n i)],z1,U0 ((sK L n).pl),U0 ((sK L n).ph),z2,z3,z4,QA=QA,QT,QT,QA=QA,QA=QA,QA=QA] (leaf G6.normal))))) (need [VM ((k:Int)+1)] (need [U0 (Q8 n L),QL,QA=QA,WO,WS,z0,QT,U0 (AV.row 905),(k:Int)+1=(↑(k+1):Int),kpN L k=kpN L (k+1),∀(i:Nat),i<kpN L (k+1)->[DX (kpF L n i)]=[DX (kpF L n i)],z1,U0 ((sK L n).pl),U0 ((sK L n).ph),z2,z3,z4,QA=QA,QT,QT,QA=QA,QA=QA,QA=QA] (leaf G6.normal))))) (need [U0 (Q8 n L),QL,QA=QA,WO,WS,z0,QT,U0 (AV.row 905),(k:Int)=(n:Int),kpN L k=kpN L n,∀(i:Nat),i<kpN L n->[DX (kpF L n i)]=[DX (kpF L n i)],z1,U0 ((sK L n).pl),U0 ((sK L n).ph),z2,z3,z4,QA=QA,QT,QT,QA=QA,QA=QA,QA=QA] (leaf (G6.exit 0))))) VU ?_)
  simp only [Jk7,CE,VN.sat,GS] at hQ;simp only [VN.sat,UB,UY,GL,UE,VM,UJ,H6,FO,FT,RH,GJ,CE]
  have b1:=gL (p:=acB L) (k:=k);have b0:=yO VT;have e0:kpN L k=G9 (acB L) k:=rfl;have e00:kpN L (k+1)=G9 (acB L) (k+1):=rfl;refine ⟨λh=>?_,λh=>?_⟩
  ·have hk:k<n:=VK;cases hc:acB L k
   ·have e1:=FN hc;have hc': ¬((eK L k==0)=true):=λh=>Bool.noConfusion (hc.symm.trans h)
    exact VF
   ·have e1:=DA hc;have hc': ¬((eK L k==0)=false):=λh=>Bool.noConfusion (hc.symm.trans h)
    have hq: ∀j,j<kpN L (k+1)->GI (kpN L k) (λz=>[.x (.string (kpF L n z))]) (U6 1 [.x (.string (L k))]) j=[.x (.string (kpF L n j))]:=by
     intro j hj;rw [e00,e1] at hj;refine catS (a:=kpF L n) hj ?_;show L k=L (UR (acB L) n (G9 (acB L) k));rw [P7 hk hc]
    (with_reducible repeat' first|apply And.intro|intro _)
    all_goals first|exact P6|(first|exact absurd (by assumption) hc'|exact hq _ (by assumption)|exact FQ (by assumption) (by simp [AV.one,Value.oneCell']))
  ·obtain rfl:k=n:=VK;exact YZ
theorem oE(VT:ckE n L=0):UO VP 9 [lns n L] (.leaf (.tup [.agg (hsL (sK L n)),.lst 1 (kpN L n) (λz=>[.x (.string (kpF L n z))]),bl true])):=by
 refine GT (L:=[Xv1 n L]) (VL.cons (NQ n L (by have:=yO VT;omega)) (VL.nil _)) (VX.ofC (VR.nil _) (VO.nil _) (UC.cons (O8 n L VT) (UC.nil _))) VZ Tryz.func9 (UV Tryz.f9) (G7 (lpE (b:= .loop Jp5) VU<|(Ja4 n L VT).N)) (t:=let z0:=(leaf (tup [agg (hL (sK L n)),QA,AV.lit false]));(need [(Y3 n L)] (need [(Y3 n L)] (branch ((0:Int) != 0) z0 (branch ((n:Int) != (n:Int)) z0 (need [U0 (Q8 n L),QL,QA=QA,WO,WS,U0 (lst 1 n λj=>[iI (eK L j)]),QT,U0 (AV.row 905),(0:Int)=(↑(0:Nat):Int),0=kpN L 0,∀(i:Nat),i<kpN L 0->[]=[DX (kpF L n i)],U0 (hR ((sK L n).nr) (sK L n)),U0 ((sK L n).pl),U0 ((sK L n).ph),U0 (hY ((sK L n).nb) (sK L n)),U0 (hC ((sK L n).nc) (sK L n)),U0 (hT ((sK L n).ns) (sK L n)),QA=QA,QT,QT,QA=QA,QA=QA,QA=QA] (leaf (tup [agg (hL (sK L n)),lst 1 (kpN L n) λz=>[DX (kpF L n z)],AV.lit true])))))))) VU ?_
 intro Q hQ;simp only [VN.sat,UB,UJ,VM,FA] at hQ ⊢;have b0:=yO VT
 (with_reducible repeat' first|apply And.intro|intro _)
 all_goals first|exact True.intro|contradiction|(exfalso;rename_i h9;simp at h9;done)|omega|rfl|(rename_i h;exact absurd h (Nat.not_lt_zero _))|exact ⟨.tup [.agg (hsL (sK L n)),.lst 1 (kpN L n) (λz=>[.x (.string (kpF L n z))]),bl true],⟨A0 _,⟨rfl,rfl,λ_ _=>rfl⟩,rfl,True.intro⟩,hQ⟩|exact ⟨.tup [.agg (hsL (sK L n)),.lst 1 (kpN L n) (λz=>[.x (.string (kpF L n z))]),bl true],⟨A0 _,⟨rfl,rfl,λ_ _=>rfl⟩,⟨rfl,rfl⟩,True.intro⟩,hQ⟩|trace_state
end
def lnF(f:Nat->List AV)(k:Nat):ByteArray:=stO (f k)
def Xt2:DG:=λl=>match l with
 |[.lst 1 n f]=>some (.need [n<=1000-> ∀k,k<n->f k=[.x (.string (lnF f k))],ckE n (lnF f)=0] (.leaf (.tup [.agg (hsL (sK (lnF f) n)),.lst 1 (kpN (lnF f) n) (λz=>[.x (.string (kpF (lnF f) n z))]),bl true])))
 |_=>none
theorem Zg7:Sx.Enters Tryz.prog 9/\ ∀avs t,Xt2 avs=some t->UO VP 9 avs t:=by
 refine ⟨(UK Tryz.func9),?_⟩;intro avs t h;unfold Xt2 at h;split at h
 ·rename_i n f;cases h;intro Q hQ;have h0:ckE n (lnF f)=0:=hQ.1.2;have hn:=(yO h0).1;have h1: ∀k,k<n->f k=[.x (.string (lnF f k))]:=hQ.1.1 VK;intro e w args q1 q2 q3 q4;refine oE n (lnF f) h0 Q hQ.2 e w args q1 q2 ?_ ?_
  ·intro a ha;rw [BE.1 ha];exact .lst _ _ _ λk _ x hx=>by rw [BE.1 hx];exact .x _
  ·obtain ⟨u,us,rfl,r1,r2⟩:=q4.cons_inv;exact .cons (RY (a:= .lst 1 n f) ⟨rfl,rfl,h1⟩ r1) r2
 ·cases h
theorem EI(L:Nat->ByteArray)(n:Nat): ∀k,k<=n->sK (kpF L n) (kpN L k)=sK L k
 | 0,_=>rfl
 |k+1,hk=>by
  have ih:=EI L n k VK;cases hc:acB L k with
  |true=>
   have e1:kpN L (k+1)=kpN L k+1:=DA hc;rw [e1];show lnS (kpF L n (kpN L k)) (sK (kpF L n) (kpN L k))=lnS (L k) (sK L k);rw [ih];have e2:kpF L n (kpN L k)=L k:=by
    show L (UR (acB L) n (G9 (acB L) k))=L k;rw [P7 VK hc]
   rw [e2]
  |false=>
   have e1:kpN L (k+1)=kpN L k:=FN hc;rw [e1,ih];have h1: ¬lnE (L k) (sK L k)=0:=by
    intro h;have:acB L k=true:=by
     show (lnE (L k) (sK L k)==0)=true;rw [h];rfl
    rw [hc] at this;cases this
   show sK L k=lnS (L k) (sK L k);unfold lnS;rw [if_neg h1]
theorem We9(L:Nat->ByteArray): ∀n j,j<kpN L n-> ∃k,k<n/\acB L k=true/\kpN L k=j
 | 0,j,h=>absurd h (Nat.not_lt_zero j)
 |n+1,j,h=>by
  cases hc:acB L n with
  |true=>
   have e1:kpN L (n+1)=kpN L n+1:=DA hc;rw [e1] at h;rcases (show j<kpN L n\/j=kpN L n by omega) with h1|h1
   ·obtain ⟨k,a,b,c⟩:=We9 L n j h1;exact ⟨k,VK,b,c⟩
   ·exact ⟨n,VK,hc,h1.symm⟩
  |false=>
   have e1:kpN L (n+1)=kpN L n:=FN hc;rw [e1] at h;obtain ⟨k,a,b,c⟩:=We9 L n j h;exact ⟨k,VK,b,c⟩
theorem tZ{L:Nat->ByteArray}{n j:Nat}(h:j<kpN L n): ∃k,k<n/\acB L k=true/\kpF L n j=L k/\eK (kpF L n) j=0:=by
 obtain ⟨k,h1,h2,h3⟩:=We9 L n j h;have e2:kpF L n j=L k:=by
  show L (UR (acB L) n j)=L k;rw [←h3];show L (UR (acB L) n (G9 (acB L) k))=L k;rw [P7 h1 h2]
 refine ⟨k,h1,h2,e2,?_⟩;show lnE (kpF L n j) (sK (kpF L n) j)=0;rw [e2,←h3,EI L n k VK];exact beq_iff_eq.1 h2
theorem Zi7{L:Nat->ByteArray}{n:Nat}:kpN (kpF L n) (kpN L n)=kpN L n:=by
 have: ∀j,j<=kpN L n->G9 (acB (kpF L n)) j=j:=by
  intro j
  induction j with
  |zero=>intro _;rfl
  |succ j ih=>
   intro hj;obtain ⟨k,_,_,_,h4⟩:=tZ (show j<kpN L n by omega)
   rw [DA (show acB (kpF L n) j=true by show (eK (kpF L n) j==0)=true;rw [h4];rfl),ih VK]
 exact this _ (Nat.le_refl _)
theorem Xs0{n:Nat}{L:Nat->ByteArray}(h1:n<=50)(h2: ∀k,k<n->(L k).size<=200):ckE n L=0:=by
 unfold ckE;rw [if_pos ⟨h1,GU.2 λk hk=>decide_eq_true (by have:=h2 k hk;omega)⟩]
theorem Jb7{L:Nat->ByteArray}{n:Nat}(h:ckE n L=0):ckE (kpN L n) (kpF L n)=0:=by
 have h0:=yO h;have h1:kpN L n<=n:=gL _ _;refine Xs0 VK λj hj=>?_
 obtain ⟨k,k1,_,k3,_⟩:=tZ hj;rw [k3];exact h0.2 k k1
section
variable {n:Nat}{L:Nat->ByteArray}
theorem Xq6{most:Int}(h:rdB n L most=true):ckE n L=0/\(n:Int)<=most:=by
 unfold rdB at h;rw [H9,H9,kC] at h;obtain ⟨_,h2,h3⟩:=h;unfold rgB at h2;rw [H9,kC] at h2;refine ⟨Xs0 VK λk hk=>?_,h3⟩
 have:=qK (GU.1 h2.1 k hk);omega
theorem Xc2:[.agg (hsL (sK L n)),.agg (hsL (sK (kpF L n) (kpN L n)))]=[agg (hsL (sK L n)),.agg (hsL (sK L n))]:=by
 rw [EI L n n (Nat.le_refl _)]
end
theorem Wy7(n:Nat)(L:Nat->ByteArray):VY VP 3 [lns n L] (bl true):=by
 refine GB (L:=[]) (VL.cons (oD n L 50) (VL.cons Qw2 (VL.cons (Qm0 (sK L n) (Wl1 (u9 L n))) (VL.nil _)))) (VX.ofC (VR.nil _) (VO.nil _) (UC.cons Zg7 (UC.nil _))) VZ Tryz.func3 (UV Tryz.f3) G8 (t:=let z0:=(lnF λk=>[DX (L k)]);let z2:=(lnF λz=>[DX (kpF z0 n z)]);let z1:=(sK z2 (kpN z0 n));(need [U0 ([Q8 n L,iI 50])] (branch (!rdB n L (50:Int)) (leaf (RV.x (.bool true))) (need [n<=1000-> ∀(k:Nat),k<n->[DX (L k)]=[AV.x (.string (lnF (λk=>[DX (L k)]) k))],ckE n z0=0] (branch (!true) (leaf (RV.x (WQ))) (need [kpN z0 n<=1000-> ∀(k:Nat),k<kpN z0 n->[DX (kpF z0 n k)]=[AV.x (.string (lnF (λz=>[DX (kpF z0 n z)]) k))],ckE (kpN z0 n) z2=0] (branch true (branch ((↑(kpN z2 (kpN z0 n)):Int)==(↑(kpN z0 n):Int)) (need [[agg (hL (sK z0 n)),agg [lst 4 z1.nr λk=>[iI (z1.ra k),iI (z1.rb k),iI (z1.ru k),iI (z1.rv k)],iI z1.pl,iI z1.ph,lst 3 z1.nb λk=>[iI (z1.ql k),iI (z1.qh k),lst 2 (z1.qm k) λj=>[iI (z1.qr k j),iI (z1.qv k j)]],lst 5 z1.nc λk=>[iI (z1.ca k),iI (z1.cb k),iI (z1.cc k),iI (z1.cd k),AV.x (.bool (z1.cv k))],lst 5 z1.ns λk=>[iI (z1.sa k),iI (z1.sb k),iI (z1.sc k),iI (z1.sl k),iI (z1.sh k)]]]=[agg (hL (sK L n)),agg (hL (sK L n))]] (branch true (leaf (RV.x (.bool true))) (leaf (RV.x (WQ))))) (leaf (RV.x (WQ)))) (leaf (RV.x (WQ)))))))))) VU ?_
 have hk:rdB n L 50=true->ckE n (lnF λk=>[.x (.string (L k))])=0:=λh=>(Xq6 h).1
 have hk2:rdB n L 50=true->ckE (kpN L n) (kpF L n)=0:=λh=>Jb7 (Xq6 h).1
 have hs:= @Xc2 n L;have ha:= @Zi7 L n;simp only [VN.sat,UB,UY,GL,UE,UJ,VM,FA]
 (with_reducible repeat' first|apply And.intro|intro _)
 all_goals first|exact True.intro|contradiction|exact hk (by simp_all)|exact hk2 (by simp_all)|exact hs|(rename_i h9;exact absurd h9 (by show ¬((((kpN (kpF L n) (kpN L n):Nat):Int)==((kpN L n:Nat):Int))=false);rw [ha];simp))|(exfalso;rename_i h9;simp at h9;done)|omega|rfl|trace_state
end Go.Proofs.YtlclobclmfhlmaaGreatDoor.Hd
