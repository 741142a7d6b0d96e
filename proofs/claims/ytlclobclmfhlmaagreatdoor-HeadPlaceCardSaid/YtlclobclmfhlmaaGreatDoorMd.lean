/- Contracts, put together. Conditions: those of each. -/
import Derived.Test.YtlclobclmfhlmaaGreatDoorMc
import Derived.Test.YtlclobclmfhlmaaGreatDoorRows
set_option linter.unusedSimpArgs false
set_option linter.unusedVariables false
set_option maxRecDepth 100000
namespace Go.Proofs.YtlclobclmfhlmaaGreatDoor
noncomputable abbrev VR:Go.Program:=Tryz.prog
abbrev Ad:=Go.Sx.VZ.of (Go.Sx.VT.nil VR) (Go.Sx.VQ.nil VR)
abbrev Aa:=Go.Sx.VN.nil VR
abbrev Ab:=Go.Sx.VT.nil VR
abbrev Ac:=Go.Sx.VQ.nil VR
abbrev Ae:=@Go.Sx.VN.cons
abbrev Af:=@Go.Sx.VT.cons
abbrev Ag:=@Go.Sx.VQ.cons
abbrev Ah:=@Go.Sx.UE.cons
abbrev Ai:=@Go.Sx.VZ.of
abbrev Aj:=@Go.Sx.VZ.ofC
end Go.Proofs.YtlclobclmfhlmaaGreatDoor
namespace Go.Proofs.YtlclobclmfhlmaaGreatDoor.Pt
open Go Go.Sx Go.RowKit
open Go.Sx.VP (need branch leaf)
open Go.Sx.AV (lst ptr agg roI tup top)
theorem U1:Tryz.prog.follows .mixedOrders=true:=VW
abbrev i(n:Int):AV:= .x (.int .i64 n)
abbrev iI(n:Int):AV:= .x (.int .i64 n)
abbrev bl(b:Bool):AV:= .x (.bool b)
def bt(U n O:Int):Bool:=decide (U<=n)&&decide (n<=O)
def insB(U a b O:Int):Bool:=decide (U<=a)&&decide (a<=b)&&decide (b<=O)
theorem insB_iff(U a b O:Int):insB U a b O=true↔U<=a/\a<=b/\b<=O:=by simp [insB,and_assoc]
def scB(a b:Int):Bool:=bt (-1000) a 1000&&bt (-1000) b 1000&&(a != b)
def BI:UY
 |[.x (.int .i64 n),.x (.int .i64 U),.x (.int .i64 O)]=>some ([],bl (bt U n O))
 |_=>none
theorem xE(n U O:Int):U0 VR 227 [i n,i U,i O] (bl (bt U n O)):=by
 refine GZ Tryz.func227 (t:=branch (decide (U<=n)) (leaf (RV.x (.bool (decide (n<=O))))) (leaf (RV.x (.bool false)))) VW ?_;simp only [VP.sat,UD,G8,GO,UG,UJ];all_goals (simp+contextual [bt,insB,scB,Bool.and_assoc]);all_goals omega
theorem RM:VS VR 227 BI:=by
 refine ⟨(UK Tryz.func227),?_⟩;intro avs ns Z h I;unfold BI at h;split at h
 ·cases h;exact xE _ _ _
 ·cases h
def BJ:UY
 |[.agg [.x (.int .i64 a),.x (.int .i64 b)],.x (.int .i64 U),.x (.int .i64 O)]=>some ([],bl (insB U a b O))
 |_=>none
theorem xT(a b U O:Int):U0 VR 204 [.agg [i a,i b],i U,i O] (bl (insB U a b O)):=by
 refine GZ Tryz.func204 (t:=branch (decide (U<=a)) (branch (decide (a<=b)) (leaf (RV.x (.bool (decide (b<=O))))) (leaf (RV.x (.bool false)))) (leaf (RV.x (.bool false)))) VW ?_;simp only [VP.sat,UD,G8,GO,UG,UJ];all_goals (simp+contextual [bt,insB,scB,Bool.and_assoc]);all_goals omega
theorem B0:VS VR 204 BJ:=by
 refine ⟨(UK Tryz.func204),?_⟩;intro avs ns Z h I;unfold BJ at h;split at h
 ·cases h;exact xT _ _ _ _
 ·cases h
theorem mul_bd{x y X Y:Int}(hx: -X<=x/\x<=X)(hy: -Y<=y/\y<=Y): -(X*Y)<=x*y/\x*y<=X*Y:=by
 have h1:x.natAbs<=X.natAbs:=VM;have h2:y.natAbs<=Y.natAbs:=VM;have h3:(x*y).natAbs<=(X*Y).natAbs:=by rw [Int.natAbs_mul,Int.natAbs_mul];exact Nat.mul_le_mul h1 h2
 have h4:0<=X*Y:=Int.mul_nonneg VM VM;omega
abbrev scs(n:Nat)(a b:Nat->Int):AV:= .lst 2 n (λk=>[i (a k),i (b k)])
theorem isRec2(n:Nat)(a b:Nat->Int):UH 2 n (λk=>[i (a k),i (b k)]):=λ_ _=>rfl
def col(j:Nat)(f:Nat->List AV):Nat->Int:=λk=>Wo1 (f k) j
def C2(p q:Nat->Int)(k:Nat):Bool:=bt 1 (p k) 2000&&(bt 1 (q k) 2000&&(decide (k=0)||(decide (p (k-1)<p k)&&decide (q (k-1)<q k))))
section
variable (n:Nat)
def zM(p q:Nat->Int):Bool:=DD (C2 p q) n
abbrev QT(p:Nat->Int)(q:Nat->Int):AV:=lst 2 n λk=>[iI (p k),iI (q k)]
def Xe2(p q:Nat->Int):St:={σ:=[QT n p q]++HM 10 [QT n p q,iI (n:Int)]++HM 42 [],m:=[],nx:=10}
noncomputable def Js5:Code:=UC (VV (U9 Tryz.f203) 0)
def Wk8(p q:Nat->Int)(k:Nat):St:=(upM [(13,i k)] (Xe2 n p q))
def vX(p q:Nat->Int)(k:Nat):G9->Option St
 | .exit 0=>some (upM [] (Xe2 n p q))
 | .ret=>some (upM [(2,i 1)] (Xe2 n p q))
 |_=>none
def Jn7(p q:Nat->Int):CT:= .branch (zM n p q) (.leaf (.exit 0,(vX n p q 0 (.exit 0)).getD (Xe2 n p q))) (.leaf (.ret,(vX n p q 0 .ret).getD (Xe2 n p q)))
def Xy5(p q:Nat->Int):UL:=(HK (Wk8 n p q (0)) (Jn7 n p q))
abbrev JP(p:Nat->Int)(q:Nat->Int):Prop:=(QT n p q)=QT n p q
theorem Ja5(p q:Nat->Int)(VU:n<=100000):GA VR (.loop Js5) (Xy5 n p q):=by
 refine HJ (L:=[]) (Ae RM Aa) U1 U6 (X:=Nat) (Wk8 n p q) (λk=>k<=n/\ ∀j,j<k->C2 p q j=true) (λk=>n-k) (vX n p q) (x0:=0) ⟨VM,λj hj=>VM⟩ ?_ ?_ ?_
 ·rintro k;kernel_rfl
 ·rintro k y E h;unfold vX at h;split at h
  ·cases h;kernel_rfl
  ·cases h;kernel_rfl
  ·cases h
 ·rintro Q hQ k hx;refine ⟨(k+1),?_⟩;(with_reducible refine DL (t:=let A:=(need [JP n p q,U2 (1:Int),JP n p q,U2 (n:Int)] (leaf G9.ret));let W:=(need [VO ((k:Int)+1)] (need [JP n p q,JP n p q,U2 (n:Int),(k:Int)+1=(↑(k+1):Int)] (leaf G9.normal)));(branch (decide ((k:Int)<(n:Int))) (need [UM k n] (branch (!bt (1:Int) (p k) (2000:Int)) A (branch (!bt (1:Int) (q k) (2000:Int)) A (branch (decide ((k:Int)>0)) (need [VO ((k:Int)-1)] (need [UM ((k:Int)-1) n] (branch (decide (p k<=p ((k:Int)-1).toNat)) A (need [VO ((k:Int)-1)] (need [UM ((k:Int)-1) n] (branch (decide (q k<=q ((k:Int)-1).toNat)) A W)))))) W)))) (need [JP n p q,JP n p q,U2 (n:Int)] (leaf (G9.exit 0))))) VW ?_);simp only [Jn7,vX,VP.sat,GX] at hQ;have Wr9:k<n->C2 p q k=false->zM n p q=false:=by
   intro h1 h2;rw [←Bool.not_eq_true];intro h3;have:=GW.1 h3 k h1;rw [h2] at this;cases this
  have hO:C2 p q k=true-> ∀j,j<k+1->C2 p q j=true:=by
   intro h1 j hj;rcases (show j<k\/j=k by omega) with h|rfl
   ·exact hx.2 j h
   ·exact h1
  have PI: ¬k<n->zM n p q=true:=λh=>GW.2 (λj hj=>hx.2 j VM)
  have hQ1: ∀E,vX n p q k .ret=some E->zM n p q=false->Q (.ret,E):=by
   intro E hE hf;cases hE;exact hQ.2 hf
  have hQ2: ∀E,vX n p q k (.exit 0)=some E->zM n p q=true->Q (.exit 0,E):=by
   intro E hE hf;cases hE;exact hQ.1 hf
  have t1:((k:Int)-1).toNat=k-1:=VM;have hsb:C2 p q k=(bt 1 (p k) 2000&&(bt 1 (q k) 2000&&(decide (k=0)||(decide (p (k-1)<p k)&&decide (q (k-1)<q k))))):=rfl
  simp only [VP.sat,UD,UJ,HB,VO,DP,t1]
  with_reducible repeat' first|apply Al|intro _
  all_goals first|exact Ak|omega|exact hQ1 _ (by assumption) (Wr9 VM (by rw [hsb];grind))|exact hQ2 _ (by assumption) (PI VM)|exact hO (by rw [hsb];grind) _ (by assumption)
def tbE(p q:Nat->Int):Int:=if 8<n then 3 else if n<2 then 1 else if zM n p q then 0 else 1
end
def Qi2:UY
 |[.lst 2 n f]=>some ([UH 2 n f,n<=100000],i (tbE n (col 0 f) (col 1 f)))
 |_=>none
abbrev K9:Value:=Value.int IntKind.i64 (0:Int)
theorem Wc6(n:Nat)(p q:Nat->Int)(VU:n<=100000):U0 VR 203 [scs n p q] (i (tbE n p q)):=by
 refine U4 (L:=[Xy5 n p q]) (Ae RM Aa) U1 Tryz.func203 (UW Tryz.f203) (UZ (lpE (b:= .loop Js5) VW<|Ja5 n p q VU)) (t:=let A:=(leaf (RV.x (.int .i64 (1:Int))));(branch (decide ((n:Int)>8)) (leaf (RV.x (.int .i64 (3:Int)))) (branch (decide ((n:Int)<2)) A (need [JP n p q,JP n p q,U2 (n:Int),(0:Int)=(↑(0:Nat):Int)] (branch (zM n p q) (leaf (RV.x (K9))) A))))) VW ?_
 simp only [VP.sat,UD,G8,UG,UJ,HB,tbE,Int.natCast_zero];refine ⟨λh=>?_,λh=>⟨λh2=>?_,λh2=>⟨λh3=>?_,λh3=>?_⟩⟩⟩
 ·simp [show 8<n by omega]
 ·simp [show ¬8<n by omega,show n<2 by omega]
 ·simp [show ¬8<n by omega,show ¬n<2 by omega,h3]
 ·simp [show ¬8<n by omega,show ¬n<2 by omega,h3]
theorem Wc5:VS VR 203 Qi2:=by
 refine ⟨(UK Tryz.func203),?_⟩;intro avs ns Z h I;unfold Qi2 at h;split at h
 ·rename_i n f;cases h;have hr:UH 2 n f:=I _ VX;exact (Wc6 n (col 0 f) (col 1 f) (I _ VX)).same (.cons (.lst 2 n _ _ hr) .nil)
 ·cases h
def RR(n:Nat)(p:Nat->Int)(x:Int):Nat:=H0 (λk=>decide (x<=p (k+1))) (n-1)
def fM(p q:Nat->Int)(x:Int)(k:Nat):Int:=q k+((q (k+1)-q k)*(x-p k)).tdiv (p (k+1)-p k)
def boilI(n:Nat)(p q:Nat->Int)(x:Int):Int:=fM p q x (RR n p x)
theorem LU{n:Nat}{p q:Nat->Int}(h:zM n p q=true){k:Nat}(hk:k<n):1<=p k/\p k<=2000/\1<=q k/\q k<=2000/\(k=0\/p (k-1)<p k/\q (k-1)<q k):=by
 have:=GW.1 h k hk;simp only [C2,bt,HC,Bl,y5] at this;omega
theorem C1{n:Nat}{p q:Nat->Int}(h:zM n p q=true){j k:Nat}(hjk:j<=k)(hk:k<n):p j<=p k/\q j<=q k:=by
 induction k with
 |zero=>
      have:j=0:=VM;subst this;exact ⟨Int.le_refl _,Int.le_refl _⟩
 |succ k ih=>
  rcases (show j<=k\/j=k+1 by omega) with h1|rfl
  ·have:=ih h1 VM;have h2:=LU h hk;simp only [Bi] at h2;omega
  ·exact ⟨Int.le_refl _,Int.le_refl _⟩
theorem Zg6{n:Nat}{p:Nat->Int}{x:Int}(I:2<=n)(hx:x<=p (n-1)):RR n p x<n-1:=by
 obtain ⟨h1,h2,h3⟩:=F6 (λk=>decide (x<=p (k+1))) (n-1)
 unfold RR;rcases An (H0 (λk=>decide (x<=p (k+1))) (n-1)) (n-1) with h|h
 ·exact h
 ·have:=h2 (n-2) VM;rw [show n-2+1=n-1 by omega] at this
  simp at this;omega
theorem catF1{k j:Nat}{a:Nat->Int}{x:Int}(h:j<k+1)(hx:x=a k):GI k (λk=>[i (a k)]) (U8 1 [i x]) j=[i (a j)]:=by
 have e:j-k=0:=VM;show HD (decide (j<k)) [i (a j)] (U8 1 [i x] (j-k))=_;rw [e];by_cases hj:j<k
 ·rw [show decide (j<k)=true by simp [hj]]
  rfl
 ·have hk:j=k:=VM;rw [show decide (j<k)=false by simp [hj],hk,hx]
  rfl
theorem Jl9(a b:Nat->Int):col 0 (λk=>[i (a k),i (b k)])=a:=rfl
theorem Jl8(a b:Nat->Int):col 1 (λk=>[i (a k),i (b k)])=b:=rfl
theorem C9{n:Nat}{p q:Nat->Int}{x:Int}(I:2<=n)(ht:zM n p q=true)(hx:p 0<=x/\x<=p (n-1)):RR n p x<n-1/\p (RR n p x)<=x/\x<=p (RR n p x+1):=by
 have h1:=Zg6 I hx.2;obtain ⟨f1,f2,f3⟩:=F6 (λk=>decide (x<=p (k+1))) (n-1)
 have h3:=f3 h1;refine ⟨h1,?_,qC h3⟩;rcases Nat.eq_zero_or_pos (RR n p x) with h|h
 ·rw [h];exact hx.1
 ·have:=f2 (RR n p x-1) (by unfold RR at h ⊢;omega)
  rw [show RR n p x-1+1=RR n p x by omega] at this
  simp at this;omega
theorem fL{p q:Nat->Int}{x:Int}{k:Nat}(hp:p k<p (k+1))(hq:q k<q (k+1))(h1:p k<=x)(h2:x<=p (k+1)):fM p q x k=q k+(q (k+1)-q k)*(x-p k) / (p (k+1)-p k)/\q k<=fM p q x k/\fM p q x k<=q (k+1):=by
 have m0:0<=(q (k+1)-q k)*(x-p k):=Int.mul_nonneg VM VM;have e:fM p q x k=q k+(q (k+1)-q k)*(x-p k) / (p (k+1)-p k):=by
  unfold fM;rw [Int.tdiv_eq_ediv_of_nonneg m0]
 have m1:(q (k+1)-q k)*(x-p k)<=(q (k+1)-q k)*(p (k+1)-p k):=Int.mul_le_mul_of_nonneg_left VM VM;have d0:0<=(q (k+1)-q k)*(x-p k) / (p (k+1)-p k):=Int.ediv_nonneg m0 VM;have d1:(q (k+1)-q k)*(x-p k) / (p (k+1)-p k)<=q (k+1)-q k:=Int.ediv_le_of_le_mul VM m1;rw [e];omega
theorem Wd7{n:Nat}{p:Nat->Int}{x y:Int}(h:x<=y):RR n p x<=RR n p y:=by
 obtain ⟨f1,f2,f3⟩:=F6 (λk=>decide (x<=p (k+1))) (n-1)
 obtain ⟨g1,g2,g3⟩:=F6 (λk=>decide (y<=p (k+1))) (n-1)
 unfold RR;rcases An (H0 (λk=>decide (y<=p (k+1))) (n-1)) (H0 (λk=>decide (x<=p (k+1))) (n-1)) with hl|hl
 ·have a1:=f2 _ hl;have a2:=g3 VM;simp at a1 a2;omega
 ·exact hl
theorem boil_spec{n:Nat}{p q:Nat->Int}{x:Int}(I:2<=n)(ht:zM n p q=true)(hx:p 0<=x/\x<=p (n-1)):q 0<=boilI n p q x/\boilI n p q x<=q (n-1)/\1<=boilI n p q x/\boilI n p q x<=2000:=by
 obtain ⟨h1,h2,h3⟩:=C9 I ht hx;have s:=LU ht (show RR n p x+1<n by omega)
 simp only [Bi] at s;have b:=fL (p:=p) (q:=q) (x:=x) (k:=RR n p x) VM VM h2 h3;have m1:=C1 ht (show 0<=RR n p x by omega) (show RR n p x<n by omega)
 have m2:=C1 ht (show RR n p x+1<=n-1 by omega) (show n-1<n by omega)
 have z:=LU ht (show 0<n by omega)
 have z2:=LU ht (show n-1<n by omega)
 unfold boilI;omega
theorem boil_mono{n:Nat}{p q:Nat->Int}{x y:Int}(I:2<=n)(ht:zM n p q=true)(hx:p 0<=x)(hxy:x<=y)(hy:y<=p (n-1)):boilI n p q x<=boilI n p q y:=by
 obtain ⟨h1,h2,h3⟩:=C9 I ht (x:=x) VM;obtain ⟨g1,g2,g3⟩:=C9 I ht (x:=y) VM;have s:=LU ht (show RR n p x+1<n by omega)
 have s':=LU ht (show RR n p y+1<n by omega)
 simp only [Bi] at s s';have b:=fL (p:=p) (q:=q) (x:=x) (k:=RR n p x) VM VM h2 h3;have b':=fL (p:=p) (q:=q) (x:=y) (k:=RR n p y) VM VM g2 g3;have hm:=Wd7 (n:=n) (p:=p) hxy;unfold boilI;rcases An (RR n p x) (RR n p y) with hl|hl
 ·have m:=C1 ht (show RR n p x+1<=RR n p y by omega) (show RR n p y<n by omega)
  omega
 ·have e:RR n p x=RR n p y:=VM;rw [b.1,b'.1,e];rw [e] at s;have:=Int.ediv_le_ediv (show 0<p (RR n p y+1)-p (RR n p y) by omega) (Int.mul_le_mul_of_nonneg_left (show x-p (RR n p y)<=y-p (RR n p y) by omega) (show 0<=q (RR n p y+1)-q (RR n p y) by omega))
  omega
def bM:UY
 |[.lst 2 n f]=>some ([],.fn (.func 241) [] [.ro [.lst 2 n f]])
 |_=>none
theorem Wd2(n:Nat)(f:Nat->List AV):FF VR 228 [.lst 2 n f] (.fn (.func 241) [] [.ro [.lst 2 n f]]):=by
 refine D0 (L:=[]) Aa Ad U1 Tryz.func228 (UW Tryz.f228) G7 (t:=leaf (AV.fn (Fn.func 241) [] [AV.ro [lst 2 n λa=>f a]])) VW ?_
 exact rfl
theorem NR:P5 VR 228 bM:=by
 refine ⟨(UK Tryz.func228),?_⟩;intro avs ns Z h I;unfold bM at h;split at h
 ·cases h;exact Wd2 _ _
 ·cases h
def stV(p q:Nat->Int)(k:Nat):Value:= .agg #[.int .i64 (p k),.int .i64 (q k)]
def spV(p q:Nat->Int)(k:Nat):List Value:=[stV p q k,stV p q (k+1)]
section
variable (l:Nat)
abbrev KY:AV:=AV.fn (Fn.yield l) [] []
def Xe3(n:Nat)(p q:Nat->Int):St:={σ:=[KY l,AV.ro [QT n p q],top,top,top,top,lst 2 (n-(1:Int).toNat) λi=>[iI (p ((1:Int).toNat+i)),iI (q ((1:Int).toNat+i))],iI (↑(n-(1:Int).toNat):Int)]++HM 14 [],m:=[],nx:=4,gh:=some 0}
noncomputable def Zv7:Code:=UC (VV (U9 Tryz.f241) 0)
def aH(n:Nat)(p q:Nat->Int)(k:Nat):St:={σ:=H4 [(8,i k)] (Xe3 l n p q).σ,m:=[],nx:=0,gh:=some (k) }
def kC(n:Nat)(p q:Nat->Int)(k:Nat):G9->Option St
 | .exit 0=>some {σ:=H4 [] (Xe3 l n p q).σ,m:=[],nx:=0,gh:=some (n-1) }
 | .ret=>some {σ:=H4 [] (Xe3 l n p q).σ,m:=[],nx:=0,gh:=none}
 |_=>none
def Jn9(n:Nat)(p q:Nat->Int):CT:= .may True (.leaf (.exit 0,(kC l n p q 0 (.exit 0)).getD (Xe3 l n p q))) (.leaf (.ret,(kC l n p q 0 .ret).getD (Xe3 l n p q)))
def Xy7(n:Nat)(p q:Nat->Int):UL:=GM [] (HK (aH l n p q (0)) (Jn9 l n p q))
theorem Ja8(n:Nat)(p q:Nat->Int)(VU:1<=n/\n<=100000){cx:Cx}(hX:VZ VR {Y:=some (l,(n-1),(spV p q)) } cx):HL VR none cx (.loop Zv7) (Xy7 l n p q):=by
 refine F2 [] (L:=[]) Aa hX U1 G7 (V:=Nat) (aH l n p q) (λk=>k<=n-1) (λk=>n-k) (kC l n p q) (x0:=0) VX ?_ ?_ ?_
 ·rintro k;kernel_rfl
 ·rintro k y E h;unfold kC at h;split at h
  ·cases h;kernel_rfl
  ·cases h;kernel_rfl
  ·cases h
 ·rintro Q hQ k hx;refine ⟨(k+1),?_⟩;have e:HP VR [] {Y:=some (l,(n-1),(spV p q)) } [] [] Zv7 (aH l n p q k) (aH l n p q ((k+1))) (kC l n p q k)=(let A:=(U2 (lst 2 (n-(1:Int).toNat) λi=>[iI (p ((1:Int).toNat+i)),iI (q ((1:Int).toNat+i))]));let W:=(U2 (↑(n-(1:Int).toNat):Int));(branch (decide ((k:Int)<(↑(n-(1:Int).toNat):Int))) (need [UM k (↑(n-(1:Int).toNat):Int)] (need [UM k n] (need [l=l,k<n-1,[Value.agg {toList:=[Value.int IntKind.i64 (p k),Value.int IntKind.i64 (q k)] },Value.agg {toList:=[Value.int IntKind.i64 (p ((1:Int).toNat+k)),Value.int IntKind.i64 (q ((1:Int).toNat+k))] }]=[Value.agg {toList:=[Value.int IntKind.i64 (p k),Value.int IntKind.i64 (q k)] },Value.agg {toList:=[Value.int IntKind.i64 (p (k+1)),Value.int IntKind.i64 (q (k+1))] }]] (VP.may True (need [VO ((k:Int)+1)] (need [KY l=KY l,U2 (AV.ro [QT n p q]),A,W,(k:Int)+1=(↑(k+1):Int),k+1=k+1] (leaf G9.normal))) (need [KY l=KY l,U2 (AV.ro [QT n p q]),A,W] (leaf G9.ret)))))) (need [KY l=KY l,U2 (AV.ro [QT n p q]),A,W,k=n-1] (leaf (G9.exit 0))))):=VW
  rw [e];simp only [Jn9,kC,VP.sat,GX] at hQ;have hQ1: ∀E,kC l n p q k (.exit 0)=some E->Q (.exit 0,E):=λE hE=>by cases hE;exact hQ.1 trivial
  have hQ2: ∀E,kC l n p q k .ret=some E->Q (.ret,E):=λE hE=>by cases hE;exact hQ.2
  have t1:(1:Int).toNat=1:=rfl;have t2:1+k=k+1:=VM;simp only [VP.sat,UD,UJ,HB,VO,DP,t1,t2];clear e hQ;all_goals exact VA
end
section
variable (n:Nat)
theorem o1(p q:Nat->Int)(VU:1<=n/\n<=100000):PN Tryz.prog 241 [.ro [scs n p q]] ((n-1)) (spV p q):=by
 refine PD (L:=λl=>[Xy7 l n p q]) Aa U1 (UK Tryz.func241) Tryz.func241 (UW Tryz.f241) VW (λl cx hX=>UZ (lpE (b:= .loop Zv7) VW<|Ja8 l n p q VU hX)) (t:=λl=>(need [(0:Int)<=1/\(1:Int)<=(n:Int)/\(n:Int)<=(n:Int)] (need [U2 (AV.fn (Fn.yield l) [] []),U2 (AV.ro [QT n p q]),U2 (lst 2 (n-(1:Int).toNat) λi=>[iI (p ((1:Int).toNat+i)),iI (q ((1:Int).toNat+i))]),U2 (↑(n-(1:Int).toNat):Int),(0:Int)=(↑(0:Nat):Int),0=0] (VP.may True (need [n-1=n-1] (leaf PUnit.unit)) (leaf PUnit.unit))))) (λl=>VW) ?_
 intro l;simp only [VP.sat,UD,G8,GO,UG,VO,UJ,HB,RE];all_goals exact VA
abbrev K2(p:Nat->Int)(q:Nat->Int):AV:=AV.fn (Fn.func 241) [] [AV.ro [QT n p q]]
def Qa9(p q:Nat->Int)(y:Int):St:={σ:=[QT n p q,iI y,top,ptr 0 0,ptr 1 0,top,top,top,K2 n p q]++HM 25 [],m:=[(1,GS.cells 3 [iI 0]),(0,GS.cells 3 [iI y])],nx:=4}
def rfF:Option Code->Operand
 |some (.rangeFunc f _ _ _)=>f
 |_=> .const .nilFunc
def zQ:Option Code->Array Nat
 |some (.rangeFunc _ ps _ _)=>ps
 |_=>#[]
def MX:Option Code->Code
 |some (.rangeFunc _ _ a _)=>a
 |_=> .skip
def MW:Option Code->Code
 |some (.rangeFunc _ _ _ b)=>b
 |_=> .skip
noncomputable def Zw5:Code:=MX (VV (U9 Tryz.f205) 0)
noncomputable def Qx1:Code:=MW (VV (U9 Tryz.f205) 0)
def uC(p q:Nat->Int)(y:Int)(k:Nat):St:=(upM [] (Qa9 n p q y))
def PW(p q:Nat->Int)(y:Int)(k:Nat):G9->Option St
 | .ret=>some (upE [] [(1,.cells 3 [i (boilI n p q y)])] (Qa9 n p q y))
 |_=>none
def Wz6(p q:Nat->Int)(y:Int):CT:= .leaf (.ret,(PW n p q y 0 .ret).getD (Qa9 n p q y))
def nJ(p q:Nat->Int)(y:Int):UL:=GM [] (HK (uC n p q y (0)) (Wz6 n p q y))
abbrev V0:Ext:={R:=[(228,bM)],H:=[] }
theorem Jm5(p q:Nat->Int)(y:Int)(VU:2<=n/\n<=100000)(UI:zM n p q=true)(HU: -100000<=y/\y<=p (n-1)):HN VR (.rangeFunc (rfF (VV (U9 Tryz.f205) 0)) (zQ (VV (U9 Tryz.f205) 0)) Zw5 Qx1) (nJ n p q y):=by
 refine LH [] (L:=[]) Aa (Ai (Af NR Ab) Ac) U1 U6 (V:=Nat) (uC n p q y) (λk=>k<=n-1/\ ∀j,j<k->decide (y<=p (j+1))=false) (λk=>k) (PW n p q y) (x0:=0) ⟨VM,λj hj=>VM⟩ rfl ?_ ?_ ?_ ?_ (g:=241) (caps:=[.ro [scs n p q]]) VW VW (o1 n p q VM) (λ_=>rfl) ?_
 ·rintro k;kernel_rfl
 ·rintro k y E h;unfold PW at h;split at h
  ·cases h;kernel_rfl
  ·cases h
 ·rintro k;rfl
 ·rintro k y E h;unfold PW at h;split at h
  ·cases h;rfl
  ·cases h
 ·rintro Q hQ k hx;refine ⟨λhlt=>⟨(k+1),rfl,?_⟩,λPI=>?_⟩
  ·have e:CB VR [] V0 [] [] (zQ (VV (U9 Tryz.f205) 0)).toList ((spV p q) (k)) Zw5 Qx1 (uC n p q y k) (uC n p q y ((k+1))) (PW n p q y k)=(branch (decide (y<=p (k+1))) (need [VO (q (k+1)-q k)] (need [VO (y-p k)] (need [VO ((q (k+1)-q k)*(y-p k))] (need [VO (p (k+1)-p k)] (need [p (k+1)-p k≠0,VO (Int.tdiv ((q (k+1)-q k)*(y-p k)) (p (k+1)-p k))] (need [VO (q k+Int.tdiv ((q (k+1)-q k)*(y-p k)) (p (k+1)-p k))] (need [JP n p q,y=y,U2 (ptr 0 0),U2 (ptr 1 0),U2 (K2 n p q),q k+Int.tdiv ((q (k+1)-q k)*(y-p k)) (p (k+1)-p k)=boilI n p q y] (leaf G9.ret)))))))) (need [JP n p q,y=y,U2 (ptr 0 0),U2 (ptr 1 0),U2 (K2 n p q),U2 (0:Int),y=y] (leaf G9.normal))):=VW;rw [e];simp only [Wz6,PW,VP.sat,GX] at hQ;have hQ2: ∀E,PW n p q y k .ret=some E->Q (.ret,E):=λE hE=>by cases hE;exact hQ
   simp only [VP.sat,UD,UJ,HB,VO];clear e hQ;have sl:=LU UI (show n-1<n by omega)
   have s0:=LU UI (show k<n by omega)
   have s1:=LU UI (show k+1<n by omega)
   simp only [Bi] at s1;have m:=mul_bd (x:=q (k+1)-q k) (y:=y-p k) (X:=2000) (Y:=200000) VM VM;have dv:(((q (k+1)-q k)*(y-p k)).tdiv (p (k+1)-p k)).natAbs<=((q (k+1)-q k)*(y-p k)).natAbs:=by
    rw [Int.natAbs_tdiv];exact Nat.div_le_self _ _
   refine ⟨λh=>?_,λh=>?_⟩
   ·have hf:RR n p y=k:=jB hlt (by simpa using h) hx.2
    have hbo:boilI n p q y=q k+((q (k+1)-q k)*(y-p k)).tdiv (p (k+1)-p k):=by unfold boilI;rw [hf];rfl
    rw [hbo];all_goals exact VA
   ·refine ⟨VM,λj hj=>?_⟩
    rcases (show j<k\/j=k by omega) with h1|rfl
    ·have:=hx.2 j h1;simpa using this
    ·exact h
  ·exfalso;have:=hx.2 (n-2) VM;rw [show n-2+1=n-1 by omega] at this
   simp at this;omega
theorem Xo6(p q:Nat->Int)(y:Int)(VU:2<=n/\n<=100000)(UI:zM n p q=true)(HU: -100000<=y/\y<=p (n-1)):U0 VR 205 [scs n p q,i y] (i (boilI n p q y)):=by
 refine GD (L:=[nJ n p q y]) Aa (Ai (Af NR Ab) Ac) U1 Tryz.func205 (UW Tryz.f205) (UZ (lpE (b:= .rangeFunc (rfF (VV (U9 Tryz.f205) 0)) (zQ (VV (U9 Tryz.f205) 0)) Zw5 Qx1) VW<|Jm5 n p q y VU UI HU)) (t:=need [JP n p q,y=y,U2 (ptr 0 0),U2 (ptr 1 0),U2 (K2 n p q),U2 (0:Int),y=y] (leaf (RV.x (.int .i64 (boilI n p q y))))) VW ?_
 simp only [VP.sat,UD,G8,GO,UG,VO,UJ];all_goals first|omega|grind
end
def Xa3:UY
 |[.lst 2 n f,.x (.int .i64 y)]=>some ([UH 2 n f,2<=n/\n<=100000,zM n (col 0 f) (col 1 f)=true,-100000<=y/\y<=col 0 f (n-1)],i (boilI n (col 0 f) (col 1 f) y))
 |_=>none
theorem Xo5:VS VR 205 Xa3:=by
 refine ⟨(UK Tryz.func205),?_⟩;intro avs ns Z h I;unfold Xa3 at h;split at h
 ·rename_i n f y;cases h;have hr:UH 2 n f:=I _ VX;exact (Xo6 n (col 0 f) (col 1 f) y (I _ VX) (I _ VX) (I _ VX)).same (.cons (.lst 2 n _ _ hr) (.cons (.refl _) .nil))
 ·cases h
section
variable (n:Nat)(p q:Nat->Int)(U O:Int)
def blE:Int:=if tbE n p q=0 then (if insB (p 0) U O (p (n-1)) then 0 else 2) else tbE n p q
def blLo:Int:=if blE n p q U O=0 then boilI n p q U else 0
def blHi:Int:=if blE n p q U O=0 then boilI n p q O else 0
end
theorem Wc4{n:Nat}{p q:Nat->Int}(h:tbE n p q=0):2<=n/\n<=8/\zM n p q=true:=by
 unfold tbE at h;split at h
 ·omega
 ·split at h
  ·omega
  ·split at h
   ·rename_i h3;exact ⟨VM,VM,h3⟩
   ·omega
theorem Xf3(n:Nat)(p q:Nat->Int)(U O:Int)(VU:n<=100000):U0 VR 172 [scs n p q,.agg [i U,i O]] (.tup [.agg [i (blLo n p q U O),i (blHi n p q U O)],i (blE n p q U O)]):=by
 refine U4 (L:=[]) (Ae Wc5 (Ae B0 (Ae Xo5 Aa))) U1 Tryz.func172 (UW Tryz.f172) U6 (t:=need [UH 2 n λk=>[i (p k),i (q k)],n<=100000] (branch (tbE n p q != 0) (leaf (RV.tup [RV.agg [RV.x (K9),RV.x (K9)],RV.x (.int .i64 (tbE n p q))])) (need [UM 0 n] (need [VO ((n:Int)-1)] (need [UM ((n:Int)-1) n] (branch (!insB (p (0:Int).toNat) U O (p ((n:Int)-1).toNat)) (leaf (RV.tup [RV.agg [RV.x (K9),RV.x (K9)],RV.x (.int .i64 (2:Int))])) (need [UH 2 n λk=>[i (p k),i (q k)],2<=n/\n<=100000,zM n p q=true,(-100000:Int)<=U/\U<=p (n-1)] (need [UH 2 n λk=>[i (p k),i (q k)],2<=n/\n<=100000,zM n p q=true,(-100000:Int)<=O/\O<=p (n-1)] (leaf (RV.tup [RV.agg [RV.x (.int .i64 (boilI n p q U)),RV.x (.int .i64 (boilI n p q O))],RV.x (K9)])))))))))) VW ?_
 simp only [VP.sat,UD,G8,GO,UG,UJ,Jl9,Jl8,VO,show (0:Int).toNat=0 from rfl];refine ⟨⟨isRec2 n p q,VU⟩,λh=>?_,λh=>?_⟩
 ·have h':tbE n p q≠0:=by simpa using h
  simp [blLo,blHi,blE,h']
 ·have h':tbE n p q=0:=by simpa using h
  obtain ⟨t1,t2,t3⟩:=Wc4 h';have e1:((n:Int)-1).toNat=n-1:=VM;have s0:=LU t3 (show 0<n by omega)
  simp only [e1];refine ⟨VM,VM,VM,λh2=>?_,λh2=>?_⟩
  ·have h2':insB (p 0) U O (p (n-1))=false:=by simpa using h2
   simp [blLo,blHi,blE,h',h2']
  ·have h2':insB (p 0) U O (p (n-1))=true:=by simpa using h2
   have b:=(insB_iff _ _ _ _).1 h2';refine ⟨⟨isRec2 n p q,VM,t3,VM⟩,⟨isRec2 n p q,VM,t3,VM⟩,?_⟩;simp [blLo,blHi,blE,h',h2']
def Qk3:UY
 |[.lst 2 n f,.agg [.x (.int .i64 U),.x (.int .i64 O)]]=>some ([UH 2 n f,n<=100000],.tup [.agg [i (blLo n (col 0 f) (col 1 f) U O),i (blHi n (col 0 f) (col 1 f) U O)],i (blE n (col 0 f) (col 1 f) U O)])
 |_=>none
theorem blE_ok{n:Nat}{p q:Nat->Int}{U O:Int}(h:blE n p q U O=0):2<=n/\n<=8/\zM n p q=true/\p 0<=U/\U<=O/\O<=p (n-1):=by
 unfold blE at h;split at h
 ·rename_i h1;obtain ⟨t1,t2,t3⟩:=Wc4 h1;split at h
  ·rename_i h2;have:=(insB_iff _ _ _ _).1 h2;exact ⟨t1,t2,t3,this⟩
  ·omega
 ·contradiction
theorem Boils_ok:VS VR 172 Qk3:=by
 refine ⟨(UK Tryz.func172),?_⟩;intro avs ns Z h I;unfold Qk3 at h;split at h
 ·rename_i n f U O;cases h;have hr:UH 2 n f:=I _ VX;exact (Xf3 n (col 0 f) (col 1 f) U O (I _ VX)).same (.cons (.lst 2 n _ _ hr) (.cons (.refl _) .nil))
 ·cases h
end Go.Proofs.YtlclobclmfhlmaaGreatDoor.Pt
namespace Go.Proofs.YtlclobclmfhlmaaGreatDoor.Bo
open Go Go.Sx Go.RowKit Go.ChangeShapes Go.WideShapes Go.ChangeAt
open Go.Sx.VP (need branch leaf)
open Go.Sx.AV (lst ptr agg roI tup top)
theorem U1:Tryz.prog.follows .mixedOrders=true:=VW
abbrev i(n:Int):AV:= .x (.int .i64 n)
abbrev iI(n:Int):AV:= .x (.int .i64 n)
abbrev bl(b:Bool):AV:= .x (.bool b)
def bt(U n O:Int):Bool:=decide (U<=n)&&decide (n<=O)
theorem bt_iff(U n O:Int):bt U n O=true↔U<=n/\n<=O:=by simp [bt]
def insB(U a b O:Int):Bool:=decide (U<=a)&&decide (a<=b)&&decide (b<=O)
theorem insB_iff(U a b O:Int):insB U a b O=true↔U<=a/\a<=b/\b<=O:=by simp [insB,and_assoc]
def qJ(c T U O:Int):Bool:=bt 1 c 10&&insB 1 U O 200&&bt 1 T 2000&&bt (c*U) T (c*O)
def rdB(c a b u v:Int):Bool:=bt 0 a (c-1)&&bt a b c&&insB 0 u v 2000
def BI:UY
 |[.x (.int .i64 n),.x (.int .i64 U),.x (.int .i64 O)]=>some ([],bl (bt U n O))
 |_=>none
abbrev YG:Value:=Value.bool false
theorem xE(n U O:Int):U0 VR 206 [i n,i U,i O] (bl (bt U n O)):=by
 refine GZ Tryz.func206 (t:=branch (decide (U<=n)) (leaf (RV.x (.bool (decide (n<=O))))) (leaf (RV.x (YG)))) VW ?_;simp only [VP.sat,UD,G8,GO,UG,UJ];all_goals (simp+contextual [bt,insB,Bool.and_assoc]);all_goals omega
theorem RM:VS VR 206 BI:=by
 refine ⟨(UK Tryz.func206),?_⟩;intro avs ns Z h I;unfold BI at h;split at h
 ·cases h;exact xE _ _ _
 ·cases h
def BJ:UY
 |[.agg [.x (.int .i64 a),.x (.int .i64 b)],.x (.int .i64 U),.x (.int .i64 O)]=>some ([],bl (insB U a b O))
 |_=>none
theorem xT(a b U O:Int):U0 VR 207 [.agg [i a,i b],i U,i O] (bl (insB U a b O)):=by
 refine GZ Tryz.func207 (t:=branch (decide (U<=a)) (branch (decide (a<=b)) (leaf (RV.x (.bool (decide (b<=O))))) (leaf (RV.x (YG)))) (leaf (RV.x (YG)))) VW ?_;simp only [VP.sat,UD,G8,GO,UG,UJ];all_goals (simp+contextual [bt,insB,Bool.and_assoc]);all_goals omega
theorem B0:VS VR 207 BJ:=by
 refine ⟨(UK Tryz.func207),?_⟩;intro avs ns Z h I;unfold BJ at h;split at h
 ·cases h;exact xT _ _ _ _
 ·cases h
theorem mul_bd{x y X Y:Int}(hx: -X<=x/\x<=X)(hy: -Y<=y/\y<=Y): -(X*Y)<=x*y/\x*y<=X*Y:=by
 have h1:=Int.mul_nonneg (show 0<=X-x by omega) (show 0<=Y-y by omega)
 have h2:=Int.mul_nonneg (show 0<=X+x by omega) (show 0<=Y+y by omega)
 have h3:=Int.mul_nonneg (show 0<=X-x by omega) (show 0<=Y+y by omega)
 have h4:=Int.mul_nonneg (show 0<=X+x by omega) (show 0<=Y-y by omega)
 rw [Int.sub_mul,Int.mul_sub,Int.mul_sub] at h1;rw [Int.add_mul,Int.mul_add,Int.mul_add] at h2;rw [Int.sub_mul,Int.mul_add,Int.mul_add] at h3;rw [Int.add_mul,Int.mul_sub,Int.mul_sub] at h4;omega
def rW:UY
 |[.agg [.x (.int .i64 c),.x (.int .i64 T),.x (.int .i64 U),.x (.int .i64 O)]]=>some ([],i (if qJ c T U O then 0 else 1))
 |_=>none
abbrev JV:Value:=Value.int IntKind.i64 (0:Int)
abbrev YE:Value:=Value.int IntKind.i64 (1:Int)
theorem bY(c T U O:Int):U0 VR 173 [.agg [i c,i T,i U,i O]] (i (if qJ c T U O then 0 else 1)):=by
 refine U4 (L:=[]) (Ae RM (Ae B0 Aa)) U1 Tryz.func173 (UW Tryz.f173) U6 (t:=branch (!bt (1:Int) c (10:Int)) (leaf (RV.x (YE))) (branch (!insB (1:Int) U O (200:Int)) (leaf (RV.x (YE))) (branch (!bt (1:Int) T (2000:Int)) (leaf (RV.x (YE))) (need [VO (c*U)] (need [VO (c*O)] (branch (!bt (c*U) T (c*O)) (leaf (RV.x (YE))) (leaf (RV.x (JV))))))))) VW ?_;simp only [VP.sat,UD,G8,UG,UJ,VO,qJ];rcases Bool.eq_false_or_eq_true (bt 1 c 10) with h1|h1
 rotate_left
 ·simp [h1]
 rcases Bool.eq_false_or_eq_true (insB 1 U O 200) with h2|h2
 rotate_left
 ·simp [h1,h2]
 rcases Bool.eq_false_or_eq_true (bt 1 T 2000) with h3|h3
 rotate_left
 ·simp [h1,h2,h3]
 have e1:=(bt_iff _ _ _).1 h1;have e2:=(insB_iff _ _ _ _).1 h2;have m1:=mul_bd (x:=c) (y:=U) (X:=10) (Y:=200) VM VM;have m2:=mul_bd (x:=c) (y:=O) (X:=10) (Y:=200) VM VM;rcases Bool.eq_false_or_eq_true (bt (c*U) T (c*O)) with h4|h4<;>simp [h1,h2,h3,h4]<;>omega
theorem CheckTube_ok:VS VR 173 rW:=by
 refine ⟨(UK Tryz.func173),?_⟩;intro avs ns Z h I;unfold rW at h;split at h
 ·cases h;exact bY _ _ _ _
 ·cases h
def SJ:UY
 |[.agg [.x (.int .i64 c),.x (.int .i64 T),.x (.int .i64 U),.x (.int .i64 O)],.agg [.x (.int .i64 a),.x (.int .i64 b),.x (.int .i64 u),.x (.int .i64 v)]]=>some ([1<=c/\c<=10],bl (rdB c a b u v))
 |_=>none
theorem oK(c T U O a b u v:Int)(VU:1<=c/\c<=10):U0 VR 229 [.agg [i c,i T,i U,i O],.agg [i a,i b,i u,i v]] (bl (rdB c a b u v)):=by
 refine U4 (L:=[]) (Ae RM (Ae B0 Aa)) U1 Tryz.func229 (UW Tryz.f229) U6 (t:=need [VO (c-1)] (branch (bt (0:Int) a (c-1)) (branch (bt a b c) (leaf (RV.x (.bool (insB (0:Int) u v (2000:Int))))) (leaf (RV.x (YG)))) (leaf (RV.x (YG))))) VW ?_;simp only [VP.sat,UD,G8,UG,UJ,VO,rdB];refine ⟨VM,?_⟩;cases h1:bt 0 a (c-1)<;>cases h2:bt a b c<;>cases h3:insB 0 u v 2000<;>simp
theorem oJ:VS VR 229 SJ:=by
 refine ⟨(UK Tryz.func229),?_⟩;intro avs ns Z h I;unfold SJ at h;split at h
 ·cases h;exact oK _ _ _ _ _ _ _ _ (I _ VX)
 ·cases h
end Go.Proofs.YtlclobclmfhlmaaGreatDoor.Bo
namespace Go.Proofs.YtlclobclmfhlmaaGreatDoor.Bo
open Go Go.Sx Go.RowKit
open Go.Sx.VP (need branch leaf)
open Go.Sx.AV (lst ptr agg roI tup top)
theorem Xh1(a b:Int):U0 VR 83 [.lst 1 2 (λk=>[i (if k=0 then a else b)])] (i (min a b)):=by
 refine U4 (L:=[λs=>some (zK Tryz.prog [] [] (UC (VV (U9 Tryz.f83) 0)) 3 s)]) Aa U1 Tryz.func83 (UW Tryz.f83) (UZ (lpE (b:= .loop (UC (VV (U9 Tryz.f83) 0))) VW<|LE Aa U1 U6 _)) (t:=let A:=(min (if (0:Int).toNat=0 then a else b) (if (1:Int).toNat=0 then a else b));(branch (decide ((↑(2:Nat):Int)<1)) VP.fail (need [UM 0 2] (branch (decide ((1:Int)<(↑(2:Nat):Int))) (need [UM 1 2] (need [VO ((1:Int)+1)] (branch (decide ((1:Int)+1<(↑(2:Nat):Int))) (need [(0:Int)<=1+1/\(1:Int)+1<(↑(2:Nat):Int)] (need [VO ((1:Int)+1+1)] (branch (decide ((1:Int)+1+1<(↑(2:Nat):Int))) (need [(0:Int)<=1+1+1/\(1:Int)+1+1<(↑(2:Nat):Int)] (need [VO ((1:Int)+1+1+1)] VP.fail)) (leaf (RV.x (.int .i64 (min A (if ((1:Int)+1).toNat=0 then a else b)))))))) (leaf (RV.x (.int .i64 A)))))) (leaf (RV.x (.int .i64 (if (0:Int).toNat=0 then a else b)))))))) VW ?_
 simp [VP.sat,UD,G8,GO,UG,VO]
theorem Xh2(a b:Int):U0 VR 84 [.lst 1 2 (λk=>[i (if k=0 then a else b)])] (i (max a b)):=by
 refine U4 (L:=[λs=>some (zK Tryz.prog [] [] (UC (VV (U9 Tryz.f84) 0)) 3 s)]) Aa U1 Tryz.func84 (UW Tryz.f84) (UZ (lpE (b:= .loop (UC (VV (U9 Tryz.f84) 0))) VW<|LE Aa U1 U6 _)) (t:=let A:=(max (if (0:Int).toNat=0 then a else b) (if (1:Int).toNat=0 then a else b));(branch (decide ((↑(2:Nat):Int)<1)) VP.fail (need [UM 0 2] (branch (decide ((1:Int)<(↑(2:Nat):Int))) (need [UM 1 2] (need [VO ((1:Int)+1)] (branch (decide ((1:Int)+1<(↑(2:Nat):Int))) (need [(0:Int)<=1+1/\(1:Int)+1<(↑(2:Nat):Int)] (need [VO ((1:Int)+1+1)] (branch (decide ((1:Int)+1+1<(↑(2:Nat):Int))) (need [(0:Int)<=1+1+1/\(1:Int)+1+1<(↑(2:Nat):Int)] (need [VO ((1:Int)+1+1+1)] VP.fail)) (leaf (RV.x (.int .i64 (max A (if ((1:Int)+1).toNat=0 then a else b)))))))) (leaf (RV.x (.int .i64 A)))))) (leaf (RV.x (.int .i64 (if (0:Int).toNat=0 then a else b)))))))) VW ?_
 simp [VP.sat,UD,G8,GO,UG,VO]
def y6:UY
 |[.lst 1 2 f]=>(match f 0,f 1 with
  |[.x (.int .i64 a)],[.x (.int .i64 b)]=>some ([],i (min a b))
  |_,_=>none)
 |_=>none
theorem TE:VS VR 83 y6:=by
 refine ⟨(UK Tryz.func83),?_⟩;intro avs ns Z h I;unfold y6 at h;split at h
 ·rename_i f;split at h
  ·rename_i a b h0 h1;cases h;refine (Xh1 a b).same (.cons (.lst 1 2 _ _ ?_) .nil);intro k hk;rcases (show k=0\/k=1 by omega) with rfl|rfl
   ·exact h0
   ·exact h1
  ·cases h
 ·cases h
def fO:UY
 |[.lst 1 2 f]=>(match f 0,f 1 with
  |[.x (.int .i64 a)],[.x (.int .i64 b)]=>some ([],i (max a b))
  |_,_=>none)
 |_=>none
theorem Qb7:VS VR 84 fO:=by
 refine ⟨(UK Tryz.func84),?_⟩;intro avs ns Z h I;unfold fO at h;split at h
 ·rename_i f;split at h
  ·rename_i a b h0 h1;cases h;refine (Xh2 a b).same (.cons (.lst 1 2 _ _ ?_) .nil);intro k hk;rcases (show k=0\/k=1 by omega) with rfl|rfl
   ·exact h0
   ·exact h1
  ·cases h
 ·cases h
theorem Wj4(a b:Int):U0 VR 244 [.lst 1 2 (λk=>[i (if k=0 then a else b)])] (i (min a b)):=by
 refine U4 (L:=[]) (Ae TE Aa) U1 Tryz.func244 (UW Tryz.f244) U6 (t:=leaf (RV.x (.int .i64 (min (if 0=0 then a else b) (if 1=0 then a else b))))) VW ?_
 simp [VP.sat,G8,UG]
def AM:UY:=y6
theorem LY:VS VR 244 AM:=by
 refine ⟨(UK Tryz.func244),?_⟩;intro avs ns Z h I;unfold AM y6 at h;split at h
 ·rename_i f;split at h
  ·rename_i a b h0 h1;cases h;refine (Wj4 a b).same (.cons (.lst 1 2 _ _ ?_) .nil);intro k hk;rcases (show k=0\/k=1 by omega) with rfl|rfl
   ·exact h0
   ·exact h1
  ·cases h
 ·cases h
theorem lL(a b:Int):U0 VR 239 [.lst 1 2 (λk=>[i (if k=0 then a else b)])] (i (max a b)):=by
 refine U4 (L:=[]) (Ae Qb7 Aa) U1 Tryz.func239 (UW Tryz.f239) U6 (t:=leaf (RV.x (.int .i64 (max (if 0=0 then a else b) (if 1=0 then a else b))))) VW ?_
 simp [VP.sat,G8,UG]
def MI:UY:=fO
theorem rO:VS VR 239 MI:=by
 refine ⟨(UK Tryz.func239),?_⟩;intro avs ns Z h I;unfold MI fO at h;split at h
 ·rename_i f;split at h
  ·rename_i a b h0 h1;cases h;refine (lL a b).same (.cons (.lst 1 2 _ _ ?_) .nil);intro k hk;rcases (show k=0\/k=1 by omega) with rfl|rfl
   ·exact h0
   ·exact h1
  ·cases h
 ·cases h
noncomputable def Qm1:D6:=A9 Tryz.prog [(244,AM)] {} [] Tryz.f231 (U9 Tryz.f231)
abbrev J8:List (Nat×UY):=[(244,AM)]
theorem LO:GE VR 231 Qm1:=
 RO (G:=J8) (X:={}) (L:=[]) (Ae LY Aa) Ad U1 (UK Tryz.func231) Tryz.func231 (UW Tryz.f231) U6
def UF(c T U O:Int)(M:Nat->Nat->Int)(k:Nat):Int:=if k=0 then c else if k=1 then T else if k=2 then U else if k=3 then O else M ((k-4) / 11) ((k-4)%11)
section
variable (M:Nat->Nat->Int)(a b:Nat)(v:Int)
def xK:Nat->Nat->Int:=λx y=>if x=a/\y=b then v else M x y
def bnd:Nat->Nat->Int:=xK M a b (min (M a b) v)
end
def ini(c:Nat)(k j:Nat):Nat->Nat->Int:=λx y=>if ((x<k/\y<=c)\/(x=k/\y<j))/\x≠y then 2000 else 0
theorem Wd5(c T U O:Int)(cc:Nat): ∀k,UB (c::T::U::O::List.replicate 121 0) k=UF c T U O (ini cc 0 0) k:=by
 intro k;rcases k with _|_|_|_|k
 ·rfl
 ·rfl
 ·rfl
 ·rfl
 ·have h:UB (c::T::U::O::List.replicate 121 0) (k+4)=UB (List.replicate 121 0) k:=rfl;rw [h,dD (by decide)]
  simp [UF,ini]
theorem GR(q:Nat)(v:Int)(f:Nat->Int):jT q [v] f=UT q v f:=rfl
section
variable (c T U O:Int)
theorem qL(M:Nat->Nat->Int){a b q:Nat}(hq:q=4+a*11+b)(hb:b<11):UF c T U O M q=M a b:=by
 unfold UF;rw [if_neg VM,if_neg VM,if_neg VM,if_neg VM,show (q-4) / 11=a by omega,show (q-4)%11=b by omega]
theorem vM{M M':Nat->Nat->Int}(h: ∀x y,x<11->y<11->M x y=M' x y){k:Nat}(hk:k<125):UF c T U O M k=UF c T U O M' k:=by
 unfold UF;split
 ·rfl
 split
 ·rfl
 split
 ·rfl
 split
 ·rfl
 exact h _ _ VM VM
theorem e7(M:Nat->Nat->Int){a b q:Nat}(hq:q=4+a*11+b)(hb:b<11)(v:Int)(k:Nat):UT q v (UF c T U O M) k=UF c T U O (xK M a b v) k:=by
 unfold UT;by_cases hk:k=q
 ·rw [if_pos hk,qL _ _ _ _ _ (hk.trans hq) hb];simp [xK]
 ·rw [if_neg hk];unfold UF;by_cases h0:k=0
  ·rw [if_pos h0,if_pos h0]
  by_cases h1:k=1
  ·rw [if_neg h0,if_neg h0,if_pos h1,if_pos h1]
  by_cases h2:k=2
  ·rw [if_neg h0,if_neg h0,if_neg h1,if_neg h1,if_pos h2,if_pos h2]
  by_cases h3:k=3
  ·rw [if_neg h0,if_neg h0,if_neg h1,if_neg h1,if_neg h2,if_neg h2,if_pos h3,if_pos h3]
  rw [if_neg h0,if_neg h0,if_neg h1,if_neg h1,if_neg h2,if_neg h2,if_neg h3,if_neg h3];unfold xK;rw [if_neg VM]
end
theorem Wo3(c k j:Nat)(hj:j<=c)(h:k≠j)(x y:Nat):xK (ini c k j) k j 2000 x y=ini c k (j+1) x y:=by
 unfold xK ini;split
 ·rename_i hxy;rw [if_pos ⟨.inr VM,VM⟩]
 ·rename_i hxy;by_cases h1:((x<k/\y<=c)\/(x=k/\y<j))/\x≠y
  ·rw [if_pos h1,if_pos VM]
  ·rw [if_neg h1,if_neg VM]
theorem Wo4(c k:Nat)(x y:Nat):ini c k k x y=ini c k (k+1) x y:=by
 unfold ini;by_cases h1:((x<k/\y<=c)\/(x=k/\y<k))/\x≠y
 ·rw [if_pos h1,if_pos VM]
 ·rw [if_neg h1,if_neg VM]
theorem Xk2(c k:Nat)(x y:Nat):ini c k (c+1) x y=ini c (k+1) 0 x y:=by
 unfold ini;by_cases h1:((x<k/\y<=c)\/(x=k/\y<c+1))/\x≠y
 ·rw [if_pos h1,if_pos VM]
 ·rw [if_neg h1,if_neg VM]
abbrev rds(n:Nat)(a b u v:Nat->Int):AV:= .lst 4 n (λk=>[i (a k),i (b k),i (u k),i (v k)])
abbrev QV:AV:=AV.x (.pointer none)
abbrev X8(n:Nat)(a:Nat->Int)(b:Nat->Int)(u:Nat->Int)(v:Nat->Int):AV:=lst 4 n λk=>[iI (a k),iI (b k),iI (u k),iI (v k)]
section
variable (c:Nat)(T U O:Int)(n:Nat)(a b u v:Nat->Int)
def Zt7:St:={σ:=[agg [iI (c:Int),iI T,iI U,iI O],X8 n a b u v,ptr 0 0,top,QV,AV.lit false,ptr 5 0]++HM 15 [iI ((c:Int)+1)]++HM 155 [],m:=[(5,GS.ints 343 [] 125 λa=>UB ([(c:Int),T,U,O]++cA 121) a),(0,GS.cells 122 [iI (c:Int),iI T,iI U,iI O])],nx:=11}
noncomputable def Zv9:Code:=UC (VV (U9 Tryz.f209) 0)
def Wl6(k:Nat):St:=(upE [(23,i k)] [(5,.ints 343 [] 125 (UF c T U O (ini c k 0))),(0,.cells 122 [i c,i T,i U,i O])] (Zt7 c T U O n a b u v))
def CW(k:Nat):G9->Option St
 | .exit 0=>some (upE [(23,i ((c:Int)+1))] [(5,.ints 343 [] 125 (UF c T U O (ini c (c+1) 0))),(0,.cells 122 [i c,i T,i U,i O])] (Zt7 c T U O n a b u v))
 |_=>none
def Jo6:CT:= .leaf (.exit 0,(CW c T U O n a b u v 0 (.exit 0)).getD (Zt7 c T U O n a b u v))
def Xz5:UL:=GM [] (HK (Wl6 c T U O n a b u v (0)) (Jo6 c T U O n a b u v))
def Zt6(k:Nat):St:={σ:=[agg [iI (c:Int),iI T,iI U,iI O],X8 n a b u v,ptr 0 0,top,QV,AV.lit false,ptr 5 0,iI (k:Int)]++HM 14 [iI ((c:Int)+1),iI (k:Int),top,top,top,top,iI ((c:Int)+1)]++HM 149 [],m:=[(5,GS.ints 343 [] 125 λk_1=>UF (c:Int) T U O (ini c k 0) k_1),(0,GS.cells 122 [iI (c:Int),iI T,iI U,iI O])],nx:=18}
noncomputable def Jt2:Code:=(UC (VV (UC (VV (U9 Tryz.f209) 0)) 0))
def Wl5(k:Nat)(j:Nat):St:=(upE [(29,i j)] [(5,.ints 343 [] 125 (UF c T U O (ini c k j))),(0,.cells 122 [i c,i T,i U,i O])] (Zt6 c T U O n a b u v k))
def CV(k:Nat)(j:Nat):G9->Option St
 | .exit 2=>some (upE [(29,i ((c:Int)+1))] [(5,.ints 343 [] 125 (UF c T U O (ini c k (c+1)))),(0,.cells 122 [i c,i T,i U,i O])] (Zt6 c T U O n a b u v k))
 |_=>none
def Jo5(k:Nat):CT:= .leaf (.exit 2,(CV c T U O n a b u v k 0 (.exit 2)).getD (Zt6 c T U O n a b u v k))
def Xz4(k:Nat):UL:=GM [] (HK (Wl5 c T U O n a b u v k (0)) (Jo5 c T U O n a b u v k))
end
abbrev Q4(n:Nat)(a:Nat->Int)(b:Nat->Int)(u:Nat->Int)(v:Nat->Int):Prop:=(X8 n a b u v)=lst 4 n λk=>[iI (a k),iI (b k),iI (u k),iI (v k)]
abbrev X6:Prop:=AV.lit false=AV.lit false
noncomputable abbrev XH:Ext:={R:=[],H:=[(231,Qm1)] }
abbrev XJ:Prop:=ptr 0 0=ptr 0 0
abbrev XV:Prop:=ptr 5 0=ptr 5 0
section
variable (c:Nat)(T U O:Int)(n:Nat)(a b u v:Nat->Int)
theorem Je2(k:Nat)(VU:1<=c/\c<=10)(UI:1<=U/\U<=O/\O<=200/\1<=T/\T<=2000)(HU:k<=c):GA VR (.loop Jt2) (Xz4 c T U O n a b u v k):=by
 refine G5 [] (L:=[]) (Ae LY Aa) (Ai Ab (Ag LO Ac)) U1 U6 (X:=Nat) (Wl5 c T U O n a b u v k) (λj=>j<=c+1) (λj=>c+1-j) (CV c T U O n a b u v k) (x0:=0) VX ?_ ?_ ?_
 ·rintro j;kernel_rfl
 ·rintro j y E h;unfold CV at h;split at h
  ·cases h;kernel_rfl
  ·cases h
 ·rintro Q hQ j hx;refine ⟨(j+1),?_⟩;(with_reducible refine DL (t:=let A:=(U2 ((c:Int)+1));let W:=(U2 (agg [iI (c:Int),iI T,iI U,iI O]));(branch (decide ((j:Int)<(c:Int)+1)) (branch ((k:Int) != (j:Int)) (need [UM k 11] (need [UM j 11] (need [j*1+(k*11+4)+1<=125] (need [VO ((j:Int)+1)] (need [W,Q4 n a b u v,XJ,QV=QV,X6,XV,U2 (k:Int),A,U2 (k:Int),A,(j:Int)+1=(↑(j+1):Int),125=125,GY 125 (UT (j*1+(k*11+4)) (2000:Int) (UF (c:Int) T U O (ini c k j))) (UF (c:Int) T U O (ini c k (j+1))),U2 (c:Int),T=T,U=U,O=O] (leaf G9.normal)))))) (need [VO ((j:Int)+1)] (need [W,Q4 n a b u v,XJ,QV=QV,X6,XV,U2 (k:Int),A,U2 (k:Int),A,(j:Int)+1=(↑(j+1):Int),125=125,GY 125 (UF (c:Int) T U O (ini c k j)) (UF (c:Int) T U O (ini c k (j+1))),U2 (c:Int),T=T,U=U,O=O] (leaf G9.normal)))) (need [W,Q4 n a b u v,XJ,QV=QV,X6,XV,U2 (k:Int),A,U2 (k:Int),A,(j:Int)=(c:Int)+1,125=125,GY 125 (UF (c:Int) T U O (ini c k j)) (UF (c:Int) T U O (ini c k (c+1))),U2 (c:Int),T=T,U=U,O=O] (leaf (G9.exit 2))))) VW ?_);simp only [Jo5,CV,VP.sat,GX] at hQ;simp only [VP.sat,UD,G8,GO,UG,VO,UJ,HB,RE,RF,L7,GR,CV]
  refine ⟨λh=>⟨λhne=>?_,λheq=>?_⟩,λh=>?_⟩
  ·(with_reducible repeat' first|apply Al|intro _)
   all_goals first|exact PQ|(exact (e7 c T U O _ VM VM _ _).trans (vM c T U O (λx y _ _=>Wo3 c k j VM VM x y) (by assumption)))
  ·obtain rfl:k=j:=VM
   (with_reducible repeat' first|apply Al|intro _)
   all_goals first|exact PQ|(exact vM c T U O (λx y _ _=>Wo4 c k x y) (by assumption))
  ·obtain rfl:j=c+1:=VM
   (with_reducible repeat' first|apply Al|intro _)
   all_goals first|exact Ak|omega|with_reducible rfl|(rename_i E hE;cases hE;exact hQ)|rfl
theorem Je3(VU:1<=c/\c<=10)(UI:1<=U/\U<=O/\O<=200/\1<=T/\T<=2000):GA VR (.loop Zv9) (Xz5 c T U O n a b u v):=by
 refine G5 [] (L:=[BP 7 (λk=>FT [k<=c] (Xz4 c T U O n a b u v k))]) (Ae LY Aa) (Ai Ab (Ag LO Ac)) U1 (UZ (λcj hcj=>by
  have e:VV Zv9 0=some (.loop Jt2):=VW;rw [e] at hcj;cases hcj;exact P8 (λk=>D8 (λh=>Je2 c T U O n a b u v k VU UI h)))) (X:=Nat) (Wl6 c T U O n a b u v) (λk=>k<=c+1) (λk=>c+1-k) (CW c T U O n a b u v) (x0:=0) VX ?_ ?_ ?_
 ·rintro k;kernel_rfl
 ·rintro k y E h;unfold CW at h;split at h
  ·cases h;kernel_rfl
  ·cases h
 ·rintro Q hQ k hx;refine ⟨(k+1),?_⟩;(with_reducible refine DL (t:=let A:=(U2 (agg [iI (c:Int),iI T,iI U,iI O]));let W:=(U2 ((c:Int)+1));(branch (decide ((k:Int)<(c:Int)+1)) (need [VO ((c:Int)+1)] (need [k<=c] (need [A,Q4 n a b u v,XJ,QV=QV,X6,XV,U2 (k:Int),W,U2 (k:Int),W,(0:Int)=(↑(0:Nat):Int),125=125,GT 125 (UF (c:Int) T U O (ini c k 0)),U2 (c:Int),T=T,U=U,O=O] (need [VO ((k:Int)+1)] (need [A,Q4 n a b u v,XJ,QV=QV,X6,XV,W,(k:Int)+1=(↑(k+1):Int),125=125,GY 125 (UF (c:Int) T U O (ini c k (c+1))) (UF (c:Int) T U O (ini c (k+1) 0)),U2 (c:Int),T=T,U=U,O=O] (leaf G9.normal)))))) (need [A,Q4 n a b u v,XJ,QV=QV,X6,XV,W,(k:Int)=(c:Int)+1,125=125,GY 125 (UF (c:Int) T U O (ini c k 0)) (UF (c:Int) T U O (ini c (c+1) 0)),U2 (c:Int),T=T,U=U,O=O] (leaf (G9.exit 0))))) VW ?_);simp only [Jo6,CW,VP.sat,GX] at hQ;simp only [VP.sat,UD,G8,GO,UG,VO,UJ,HB,RE,RF,L7,GR,CW]
  refine ⟨λh=>?_,λh=>?_⟩
  ·(with_reducible repeat' first|apply Al|intro _)
   all_goals first|exact PQ|(exact vM c T U O (λx y _ _=>Xk2 c k x y) (by assumption))
  ·obtain rfl:k=c+1:=VM
   (with_reducible repeat' first|apply Al|intro _)
   all_goals first|exact Ak|omega|with_reducible rfl|(rename_i E hE;cases hE;exact hQ)|rfl
end
def cel(c:Nat)(U O:Int):Nat->Nat->Nat->Int
 | 0=>ini c (c+1) 0
 |k+1=>bnd (bnd (cel c U O k) k (k+1) O) (k+1) k (-U)
theorem jI{c T U O:Int}{M:Nat->Nat->Int}{a b q:Nat}{v:Int}(hq:q=4+a*11+b)(hb:b<11):UT q (min (UF c T U O M q) v) (UF c T U O M)=UF c T U O (bnd M a b v):=by
 funext k;rw [e7 c T U O M hq hb,qL c T U O M hq hb];rfl
section
variable (c:Nat)(T U O:Int)(n:Nat)(a b u v:Nat->Int)
def MS:St:={σ:=[agg [iI (c:Int),iI T,iI U,iI O],X8 n a b u v,ptr 0 0,top,QV,AV.lit false,ptr 5 0]++HM 15 [iI ((c:Int)+1),iI ((c:Int)+1)]++HM 21 [iI (c:Int)]++HM 132 [],m:=[(5,GS.ints 343 [] 125 λk=>UF (c:Int) T U O (ini c (c+1) 0) k),(0,GS.cells 122 [iI (c:Int),iI T,iI U,iI O])],nx:=14}
noncomputable def c7:Code:=UC (VV (U9 Tryz.f209) 1)
def PZ(k:Nat):St:=(upE [(46,i k)] [(5,.ints 343 [] 125 (UF c T U O (cel c U O k))),(0,.cells 122 [i c,i T,i U,i O])] (MS c T U O n a b u v))
def x8(k:Nat):G9->Option St
 | .exit 4=>some (upE [(46,i c)] [(5,.ints 343 [] 125 (UF c T U O (cel c U O c))),(0,.cells 122 [i c,i T,i U,i O])] (MS c T U O n a b u v))
 |_=>none
def Qw6:CT:= .leaf (.exit 4,(x8 c T U O n a b u v 0 (.exit 4)).getD (MS c T U O n a b u v))
def nI:UL:=GM [] (HK (PZ c T U O n a b u v (0)) (Qw6 c T U O n a b u v))
theorem Jd9(VU:1<=c/\c<=10)(UI:1<=U/\U<=O/\O<=200/\1<=T/\T<=2000):GA VR (.loop c7) (nI c T U O n a b u v):=by
 refine G5 [] (L:=[]) (Ae LY Aa) (Ai Ab (Ag LO Ac)) U1 U6 (X:=Nat) (PZ c T U O n a b u v) (λk=>k<=c) (λk=>c-k) (x8 c T U O n a b u v) (x0:=0) VX ?_ ?_ ?_
 ·rintro k;kernel_rfl
 ·rintro k y E h;unfold x8 at h;split at h
  ·cases h;kernel_rfl
  ·cases h
 ·rintro Q hQ k hx;refine ⟨(k+1),?_⟩;(with_reducible refine DL (t:=let A:=(UF (c:Int) T U O (cel c U O k) (((k:Int)+1).toNat*1+(k*11+4)));let W:=(UT (((k:Int)+1).toNat*1+(k*11+4)) (min A O) (UF (c:Int) T U O (cel c U O k)) (k*1+(((k:Int)+1).toNat*11+4)));let z2:=(U2 ((c:Int)+1));(branch (decide ((k:Int)<(c:Int))) (need [VO ((k:Int)+1)] (need [UM k 11] (need [UM ((k:Int)+1) 11] (need [((k:Int)+1).toNat*1+(k*11+4)<125] (need [UM k 11] (need [UM ((k:Int)+1) 11] (need [((k:Int)+1).toNat*1+(k*11+4)+List.length [min A O]<=125] (need [VO ((k:Int)+1)] (need [VO (-U)] (need [UM ((k:Int)+1) 11] (need [UM k 11] (need [k*1+(((k:Int)+1).toNat*11+4)<125] (need [UM ((k:Int)+1) 11] (need [UM k 11] (need [k*1+(((k:Int)+1).toNat*11+4)+List.length [min W (-U)]<=125] (need [VO ((k:Int)+1)] (need [U2 (agg [iI (c:Int),iI T,iI U,iI O]),Q4 n a b u v,XJ,QV=QV,X6,XV,z2,z2,U2 (c:Int),(k:Int)+1=(↑(k+1):Int),125=125,GY 125 (UT (k*1+(((k:Int)+1).toNat*11+4)) (min W (-U)) (jT (((k:Int)+1).toNat*1+(k*11+4)) [min A O] (UF (c:Int) T U O (cel c U O k)))) (UF (c:Int) T U O (cel c U O (k+1))),U2 (c:Int),T=T,U=U,O=O] (leaf G9.normal)))))))))))))))))) (need [U2 (agg [iI (c:Int),iI T,iI U,iI O]),Q4 n a b u v,XJ,QV=QV,X6,XV,z2,z2,U2 (c:Int),(k:Int)=(c:Int),125=125,GY 125 (UF (c:Int) T U O (cel c U O k)) (UF (c:Int) T U O (cel c U O c)),U2 (c:Int),T=T,U=U,O=O] (leaf (G9.exit 4))))) VW ?_);simp only [Qw6,x8,VP.sat,GX] at hQ;simp only [VP.sat,UD,G8,GO,UG,VO,UJ,HB,RE,RF,L7,GR,x8]
  refine ⟨λh=>?_,λh=>?_⟩
  ·have h1: ∀M v,UT (((k:Int)+1).toNat*1+(k*11+4)) (min (UF c T U O M (((k:Int)+1).toNat*1+(k*11+4))) v) (UF c T U O M)=UF c T U O (bnd M k (k+1) v):=λM v=>jI VM VM
   have h2: ∀M v,UT (k*1+(((k:Int)+1).toNat*11+4)) (min (UF c T U O M (k*1+(((k:Int)+1).toNat*11+4))) v) (UF c T U O M)=UF c T U O (bnd M (k+1) k v):=λM v=>jI VM VM
   simp only [h1,h2]
   (with_reducible repeat' first|apply Al|intro _)
   all_goals first|exact Ak|omega|with_reducible rfl|(rename_i E hE;cases hE;exact hQ)|rfl
  ·obtain rfl:k=c:=VM
   (with_reducible repeat' first|apply Al|intro _)
   all_goals first|exact Ak|omega|with_reducible rfl|(rename_i E hE;cases hE;exact hQ)|rfl
end
def rdS(c:Nat)(M:Nat->Nat->Int)(a b u v:Int):Nat->Nat->Int:=if b<(c:Int) then bnd (bnd M a.toNat b.toNat v) (b+1).toNat a.toNat (-u-1) else bnd M a.toNat b.toNat v
def rdM(c:Nat)(T U O:Int)(a b u v:Nat->Int):Nat->Nat->Nat->Int
 | 0=>bnd (bnd (cel c U O c) 0 c T) c 0 (-T)
 |j+1=>rdS c (rdM c T U O a b u v j) (a j) (b j) (u j) (v j)
def rdV(a b u v:Int):Value:= .agg #[.int .i64 a,.int .i64 b,.int .i64 u,.int .i64 v]
def sn(a b u v:Nat->Int)(k:Nat)(x:Value):Prop:= ∃j,j<k/\x=rdV (a j) (b j) (u j) (v j)
def Jg6(x:Value):Prop:= ∃a b u v,x=rdV a b u v
theorem We7(a b u v:Int)(e:UN)(w:World):Rep e w (.agg [i a,i b,i u,i v]) (rdV a b u v):=
 Rep.aggL (U5.cons (.x _) (U5.cons (.x _) (U5.cons (.x _) (U5.one (.x _)))))
theorem Qp9(a b u v:Int):FG Tryz.prog 345 Jg6 (rdV a b u v) (.bool false):=by
 refine ⟨⟨72,4,(match Tryz.prog.underlying 72 with|some (.struct fs)=>fs|_=>#[]),VW,VW,?_,?_,?_⟩,by simp [Instr.sameBits,rdV]⟩
 ·intro b' w;kernel_rfl
 ·rintro k' ⟨a',b',u',v',rfl⟩ w;refine ⟨a==a'&&(b==b'&&(u==u'&&(v==v'&&true)&&true)),z6 (P:=Tryz.prog) (e:=PJ w w) Op.maxDepth 72 (.agg [i a,i b,i u,i v]) (.agg [i a',i b',i u',i v']) _ _ _ VW (We7 ..) (We7 ..),λh=>?_⟩
  simp only [Bool.and_true,HC,beq_iff_eq] at h;obtain ⟨rfl,rfl,rfl,rfl⟩:=h;rfl
 ·intro w;kernel_rfl
theorem Xv1{a b u v:Nat->Int}{k:Nat}{x:Value}(h:sn a b u v k x):Jg6 x:=by
 obtain ⟨j,_,h⟩:=h;exact ⟨_,_,_,_,h⟩
section
variable (M:Nat->Nat->Int)(a b:Nat)(v:Int)
theorem xB(x y:Nat):bnd M a b v x y<=M x y:=by
 unfold bnd xK;split
 ·rename_i h;rw [h.1,h.2];omega
 ·omega
theorem bE:bnd M a b v a b<=v:=by
 unfold bnd xK;rw [if_pos ⟨rfl,rfl⟩];omega
end
theorem Wx2{M:Nat->Nat->Int}{a b:Nat}{v:Int}(h:M a b<=v):bnd M a b v=M:=by
 funext x y;unfold bnd xK;split
 ·rename_i h';rw [h'.1,h'.2];omega
 ·rfl
section
variable (c:Nat)(M:Nat->Nat->Int)(a b u v:Int)
theorem Zk0(x y:Nat):rdS c M a b u v x y<=M x y:=by
 unfold rdS;split
 ·exact Int.le_trans (xB _ _ _ _ _ _) (xB _ _ _ _ _ _)
 ·exact xB _ _ _ _ _ _
theorem Zk2:rdS c M a b u v a.toNat b.toNat<=v/\(b<c->rdS c M a b u v (b+1).toNat a.toNat<= -u-1):=by
 unfold rdS;split
 ·exact ⟨Int.le_trans (xB _ _ _ _ _ _) (bE _ _ _ _),λ_=>bE _ _ _ _⟩
 ·exact ⟨bE _ _ _ _,λh=>VM⟩
end
theorem Zk1{c:Nat}{M:Nat->Nat->Int}{a b u v:Int}(h:M a.toNat b.toNat<=v)(h2:b<c->M (b+1).toNat a.toNat<= -u-1):rdS c M a b u v=M:=by
 unfold rdS;rw [Wx2 h];split
 ·rename_i hb;exact Wx2 (h2 hb)
 ·rfl
theorem CH(c:Nat)(T U O:Int)(a b u v:Nat->Int)(j:Nat): ∀(k:Nat),j<=k-> ∀x y,rdM c T U O a b u v k x y<=rdM c T U O a b u v j x y
 | 0,h,x,y=>by
           obtain rfl:j=0:=VM;exact Int.le_refl _
 |k+1,h,x,y=>by
  rcases (show j=k+1\/j<=k by omega) with rfl|h
  ·exact Int.le_refl _
  ·exact Int.le_trans (Zk0 _ _ _ _ _ _ _ _) (CH c T U O a b u v j k h x y)
theorem Wf3{c:Nat}{T U O:Int}{a b u v:Nat->Int}{k:Nat}(h:sn a b u v k (rdV (a k) (b k) (u k) (v k))):rdM c T U O a b u v (k+1)=rdM c T U O a b u v k:=by
 obtain ⟨j,hj,he⟩:=h;unfold rdV at he;injection he with he
 injection he with he
 have e:a k=a j/\b k=b j/\u k=u j/\v k=v j:=by simpa using he
 have h1:=Zk2 c (rdM c T U O a b u v j) (a j) (b j) (u j) (v j);have m:=CH c T U O a b u v (j+1) k VM;refine Zk1 ?_ (λhb=>?_)
 ·rw [e.1,e.2.1,e.2.2.2];exact Int.le_trans (m _ _) h1.1
 ·rw [e.1,e.2.1,e.2.2.1];exact Int.le_trans (m _ _) (h1.2 (by rw [←e.2.1];exact hb))
section
variable (c:Nat)(T U O:Int)(n:Nat)(a b u v:Nat->Int)
def Zt5:St:={σ:=[agg [iI (c:Int),iI T,iI U,iI O],X8 n a b u v,ptr 0 0,top,QV,AV.lit false,ptr 5 0,top,top,top,AV.mp 63]++HM 11 [iI ((c:Int)+1),iI ((c:Int)+1)]++HM 21 [iI (c:Int),iI (c:Int)]++HM 34 [X8 n a b u v,iI (n:Int)]++HM 95 [],m:=[(63,GS.memo (λx=>False) λv=>v),(56,GS.row 3 1 2 (U8 1 [iI (UT (c*1+4) (min (UF (c:Int) T U O (cel c U O c) (c*1+4)) T) (UF (c:Int) T U O (cel c U O c)) (0+(c*11+4))),iI (-T)])),(31,GS.row 3 1 2 (U8 1 [iI (UF (c:Int) T U O (cel c U O c) (c*1+4)),iI T])),(5,GS.ints 343 [] 125 λa=>UT (0+(c*11+4)) (min (UT (c*1+4) (min (UF (c:Int) T U O (cel c U O c) (c*1+4)) T) (UF (c:Int) T U O (cel c U O c)) (0+(c*11+4))) (-T)) (jT (c*1+4) [min (UF (c:Int) T U O (cel c U O c) (c*1+4)) T] (UF (c:Int) T U O (cel c U O c))) a),(0,GS.cells 122 [iI (c:Int),iI T,iI U,iI O])],nx:=68}
noncomputable def Jt1:Code:=UC (VV (U9 Tryz.f209) 2)
def Wl4(k:Nat):St:=(upE [(83,i k)] [(5,.ints 343 [] 125 (UF c T U O (rdM c T U O a b u v k))),(0,.cells 122 [i c,i T,i U,i O]),(63,.memo (sn a b u v k) (λ_=> .bool true))] (Zt5 c T U O n a b u v))
def CU(k:Nat):G9->Option St
 | .exit 6=>some (upE [(83,i n)] [(5,.ints 343 [] 125 (UF c T U O (rdM c T U O a b u v n))),(0,.cells 122 [i c,i T,i U,i O]),(63,.memo (sn a b u v n) (λ_=> .bool true))] (Zt5 c T U O n a b u v))
 |_=>none
def Jo4:CT:= .leaf (.exit 6,(CU c T U O n a b u v 0 (.exit 6)).getD (Zt5 c T U O n a b u v))
def Xz3:UL:=GM [] (HK (Wl4 c T U O n a b u v (0)) (Jo4 c T U O n a b u v))
abbrev ZI:Prop:=AV.mp 63=AV.mp 63
theorem Jd4(VU:1<=c/\c<=10)(UI:1<=U/\U<=O/\O<=200/\1<=T/\T<=2000)(HU:n<=1000)(F5:DD (λk=>rdB c (a k) (b k) (u k) (v k)) n=true):GA VR (.loop Jt1) (Xz3 c T U O n a b u v):=by
 refine G5 [] (L:=[]) (Ae LY Aa) (Ai Ab (Ag LO Ac)) U1 U6 (X:=Nat) (Wl4 c T U O n a b u v) (λk=>k<=n) (λk=>n-k) (CU c T U O n a b u v) (x0:=0) VX ?_ ?_ ?_
 ·rintro k;kernel_rfl
 ·rintro k y E h;unfold CU at h;split at h
  ·cases h;kernel_rfl
  ·cases h
 ·rintro Q hQ k hx;refine ⟨(k+1),?_⟩;(with_reducible refine DL (t:=let z9:=sn a b u v k;let z3:=(Value.agg #[Value.int IntKind.i64 (a k),Value.int IntKind.i64 (b k),Value.int IntKind.i64 (u k),Value.int IntKind.i64 (v k)]);let z7:=(rdM c T U O a b u v k);let z2:=(UF (c:Int) T U O z7 ((b k).toNat*1+((a k).toNat*11+4)));let z10:=(UF (c:Int) T U O z7);let z5:=(UT ((b k).toNat*1+((a k).toNat*11+4)) (min z2 (v k)) z10 ((a k).toNat*1+((b k+1).toNat*11+4)));let z6:=(U2 (agg [iI (c:Int),iI T,iI U,iI O]));let z8:=Q4 n a b u v;let z4:=(U2 ((c:Int)+1));let z11:=(rdM c T U O a b u v (k+1));let A:=(need [∀(u_1:Value),z9 u_1->Value.bool true=Value.bool true,FG Tryz.prog 345 (λu_1=>z9 u_1\/u_1=Value.agg #[Value.int IntKind.i64 (a k),Value.int IntKind.i64 (b k),Value.int IntKind.i64 (u k),Value.int IntKind.i64 (v k)]) z3 (YG)] (need [UM (a k) 11] (need [UM (b k) 11] (need [(b k).toNat*1+((a k).toNat*11+4)<125] (need [UM (a k) 11] (need [UM (b k) 11] (need [(b k).toNat*1+((a k).toNat*11+4)+List.length [min z2 (v k)]<=125] (branch (decide (b k<(c:Int))) (need [VO (b k+1)] (need [VO (-u k)] (need [VO (-u k-1)] (need [UM (b k+1) 11] (need [UM (a k) 11] (need [(a k).toNat*1+((b k+1).toNat*11+4)<125] (need [UM (b k+1) 11] (need [UM (a k) 11] (need [(a k).toNat*1+((b k+1).toNat*11+4)+List.length [min z5 (-u k-1)]<=125] (need [VO ((k:Int)+1)] (need [z6,z8,XJ,QV=QV,X6,XV,ZI,z4,z4,U2 (c:Int),U2 (c:Int),z8,U2 (n:Int),(k:Int)+1=(↑(k+1):Int),125=125,GY 125 (UT ((a k).toNat*1+((b k+1).toNat*11+4)) (min z5 (-u k-1)) (jT ((b k).toNat*1+((a k).toNat*11+4)) [min z2 (v k)] z10)) (UF (c:Int) T U O z11),U2 (c:Int),T=T,U=U,O=O,∀(k_1:Value),z9 k_1\/k_1=Value.agg #[Value.int IntKind.i64 (a k),Value.int IntKind.i64 (b k),Value.int IntKind.i64 (u k),Value.int IntKind.i64 (v k)]->sn a b u v (k+1) k_1/\Value.bool true=Value.bool true] (leaf G9.normal)))))))))))) (need [VO ((k:Int)+1)] (need [z6,z8,XJ,QV=QV,X6,XV,ZI,z4,z4,U2 (c:Int),U2 (c:Int),z8,U2 (n:Int),(k:Int)+1=(↑(k+1):Int),125=125,GY 125 (UT ((b k).toNat*1+((a k).toNat*11+4)) (min z2 (v k)) z10) (UF (c:Int) T U O z11),U2 (c:Int),T=T,U=U,O=O,∀(k_1:Value),z9 k_1\/k_1=Value.agg #[Value.int IntKind.i64 (a k),Value.int IntKind.i64 (b k),Value.int IntKind.i64 (u k),Value.int IntKind.i64 (v k)]->sn a b u v (k+1) k_1/\Value.bool true=Value.bool true] (leaf G9.normal)))))))))));let W:=(need [VO ((k:Int)+1)] (need [z6,z8,XJ,QV=QV,X6,XV,ZI,z4,z4,U2 (c:Int),U2 (c:Int),z8,U2 (n:Int),(k:Int)+1=(↑(k+1):Int),125=125,GY 125 (UF (c:Int) T U O z7) (UF (c:Int) T U O z11),U2 (c:Int),T=T,U=U,O=O,∀(k_1:Value),z9 k_1->sn a b u v (k+1) k_1/\Value.bool true=Value.bool true] (leaf G9.normal)));(branch (decide ((k:Int)<(n:Int))) (need [UM k n] (need [FG Tryz.prog 345 (z9) z3 (YG)] (VP.may (z9 z3) (branch true W A) (branch false W A)))) (need [z6,z8,XJ,QV=QV,X6,XV,ZI,z4,z4,U2 (c:Int),U2 (c:Int),z8,U2 (n:Int),(k:Int)=(n:Int),125=125,GY 125 (UF (c:Int) T U O z7) (UF (c:Int) T U O (rdM c T U O a b u v n)),U2 (c:Int),T=T,U=U,O=O,∀(k_1:Value),z9 k_1->sn a b u v n k_1/\Value.bool true=Value.bool true] (leaf (G9.exit 6))))) VW ?_)
  simp only [Jo4,CU,VP.sat,GX] at hQ;simp only [VP.sat,UD,G8,GO,UG,VO,UJ,HB,RE,RF,L7,GR,CU]
  have hv: ∀j,j<n->(0<=a j/\a j<=c-1)/\(a j<=b j/\b j<=c)/\0<=u j/\u j<=v j/\v j<=2000:=by
   intro j hj;have:=GW.1 F5 j hj;simp only [rdB,HC,bt_iff,insB_iff] at this;omega
  refine ⟨λh=>?_,λh=>?_⟩
  ·have hk:=hv k VM;have mk:=Qp9 (a k) (b k) (u k) (v k);have q1:FG Tryz.prog 345 (sn a b u v k) (rdV (a k) (b k) (u k) (v k)) (.bool false):=mk.mono (λx hx=>Xv1 hx)
   have q2:FG Tryz.prog 345 (λx=>sn a b u v k x\/x=rdV (a k) (b k) (u k) (v k)) (rdV (a k) (b k) (u k) (v k)) (.bool false):=mk.mono (λx hx=>hx.elim Xv1 (λhe=>⟨_,_,_,_,he⟩))
   have sn1: ∀x,sn a b u v k x->sn a b u v (k+1) x:=λx ⟨j,hj,he⟩=>⟨j,VM,he⟩
   have sn2:sn a b u v (k+1) (rdV (a k) (b k) (u k) (v k)):=⟨k,VM,rfl⟩;refine ⟨VM,q1,λhs=>⟨λ_=>?_,λhc=>absurd hc (by decide)⟩,λhc=>absurd hc (by decide),λ_=>?_⟩
   ·rw [Wf3 hs]
    (with_reducible repeat' first|apply Al|intro _)
    all_goals first|exact PQ|(exact sn1 _ (by assumption))
   ·have h1: ∀M w,UT ((b k).toNat*1+((a k).toNat*11+4)) (min (UF c T U O M ((b k).toNat*1+((a k).toNat*11+4))) w) (UF c T U O M)=UF c T U O (bnd M (a k).toNat (b k).toNat w):=λM w=>jI VM VM
    refine ⟨⟨λ_ _=>trivial,q2⟩,?_⟩
    simp only [h1];refine ⟨VM,VM,VM,VM,VM,VM,λhb=>?_,λhb=>?_⟩
    ·have h2: ∀M w,UT ((a k).toNat*1+((b k+1).toNat*11+4)) (min (UF c T U O M ((a k).toNat*1+((b k+1).toNat*11+4))) w) (UF c T U O M)=UF c T U O (bnd M (b k+1).toNat (a k).toNat w):=λM w=>jI VM VM
     have e3:rdM c T U O a b u v (k+1)=bnd (bnd (rdM c T U O a b u v k) (a k).toNat (b k).toNat (v k)) (b k+1).toNat (a k).toNat (-u k-1):=by
      show rdS _ _ _ _ _ _=_;unfold rdS;rw [if_pos hb]
     simp only [h2,e3];exact VK
    ·have e3:rdM c T U O a b u v (k+1)=bnd (rdM c T U O a b u v k) (a k).toNat (b k).toNat (v k):=by
      show rdS _ _ _ _ _ _=_;unfold rdS;rw [if_neg hb]
     simp only [e3];exact VK
  ·obtain rfl:k=n:=VM
   (with_reducible repeat' first|apply Al|intro _)
   all_goals first|exact PQ|(assumption)
end
def fwS(M:Nat->Nat->Int)(o f t:Nat):Nat->Nat->Int:=bnd M f t (M f o+M o t)
def fwT(M:Nat->Nat->Int)(o f:Nat):Nat->Nat->Nat->Int
 | 0=>M
 |t+1=>fwS (fwT M o f t) o f t
def fwF(c:Nat)(M:Nat->Nat->Int)(o:Nat):Nat->Nat->Nat->Int
 | 0=>M
 |f+1=>fwT (fwF c M o f) o f (c+1)
def fwO(c:Nat)(M:Nat->Nat->Int):Nat->Nat->Nat->Int
 | 0=>M
 |o+1=>fwF c (fwO c M o) o (c+1)
def LB(B:Int)(M:Nat->Nat->Int):Prop:= ∀x y,-B<=M x y/\M x y<=2000
def JB(B:Int)(o f t:Nat)(M:Nat->Nat->Int):Prop:= ∀x y,M x y<=2000/\ -(6*B)<=M x y/\(x=o-> -(3*B)<=M x y)/\(y=o-> -(3*B)<=M x y)/\(x=o->y=o-> -(2*B)<=M x y)/\(¬(x<f\/(x=f/\y<t))-> -B<=M x y)
theorem Xd1{B:Int}{o:Nat}{M:Nat->Nat->Int}(hB:0<=B)(h:LB B M):JB B o 0 0 M:=by
 intro x y;have:=h x y;refine ⟨VM,VM,λ_=>VM,λ_=>VM,λ_ _=>VM,λ_=>VM⟩
theorem Xr3{B:Int}{o f t:Nat}{M:Nat->Nat->Int}(hB:0<=B)(h:JB B o f t M):JB B o f (t+1) (fwS M o f t):=by
 have hft:=h f t;have hfo:=h f o;have hot:=h o t;have hoo:=h o o;have I:=hft.2.2.2.2.2 VM;intro x y;have hxy:=h x y;unfold fwS bnd xK;by_cases hc:x=f/\y=t
 ·exact V6
 ·rw [if_neg hc];exact ⟨hxy.1,hxy.2.1,hxy.2.2.1,hxy.2.2.2.1,hxy.2.2.2.2.1,λhv=>hxy.2.2.2.2.2 VM⟩
theorem Zs7{B:Int}{o f:Nat}{M:Nat->Nat->Int}(hB:0<=B)(h:JB B o f 0 M): ∀t,JB B o f t (fwT M o f t)
 | 0=>h
 |t+1=>Xr3 hB (Zs7 hB h t)
theorem Zs6{B:Int}{o f t:Nat}{M:Nat->Nat->Int}(h:JB B o f t M):JB B o (f+1) 0 M:=by
 intro x y;have hxy:=h x y;exact ⟨hxy.1,hxy.2.1,hxy.2.2.1,hxy.2.2.2.1,hxy.2.2.2.2.1,λhv=>hxy.2.2.2.2.2 VM⟩
theorem Zs8{B:Int}{c o:Nat}{M:Nat->Nat->Int}(hB:0<=B)(h:LB B M): ∀f,JB B o f 0 (fwF c M o f)
 | 0=>Xd1 hB h
 |f+1=>Zs6 (Zs7 hB (Zs8 hB h f) (c+1))
theorem Zs5{c:Nat}{M:Nat->Nat->Int}(h:LB 2001 M): ∀o,LB (2001*6^o) (fwO c M o)
 | 0=>by
  rw [show (2001:Int)*6^0=2001 by decide]
  exact h
 |o+1=>by
  have ih:=Zs5 (c:=c) h o;have hp:(0:Int)<=2001*6^o:=Int.mul_nonneg VM (Int.pow_nonneg VM);have hj:=Zs8 (c:=c) (o:=o) hp ih (c+1);intro x y;have:=hj x y;have e:(2001:Int)*6^(o+1)=6*(2001*6^o):=by rw [Int.pow_succ];omega
  rw [e];exact ⟨this.2.1,this.1⟩
theorem Je7: ∀o:Nat,o<=10->(6:Int)^o<=60466176:=by
 intro o ho;rcases (show o=0\/o=1\/o=2\/o=3\/o=4\/o=5\/o=6\/o=7\/o=8\/o=9\/o=10 by omega) with rfl|rfl|rfl|rfl|rfl|rfl|rfl|rfl|rfl|rfl|rfl<;>decide
theorem Jk0{c:Nat}{M:Nat->Nat->Int}(h:LB 2001 M){o f t:Nat}(ho:o<=10)(x y:Nat): -800000000000<=fwT (fwF c (fwO c M o) o f) o f t x y/\fwT (fwF c (fwO c M o) o f) o f t x y<=2000:=by
 have ih:=Zs5 (c:=c) h o;have hp:(0:Int)<=2001*6^o:=Int.mul_nonneg VM (Int.pow_nonneg VM);have hj:=Zs7 hp (Zs8 (c:=c) (o:=o) hp ih f) t x y;have:=Je7 o ho;omega
theorem uK{B:Int}{M:Nat->Nat->Int}(h:LB B M){a b:Nat}{v:Int}(hv: -B<=v):LB B (bnd M a b v):=by
 intro x y;have h1:=h a b;have h2:=h x y;unfold bnd xK;split<;>omega
theorem Ww4{c:Nat}{U O:Int}(h:1<=U/\U<=O/\O<=200): ∀k,LB 2001 (cel c U O k)
 | 0=>by
  intro x y;unfold cel ini;split<;>omega
 |k+1=>uK (uK (Ww4 h k) VM) VM
theorem oO{c:Nat}{T U O:Int}{a b u v:Nat->Int}{n:Nat}(h:1<=U/\U<=O/\O<=200/\1<=T/\T<=2000)(hv: ∀j,j<n->0<=u j/\u j<=v j/\v j<=2000): ∀k,k<=n->LB 2001 (rdM c T U O a b u v k)
 | 0,_=>uK (uK (Ww4 VM c) VM) VM
 |k+1,hk=>by
  have ih:=oO (c:=c) (a:=a) (b:=b) h hv k VM;have:=hv k VM;show LB 2001 (rdS _ _ _ _ _ _);unfold rdS;split
  ·exact uK (uK ih VM) VM
  ·exact uK ih VM
section
variable (c:Nat)(T U O:Int)(n:Nat)(a b u v:Nat->Int)
def Qa8:St:={σ:=[agg [iI (c:Int),iI T,iI U,iI O],X8 n a b u v,ptr 0 0,top,QV,AV.lit false,ptr 5 0,top,top,top,AV.mp 63]++HM 11 [iI ((c:Int)+1),iI ((c:Int)+1)]++HM 21 [iI (c:Int),iI (c:Int)]++HM 34 [X8 n a b u v,iI (n:Int),iI (n:Int)]++HM 37 [iI ((c:Int)+1)]++HM 56 [],m:=[(5,GS.ints 343 [] 125 λk=>UF (c:Int) T U O (rdM c T U O a b u v n) k),(0,GS.cells 122 [iI (c:Int),iI T,iI U,iI O]),(63,GS.memo (λx=>sn a b u v n x) λx=>Value.bool true)],nx:=72}
noncomputable def Qx0:Code:=UC (VV (U9 Tryz.f209) 3)
def I0(o:Nat):St:=(upE [(122,i o)] [(5,.ints 343 [] 125 (UF c T U O (fwO c (rdM c T U O a b u v n) o))),(0,.cells 122 [i c,i T,i U,i O])] (Qa8 c T U O n a b u v))
def qP(o:Nat):G9->Option St
 | .exit 8=>some (upE [(122,i ((c:Int)+1))] [(5,.ints 343 [] 125 (UF c T U O (fwO c (rdM c T U O a b u v n) (c+1)))),(0,.cells 122 [i c,i T,i U,i O])] (Qa8 c T U O n a b u v))
 |_=>none
def Wz5:CT:= .leaf (.exit 8,(qP c T U O n a b u v 0 (.exit 8)).getD (Qa8 c T U O n a b u v))
def nH:UL:=GM [] (HK (I0 c T U O n a b u v (0)) (Wz5 c T U O n a b u v))
def Zt4(o:Nat):St:={σ:=[agg [iI (c:Int),iI T,iI U,iI O],X8 n a b u v,ptr 0 0,top,QV,AV.lit false,ptr 5 0,top,top,top,AV.mp 63,top,top,iI (o:Int)]++HM 8 [iI ((c:Int)+1),iI ((c:Int)+1)]++HM 21 [iI (c:Int),iI (c:Int)]++HM 34 [X8 n a b u v,iI (n:Int),iI (n:Int)]++HM 37 [iI ((c:Int)+1),iI (o:Int),top,top,top,top,iI ((c:Int)+1)]++HM 50 [],m:=[(5,GS.ints 343 [] 125 λk=>UF (c:Int) T U O (fwO c (rdM c T U O a b u v n) o) k),(0,GS.cells 122 [iI (c:Int),iI T,iI U,iI O])],nx:=79}
noncomputable def Zv8:Code:=(UC (VV (UC (VV (U9 Tryz.f209) 3)) 0))
def Wl3(o:Nat)(f:Nat):St:=(upE [(128,i f)] [(5,.ints 343 [] 125 (UF c T U O (fwF c (fwO c (rdM c T U O a b u v n) o) o f))),(0,.cells 122 [i c,i T,i U,i O])] (Zt4 c T U O n a b u v o))
def CS(o:Nat)(f:Nat):G9->Option St
 | .exit 10=>some (upE [(128,i ((c:Int)+1))] [(5,.ints 343 [] 125 (UF c T U O (fwF c (fwO c (rdM c T U O a b u v n) o) o (c+1)))),(0,.cells 122 [i c,i T,i U,i O])] (Zt4 c T U O n a b u v o))
 |_=>none
def Jo3(o:Nat):CT:= .leaf (.exit 10,(CS c T U O n a b u v o 0 (.exit 10)).getD (Zt4 c T U O n a b u v o))
def Xz2(o:Nat):UL:=GM [] (HK (Wl3 c T U O n a b u v o (0)) (Jo3 c T U O n a b u v o))
def bX(o:Nat)(f:Nat):St:={σ:=[agg [iI (c:Int),iI T,iI U,iI O],X8 n a b u v,ptr 0 0,top,QV,AV.lit false,ptr 5 0,top,top,top,AV.mp 63,top,top,iI (o:Int),iI (f:Int)]++HM 7 [iI ((c:Int)+1),iI ((c:Int)+1)]++HM 21 [iI (c:Int),iI (c:Int)]++HM 34 [X8 n a b u v,iI (n:Int),iI (n:Int)]++HM 37 [iI ((c:Int)+1),iI (o:Int),top,top,top,top,iI ((c:Int)+1),iI (f:Int),top,top,top,top,iI ((c:Int)+1)]++HM 44 [],m:=[(5,GS.ints 343 [] 125 λk=>UF (c:Int) T U O (fwF c (fwO c (rdM c T U O a b u v n) o) o f) k),(0,GS.cells 122 [iI (c:Int),iI T,iI U,iI O])],nx:=86}
noncomputable def Xf5:Code:=(UC (VV (UC (VV (UC (VV (U9 Tryz.f209) 3)) 0)) 0))
def EZ(o:Nat)(f:Nat)(t:Nat):St:=(upE [(134,i t)] [(5,.ints 343 [] 125 (UF c T U O (fwT (fwF c (fwO c (rdM c T U O a b u v n) o) o f) o f t))),(0,.cells 122 [i c,i T,i U,i O])] (bX c T U O n a b u v o f))
def PV(o:Nat)(f:Nat)(t:Nat):G9->Option St
 | .exit 12=>some (upE [(134,i ((c:Int)+1))] [(5,.ints 343 [] 125 (UF c T U O (fwT (fwF c (fwO c (rdM c T U O a b u v n) o) o f) o f (c+1)))),(0,.cells 122 [i c,i T,i U,i O])] (bX c T U O n a b u v o f))
 |_=>none
def Wz4(o:Nat)(f:Nat):CT:= .leaf (.exit 12,(PV c T U O n a b u v o f 0 (.exit 12)).getD (bX c T U O n a b u v o f))
def nG(o:Nat)(f:Nat):UL:=GM [] (HK (EZ c T U O n a b u v o f (0)) (Wz4 c T U O n a b u v o f))
theorem We6(o:Nat)(f:Nat)(VU:1<=c/\c<=10)(UI:1<=U/\U<=O/\O<=200/\1<=T/\T<=2000)(HU:n<=1000)(F5:DD (λk=>rdB c (a k) (b k) (u k) (v k)) n=true)(BU:o<=c)(zT:f<=c):GA VR (.loop Xf5) (nG c T U O n a b u v o f):=by
 refine G5 [] (L:=[]) (Ae LY Aa) (Ai Ab (Ag LO Ac)) U1 U6 (X:=Nat) (EZ c T U O n a b u v o f) (λt=>t<=c+1) (λt=>c+1-t) (PV c T U O n a b u v o f) (x0:=0) VX ?_ ?_ ?_
 ·rintro t;kernel_rfl
 ·rintro t y E h;unfold PV at h;split at h
  ·cases h;kernel_rfl
  ·cases h
 ·rintro Q hQ t hx;refine ⟨(t+1),?_⟩;(with_reducible refine DL (t:=let z2:=(fwF c (fwO c (rdM c T U O a b u v n) o) o f);let A:=(fwT z2 o f t);let W:=(U2 ((c:Int)+1));let z3:=(UF (c:Int) T U O A (t*1+(f*11+4)));(branch (decide ((t:Int)<(c:Int)+1)) (need [UM f 11] (need [UM o 11] (need [o*1+(f*11+4)<125] (need [UM o 11] (need [UM t 11] (need [t*1+(o*11+4)<125] (need [VO (UF (c:Int) T U O A (o*1+(f*11+4))+UF (c:Int) T U O A (t*1+(o*11+4)))] (need [UM f 11] (need [UM t 11] (need [t*1+(f*11+4)<125] (need [UM f 11] (need [UM t 11] (need [t*1+(f*11+4)+List.length [min z3 (UF (c:Int) T U O A (o*1+(f*11+4))+UF (c:Int) T U O A (t*1+(o*11+4)))]<=125] (need [VO ((t:Int)+1)] (need [U2 (agg [iI (c:Int),iI T,iI U,iI O]),Q4 n a b u v,XJ,QV=QV,X6,XV,ZI,U2 (o:Int),U2 (f:Int),W,W,U2 (c:Int),U2 (c:Int),Q4 n a b u v,U2 (n:Int),U2 (n:Int),W,U2 (o:Int),W,U2 (f:Int),W,(t:Int)+1=(↑(t+1):Int),125=125,GY 125 (UT (t*1+(f*11+4)) (min z3 (UF (c:Int) T U O A (o*1+(f*11+4))+UF (c:Int) T U O A (t*1+(o*11+4)))) (UF (c:Int) T U O A)) (UF (c:Int) T U O (fwT z2 o f (t+1))),U2 (c:Int),T=T,U=U,O=O] (leaf G9.normal)))))))))))))))) (need [U2 (agg [iI (c:Int),iI T,iI U,iI O]),Q4 n a b u v,XJ,QV=QV,X6,XV,ZI,U2 (o:Int),U2 (f:Int),W,W,U2 (c:Int),U2 (c:Int),Q4 n a b u v,U2 (n:Int),U2 (n:Int),W,U2 (o:Int),W,U2 (f:Int),W,(t:Int)=(c:Int)+1,125=125,GY 125 (UF (c:Int) T U O A) (UF (c:Int) T U O (fwT z2 o f (c+1))),U2 (c:Int),T=T,U=U,O=O] (leaf (G9.exit 12))))) VW ?_);simp only [Wz4,PV,VP.sat,GX] at hQ;simp only [VP.sat,UD,G8,GO,UG,VO,UJ,HB,RE,RF,L7,GR,PV]
  have hv: ∀j,j<n->0<=u j/\u j<=v j/\v j<=2000:=by
   intro j hj;have:=GW.1 F5 j hj;simp only [rdB,HC,bt_iff,insB_iff] at this;omega
  have hl:=λx y=>Jk0 (c:=c) (oO (c:=c) (a:=a) (b:=b) UI hv n (Am _)) (o:=o) (f:=f) (t:=t) VM x y
  have hfo:=hl f o;have hot:=hl o t;refine ⟨λh=>?_,λh=>?_⟩
  ·have h1: ∀M,UF c T U O M (o*1+(f*11+4))=M f o:=λM=>qL _ _ _ _ _ VM VM
   have h2: ∀M,UF c T U O M (t*1+(o*11+4))=M o t:=λM=>qL _ _ _ _ _ VM VM
   have h3: ∀M v,UT (t*1+(f*11+4)) (min (UF c T U O M (t*1+(f*11+4))) v) (UF c T U O M)=UF c T U O (bnd M f t v):=λM v=>jI VM VM
   simp only [h3];simp only [h1,h2]
   (with_reducible repeat' first|apply Al|intro _)
   all_goals first|exact Ak|omega|with_reducible rfl|(rename_i E hE;cases hE;exact hQ)|rfl
  ·obtain rfl:t=c+1:=VM
   (with_reducible repeat' first|apply Al|intro _)
   all_goals first|exact Ak|omega|with_reducible rfl|(rename_i E hE;cases hE;exact hQ)|rfl
theorem Jd0(o:Nat)(VU:1<=c/\c<=10)(UI:1<=U/\U<=O/\O<=200/\1<=T/\T<=2000)(HU:n<=1000)(F5:DD (λk=>rdB c (a k) (b k) (u k) (v k)) n=true)(BU:o<=c):GA VR (.loop Zv8) (Xz2 c T U O n a b u v o):=by
 refine G5 [] (L:=[BP 14 (λk=>FT [k<=c] (nG c T U O n a b u v o k))]) (Ae LY Aa) (Ai Ab (Ag LO Ac)) U1 (UZ (λcj hcj=>by
  have e:VV Zv8 0=some (.loop Xf5):=VW;rw [e] at hcj;cases hcj;exact P8 (λk=>D8 (λh=>We6 c T U O n a b u v o k VU UI HU F5 BU h)))) (X:=Nat) (Wl3 c T U O n a b u v o) (λf=>f<=c+1) (λf=>c+1-f) (CS c T U O n a b u v o) (x0:=0) VX ?_ ?_ ?_
 ·rintro f;kernel_rfl
 ·rintro f y E h;unfold CS at h;split at h
  ·cases h;kernel_rfl
  ·cases h
 ·rintro Q hQ f hx;refine ⟨(f+1),?_⟩;(with_reducible refine DL (t:=let A:=(U2 ((c:Int)+1));let W:=(fwO c (rdM c T U O a b u v n) o);let z2:=(U2 (agg [iI (c:Int),iI T,iI U,iI O]));let z3:=Q4 n a b u v;(branch (decide ((f:Int)<(c:Int)+1)) (need [VO ((c:Int)+1)] (need [f<=c] (need [z2,z3,XJ,QV=QV,X6,XV,ZI,U2 (o:Int),U2 (f:Int),A,A,U2 (c:Int),U2 (c:Int),z3,U2 (n:Int),U2 (n:Int),A,U2 (o:Int),A,U2 (f:Int),A,(0:Int)=(↑(0:Nat):Int),125=125,GY 125 (UF (c:Int) T U O (fwF c W o f)) (UF (c:Int) T U O (fwT (fwF c W o f) o f 0)),U2 (c:Int),T=T,U=U,O=O] (need [VO ((f:Int)+1)] (need [z2,z3,XJ,QV=QV,X6,XV,ZI,U2 (o:Int),A,A,U2 (c:Int),U2 (c:Int),z3,U2 (n:Int),U2 (n:Int),A,U2 (o:Int),A,(f:Int)+1=(↑(f+1):Int),125=125,GY 125 (UF (c:Int) T U O (fwT (fwF c W o f) o f (c+1))) (UF (c:Int) T U O (fwF c W o (f+1))),U2 (c:Int),T=T,U=U,O=O] (leaf G9.normal)))))) (need [z2,z3,XJ,QV=QV,X6,XV,ZI,U2 (o:Int),A,A,U2 (c:Int),U2 (c:Int),z3,U2 (n:Int),U2 (n:Int),A,U2 (o:Int),A,(f:Int)=(c:Int)+1,125=125,GY 125 (UF (c:Int) T U O (fwF c W o f)) (UF (c:Int) T U O (fwF c W o (c+1))),U2 (c:Int),T=T,U=U,O=O] (leaf (G9.exit 10))))) VW ?_);simp only [Jo3,CS,VP.sat,GX] at hQ;simp only [VP.sat,UD,G8,GO,UG,VO,UJ,HB,RE,RF,L7,GR,CS]
  refine ⟨λh=>?_,λh=>?_⟩
  ·(with_reducible repeat' first|apply Al|intro _)
   all_goals first|exact Ak|omega|with_reducible rfl|(rename_i E hE;cases hE;exact hQ)|rfl
  ·obtain rfl:f=c+1:=VM
   (with_reducible repeat' first|apply Al|intro _)
   all_goals first|exact Ak|omega|with_reducible rfl|(rename_i E hE;cases hE;exact hQ)|rfl
theorem Wf1(VU:1<=c/\c<=10)(UI:1<=U/\U<=O/\O<=200/\1<=T/\T<=2000)(HU:n<=1000)(F5:DD (λk=>rdB c (a k) (b k) (u k) (v k)) n=true):GA VR (.loop Qx0) (nH c T U O n a b u v):=by
 refine G5 [] (L:=[BP 13 (λk=>FT [k<=c] (Xz2 c T U O n a b u v k))]) (Ae LY Aa) (Ai Ab (Ag LO Ac)) U1 (UZ (λcj hcj=>by
  have e:VV Qx0 0=some (.loop Zv8):=VW;rw [e] at hcj;cases hcj;exact P8 (λk=>D8 (λh=>Jd0 c T U O n a b u v k VU UI HU F5 h)))) (X:=Nat) (I0 c T U O n a b u v) (λo=>o<=c+1) (λo=>c+1-o) (qP c T U O n a b u v) (x0:=0) VX ?_ ?_ ?_
 ·rintro o;kernel_rfl
 ·rintro o y E h;unfold qP at h;split at h
  ·cases h;kernel_rfl
  ·cases h
 ·rintro Q hQ o hx;refine ⟨(o+1),?_⟩;(with_reducible refine DL (t:=let A:=(U2 ((c:Int)+1));let W:=(rdM c T U O a b u v n);let z2:=(U2 (agg [iI (c:Int),iI T,iI U,iI O]));let z3:=Q4 n a b u v;(branch (decide ((o:Int)<(c:Int)+1)) (need [VO ((c:Int)+1)] (need [o<=c] (need [z2,z3,XJ,QV=QV,X6,XV,ZI,U2 (o:Int),A,A,U2 (c:Int),U2 (c:Int),z3,U2 (n:Int),U2 (n:Int),A,U2 (o:Int),A,(0:Int)=(↑(0:Nat):Int),125=125,GY 125 (UF (c:Int) T U O (fwO c W o)) (UF (c:Int) T U O (fwF c (fwO c W o) o 0)),U2 (c:Int),T=T,U=U,O=O] (need [VO ((o:Int)+1)] (need [z2,z3,XJ,QV=QV,X6,XV,ZI,A,A,U2 (c:Int),U2 (c:Int),z3,U2 (n:Int),U2 (n:Int),A,(o:Int)+1=(↑(o+1):Int),125=125,GY 125 (UF (c:Int) T U O (fwF c (fwO c W o) o (c+1))) (UF (c:Int) T U O (fwO c W (o+1))),U2 (c:Int),T=T,U=U,O=O] (leaf G9.normal)))))) (need [z2,z3,XJ,QV=QV,X6,XV,ZI,A,A,U2 (c:Int),U2 (c:Int),z3,U2 (n:Int),U2 (n:Int),A,(o:Int)=(c:Int)+1,125=125,GY 125 (UF (c:Int) T U O (fwO c W o)) (UF (c:Int) T U O (fwO c W (c+1))),U2 (c:Int),T=T,U=U,O=O] (leaf (G9.exit 8))))) VW ?_);simp only [Wz5,qP,VP.sat,GX] at hQ;simp only [VP.sat,UD,G8,GO,UG,VO,UJ,HB,RE,RF,L7,GR,qP]
  refine ⟨λh=>?_,λh=>?_⟩
  ·(with_reducible repeat' first|apply Al|intro _)
   all_goals first|exact Ak|omega|with_reducible rfl|(rename_i E hE;cases hE;exact hQ)|rfl
  ·obtain rfl:o=c+1:=VM
   (with_reducible repeat' first|apply Al|intro _)
   all_goals first|exact Ak|omega|with_reducible rfl|(rename_i E hE;cases hE;exact hQ)|rfl
def fwM:Nat->Nat->Int:=fwO c (rdM c T U O a b u v n) (c+1)
def okR:Bool:=DD (λk=>decide (0<=fwM c T U O n a b u v k k)) (c+1)
def Xe4:St:={σ:=[agg [iI (c:Int),iI T,iI U,iI O],X8 n a b u v,ptr 0 0,top,top,top,ptr 5 0,top,top,top,AV.mp 63]++HM 11 [iI ((c:Int)+1),iI ((c:Int)+1)]++HM 21 [iI (c:Int),iI (c:Int)]++HM 34 [X8 n a b u v,iI (n:Int),iI (n:Int)]++HM 37 [iI ((c:Int)+1),iI ((c:Int)+1)]++HM 40 [iI ((c:Int)+1)]++HM 14 [],m:=[(5,GS.ints 343 [] 125 λk=>UF (c:Int) T U O (fwO c (rdM c T U O a b u v n) (c+1)) k),(0,GS.cells 122 [iI (c:Int),iI T,iI U,iI O])],nx:=76}
noncomputable def Jt0:Code:=UC (VV (U9 Tryz.f209) 4)
def Wl2(k:Nat):St:=(upE [(164,i k)] [(5,.ints 343 [] 125 (UF c T U O (fwM c T U O n a b u v))),(0,.cells 122 [i c,i T,i U,i O])] (Xe4 c T U O n a b u v))
def dS(k:Nat):G9->Option St
 | .ret=>some (upE [(4,.x (.pointer none)),(5,.lit false),(164,.top)] [(5,.ints 343 [] 125 (UF c T U O (fwM c T U O n a b u v))),(0,.cells 122 [i c,i T,i U,i O])] (Xe4 c T U O n a b u v))
 | .exit 14=>some (upE [(164,.top)] [(5,.ints 343 [] 125 (UF c T U O (fwM c T U O n a b u v))),(0,.cells 122 [i c,i T,i U,i O])] (Xe4 c T U O n a b u v))
 |_=>none
def Jo2:CT:= .branch (okR c T U O n a b u v) (.leaf (.exit 14,(dS c T U O n a b u v 0 (.exit 14)).getD (Xe4 c T U O n a b u v))) (.leaf (.ret,(dS c T U O n a b u v 0 .ret).getD (Xe4 c T U O n a b u v)))
def Xz1:UL:=GM [] (HK (Wl2 c T U O n a b u v (0)) (Jo2 c T U O n a b u v))
theorem Jc9(VU:1<=c/\c<=10)(UI:1<=U/\U<=O/\O<=200/\1<=T/\T<=2000)(HU:n<=1000)(F5:DD (λk=>rdB c (a k) (b k) (u k) (v k)) n=true):GA VR (.loop Jt0) (Xz1 c T U O n a b u v):=by
 refine G5 [] (L:=[]) (Ae LY Aa) (Ai Ab (Ag LO Ac)) U1 U6 (X:=Nat) (Wl2 c T U O n a b u v) (λk=>k<=c+1/\ ∀j,j<k->0<=fwM c T U O n a b u v j j) (λk=>c+1-k) (dS c T U O n a b u v) (x0:=0) VX ?_ ?_ ?_
 ·rintro k;kernel_rfl
 ·rintro k y E h;unfold dS at h;split at h
  ·cases h;kernel_rfl
  ·cases h;kernel_rfl
  ·cases h
 ·rintro Q hQ k hx;refine ⟨(k+1),?_⟩;(with_reducible refine DL (t:=let A:=(U2 ((c:Int)+1));let W:=(fwM c T U O n a b u v);let z2:=(U2 (agg [iI (c:Int),iI T,iI U,iI O]));let z3:=Q4 n a b u v;(branch (decide ((k:Int)<(c:Int)+1)) (need [UM k 11] (need [UM k 11] (need [k*1+(k*11+4)<125] (branch (decide (UF (c:Int) T U O W (k*1+(k*11+4))<0)) (need [z2,z3,XJ,QV=QV,X6,XV,ZI,A,A,U2 (c:Int),U2 (c:Int),z3,U2 (n:Int),U2 (n:Int),A,A,A,125=125,GT 125 (UF (c:Int) T U O W),U2 (c:Int),T=T,U=U,O=O] (leaf G9.ret)) (need [VO ((k:Int)+1)] (need [z2,z3,XJ,XV,ZI,A,A,U2 (c:Int),U2 (c:Int),z3,U2 (n:Int),U2 (n:Int),A,A,A,(k:Int)+1=(↑(k+1):Int),125=125,GT 125 (UF (c:Int) T U O W),U2 (c:Int),T=T,U=U,O=O] (leaf G9.normal))))))) (need [z2,z3,XJ,XV,ZI,A,A,U2 (c:Int),U2 (c:Int),z3,U2 (n:Int),U2 (n:Int),A,A,A,125=125,GT 125 (UF (c:Int) T U O W),U2 (c:Int),T=T,U=U,O=O] (leaf (G9.exit 14))))) VW ?_);simp only [Jo2,dS,VP.sat,GX] at hQ;simp only [VP.sat,UD,G8,GO,UG,VO,UJ,HB,RE,RF,L7,GR,dS]
  have h1:UF c T U O (fwM c T U O n a b u v) (k*1+(k*11+4))=fwM c T U O n a b u v k k\/11<=k:=by
   rcases An k 11 with h|h
   ·exact .inl (qL _ _ _ _ _ VM h)
   ·exact .inr h
  refine ⟨λh=>?_,λh=>?_⟩
  ·have h2:=h1.resolve_right VM;rw [h2];refine ⟨VM,VM,VM,λhneg=>?_,λWq0=>?_⟩
   ·have hno:okR c T U O n a b u v=false:=by
     cases ho:okR c T U O n a b u v
     ·rfl
     ·have:=GW.1 ho k VM;simp at this;omega
    (with_reducible repeat' first|apply Al|intro _)
    all_goals first|exact PQ|(rename_i E hE;cases hE;exact hQ.2 hno)
   ·exact VI
  ·obtain ⟨hx1,hx2⟩:=hx;obtain rfl:k=c+1:=VM;have Wo7:okR c T U O n a b u v=true:=GW.2 (λj hj=>by simpa using hx2 j hj)
   (with_reducible repeat' first|apply Al|intro _)
   all_goals first|exact PQ|(rename_i E hE;cases hE;exact hQ.1 Wo7)
end
theorem uI{S:Code->UL->Prop}{c:Code}{s0 s1 s2 s3 s4:UL}(h0: ∀cj,VV c 0=some cj->S cj s0)(h1: ∀cj,VV c 1=some cj->S cj s1)(h2: ∀cj,VV c 2=some cj->S cj s2)(h3: ∀cj,VV c 3=some cj->S cj s3)(h4: ∀cj,VV c 4=some cj->S cj s4):
  ∀j cj,VV c j=some cj-> ∀sp,[s0,s1,s2,s3,s4][j]? =some sp->S cj sp:=by
 intro j cj hj sp hsp
 match j with
 | 0=>simp at hsp;subst hsp;exact h0 cj hj
 | 1=>simp at hsp;subst hsp;exact h1 cj hj
 | 2=>simp at hsp;subst hsp;exact h2 cj hj
 | 3=>simp at hsp;subst hsp;exact h3 cj hj
 | 4=>simp at hsp;subst hsp;exact h4 cj hj
 |j+5=>simp at hsp
theorem UQ.same{P:Program}{f:FuncId}{avs avs':List AV}{t:VP AV}(h:UQ P f avs' t)(k:P1 avs avs'):UQ P f avs t:=λQ hQ e w args hro hgl FP hr=>h Q hQ e w args hro hgl (k.idf FP) (k.rep hr)
section
variable (c:Nat)(T U O:Int)(n:Nat)(a b u v:Nat->Int)
abbrev Qb5:AV:= .roI [] 125 (UF c T U O (fwM c T U O n a b u v)) 0
abbrev nilP:AV:= .x (.pointer none)
theorem TH(VU:1<=c/\c<=10)(UI:1<=U/\U<=O/\O<=200/\1<=T/\T<=2000)(HU:n<=1000)(F5:DD (λk=>rdB c (a k) (b k) (u k) (v k)) n=true):UQ VR 209 [.agg [i c,i T,i U,i O],rds n a b u v] (.branch (okR c T U O n a b u v) (.leaf (.tup [Qb5 c T U O n a b u v,.lit true])) (.leaf (.tup [nilP,.lit false]))):=by
 refine GV (L:=[Xz5 c T U O n a b u v,nI c T U O n a b u v,Xz3 c T U O n a b u v,nH c T U O n a b u v,Xz1 c T U O n a b u v]) (Ae LY Aa) (Ai Ab (Ag LO Ac)) U1 Tryz.func209 (UW Tryz.f209) (uI (lpE (b:= .loop Zv9) VW<|(Je3 c T U O n a b u v VU UI).N) (lpE (b:= .loop c7) VW<|(Jd9 c T U O n a b u v VU UI).N) (lpE (b:= .loop Jt1) VW<|(Jd4 c T U O n a b u v VU UI HU F5).N) (lpE (b:= .loop Qx0) VW<|(Wf1 c T U O n a b u v VU UI HU F5).N) (lpE (b:= .loop Jt0) VW<|(Jc9 c T U O n a b u v VU UI HU F5).N)) (t:=let A:=(U2 ((c:Int)+1));let W:=(U2 (agg [iI (c:Int),iI T,iI U,iI O]));let z2:=(UF (c:Int) T U O (cel c U O c) (c*1+4));let z3:=(UT (c*1+4) (min z2 T) (UF (c:Int) T U O (cel c U O c)) (0+(c*11+4)));let z4:=Q4 n a b u v;(need [VO ((c:Int)+1)] (need [W,z4,XJ,QV=QV,X6,XV,A,(0:Int)=(↑(0:Nat):Int),List.length ([(c:Int),T,U,O]++cA 121)=125,GY 125 (UB ([(c:Int),T,U,O]++cA 121)) (UF (c:Int) T U O (ini c 0 0)),U2 (c:Int),T=T,U=U,O=O] (need [W,z4,XJ,QV=QV,X6,XV,A,A,U2 (c:Int),(0:Int)=(↑(0:Nat):Int),125=125,GY 125 (UF (c:Int) T U O (ini c (c+1) 0)) (UF (c:Int) T U O (cel c U O 0)),U2 (c:Int),T=T,U=U,O=O] (need [UM 0 11] (need [UM c 11] (need [c*1+4<125] (need [UM 0 11] (need [UM c 11] (need [c*1+4+List.length [min z2 T]<=125] (need [VO (-T)] (need [UM c 11] (need [UM 0 11] (need [0+(c*11+4)<125] (need [UM c 11] (need [UM 0 11] (need [0+(c*11+4)+List.length [min z3 (-T)]<=125] (need [W,z4,XJ,QV=QV,X6,XV,ZI,A,A,U2 (c:Int),U2 (c:Int),z4,U2 (n:Int),(0:Int)=(↑(0:Nat):Int),125=125,GY 125 (UT (0+(c*11+4)) (min z3 (-T)) (jT (c*1+4) [min z2 T] (UF (c:Int) T U O (cel c U O c)))) (UF (c:Int) T U O (rdM c T U O a b u v 0)),U2 (c:Int),T=T,U=U,O=O,∀(k:Value),False->sn a b u v 0 k/\k=Value.bool true] (need [VO ((c:Int)+1)] (need [W,z4,XJ,QV=QV,X6,XV,ZI,A,A,U2 (c:Int),U2 (c:Int),z4,U2 (n:Int),U2 (n:Int),A,(0:Int)=(↑(0:Nat):Int),125=125,GY 125 (UF (c:Int) T U O (rdM c T U O a b u v n)) (UF (c:Int) T U O (fwO c (rdM c T U O a b u v n) 0)),U2 (c:Int),T=T,U=U,O=O] (need [VO ((c:Int)+1)] (need [W,z4,XJ,XV,ZI,A,A,U2 (c:Int),U2 (c:Int),z4,U2 (n:Int),U2 (n:Int),A,A,A,(0:Int)=(↑(0:Nat):Int),125=125,GY 125 (UF (c:Int) T U O (fwO c (rdM c T U O a b u v n) (c+1))) (UF (c:Int) T U O (fwM c T U O n a b u v)),U2 (c:Int),T=T,U=U,O=O] (branch (okR c T U O n a b u v) (leaf (tup [roI [] 125 (λk=>UF (c:Int) T U O (fwM c T U O n a b u v) k) 0,AV.lit true])) (leaf (tup [QV,AV.lit false]))))))))))))))))))))))))) VW ?_
 intro Q hQ;have h1: ∀M w,UT (c*1+4) (min (UF c T U O M (c*1+4)) w) (UF c T U O M)=UF c T U O (bnd M 0 c w):=λM w=>jI VM VM
 have h2: ∀M w,UT (0+(c*11+4)) (min (UF c T U O M (0+(c*11+4))) w) (UF c T U O M)=UF c T U O (bnd M c 0 w):=λM w=>jI VM VM
 simp only [VP.sat,UD,UJ,VO,L7,GR,h1,h2] at hQ ⊢
 (with_reducible repeat' first|apply Al|intro _)
 all_goals first|exact Ak|omega|with_reducible rfl|rfl|exact Wd5 _ _ _ _ _ _|(rename_i h;exact h.elim)|(rename_i h;exact ⟨.tup [Qb5 c T U O n a b u v,.lit true],⟨⟨rfl,rfl,λ_ _=>rfl,rfl⟩,rfl,Ak⟩,hQ.1 h⟩)|(rename_i h;exact ⟨.tup [nilP,.lit false],⟨rfl,rfl,Ak⟩,hQ.2 h⟩)
end
def col(j:Nat)(f:Nat->List AV):Nat->Int:=λk=>Wo1 (f k) j
def r8:DK:=λl=>match l with
 |[.agg [.x (.int .i64 c),.x (.int .i64 T),.x (.int .i64 U),.x (.int .i64 O)],.lst 4 n f]=>some (.need [UH 4 n f,1<=c/\c<=10,1<=U/\U<=O/\O<=200/\1<=T/\T<=2000,n<=1000,DD (λk=>rdB c (col 0 f k) (col 1 f k) (col 2 f k) (col 3 f k)) n=true]
   (.branch (okR c.toNat T U O n (col 0 f) (col 1 f) (col 2 f) (col 3 f)) (.leaf (.tup [Qb5 c.toNat T U O n (col 0 f) (col 1 f) (col 2 f) (col 3 f),.lit true])) (.leaf (.tup [nilP,.lit false]))))
 |_=>none
theorem xN:Enters VR 209/\ ∀avs t,r8 avs=some t->UQ VR 209 avs t:=by
 refine ⟨(UK Tryz.func209),?_⟩;intro avs t h;unfold r8 at h;split at h
 ·rename_i c T U O n f;cases h;intro Q hQ;have I:=GF hQ.1;have hr:UH 4 n f:=I _ VX;have hc:1<=c/\c<=10:=I _ VX;have D3:DD (λk=>rdB c (col 0 f k) (col 1 f k) (col 2 f k) (col 3 f k)) n=true:=I _ VX
  have e:((c.toNat:Nat):Int)=c:=VM;have h0:=TH c.toNat T U O n (col 0 f) (col 1 f) (col 2 f) (col 3 f) VM (I _ VX) (I _ VX) (by rw [e];exact D3)
  rw [e] at h0;exact UQ.same h0 (.cons (.refl _) (.cons (.lst 4 n _ _ hr) .nil)) Q hQ.2
 ·cases h
theorem PO.same{P:Program}{f:FuncId}{avs avs':List AV}{t:VP AV}(h:PO P f avs' t)(k:P1 avs avs'):PO P f avs t:=λQ hQ e w args hro hgl FP hr=>h Q hQ e w args hro hgl (k.idf FP) (k.rep hr)
def Qk0:UY
 |[.agg [.x (.int .i64 a),.x (.int .i64 b),.x (.int .i64 u),.x (.int .i64 v)],.ro [.fn (.func 229) [.agg [.x (.int .i64 c),.x (.int .i64 T),.x (.int .i64 U),.x (.int .i64 O)]] []]]=>some ([1<=c/\c<=10],bl (!rdB c a b u v))
 |_=>none
theorem Wy7(c T U O a b u v:Int)(VU:1<=c/\c<=10):U0 VR 243 [.agg [i a,i b,i u,i v],.ro [.fn (.func 229) [.agg [i c,i T,i U,i O]] []]] (bl (!rdB c a b u v)):=by
 refine U4 (L:=[]) (Ae oJ Aa) U1 Tryz.func243 (UW Tryz.f243) U6 (t:=need [(1:Int)<=c/\c<=10] (leaf (RV.x (.bool !rdB c a b u v)))) VW ?_;simp [VP.sat,UD,G8,UG];exact VU
theorem mI:VS VR 243 Qk0:=by
 refine ⟨(UK Tryz.func243),?_⟩;intro avs ns Z h I;unfold Qk0 at h;split at h
 ·cases h;exact Wy7 _ _ _ _ _ _ _ _ (I _ VX)
 ·cases h
def yV(c:Int)(a b u v:Nat->Int)(k:Nat):Bool:= !rdB c (a k) (b k) (u k) (v k)
def NH(c:Int)(n:Nat)(a b u v:Nat->Int):Bool:=DD (λk=>rdB c (a k) (b k) (u k) (v k)) n
abbrev X4(c:Int)(T:Int)(U:Int)(O:Int):AV:=AV.fn (Fn.func 243) [] [AV.ro [AV.fn (Fn.func 229) [agg [iI c,iI T,iI U,iI O]] []]]
section
variable (c T U O:Int)(n:Nat)(a b u v:Nat->Int)
def nQ:St:={σ:=[X8 n a b u v,X4 c T U O]++HM 5 [iI (n:Int)]++HM 11 [],m:=[],nx:=4}
noncomputable def Zc4:Code:=UC (VV (U9 Tryz.f247) 0)
def Qe3(k:Nat):St:=(upM [(8,i k)] (nQ c T U O n a b u v))
def yG(k:Nat):G9->Option St
 | .ret=>some (upM [(4,i (H0 (yV c a b u v) n))] (nQ c T U O n a b u v))
 | .exit 0=>some (upM [] (nQ c T U O n a b u v))
 |_=>none
def Xw8:CT:= .branch (decide (H0 (yV c a b u v) n<n)) (.leaf (.ret,(yG c T U O n a b u v 0 .ret).getD (nQ c T U O n a b u v))) (.leaf (.exit 0,(yG c T U O n a b u v 0 (.exit 0)).getD (nQ c T U O n a b u v)))
def Xc3:UL:=(HK (Qe3 c T U O n a b u v (0)) (Xw8 c T U O n a b u v))
theorem Zc7(VU:n<=100000)(UI:1<=c/\c<=10):GA VR (.loop Zc4) (Xc3 c T U O n a b u v):=by
 refine HJ (L:=[]) (Ae mI Aa) U1 U6 (X:=Nat) (Qe3 c T U O n a b u v) (λk=>k<=n/\ ∀j,j<k->yV c a b u v j=false) (λk=>n-k) (yG c T U O n a b u v) (x0:=0) VX ?_ ?_ ?_
 ·rintro k;kernel_rfl
 ·rintro k y E h;unfold yG at h;split at h
  ·cases h;kernel_rfl
  ·cases h;kernel_rfl
  ·cases h
 ·rintro Q hQ k hx;refine ⟨(k+1),?_⟩;(with_reducible refine DL (t:=branch (decide ((k:Int)<(n:Int))) (need [UM k n] (need [(1:Int)<=c/\c<=10] (branch (!rdB c (a k) (b k) (u k) (v k)) (need [Q4 n a b u v,U2 (X4 c T U O),(k:Int)=(↑(H0 (yV c a b u v) n):Int),U2 (n:Int)] (leaf G9.ret)) (need [VO ((k:Int)+1)] (need [Q4 n a b u v,U2 (X4 c T U O),U2 (n:Int),(k:Int)+1=(↑(k+1):Int)] (leaf G9.normal)))))) (need [Q4 n a b u v,U2 (X4 c T U O),U2 (n:Int)] (leaf (G9.exit 0)))) VW ?_);simp only [Xw8,yG,VP.sat,GX,HB] at hQ;simp only [VP.sat,UD,UJ,HB,VO,yG,DP];refine ⟨λh=>⟨VM,UI,λhb=>?_,λhb=>?_⟩,λh=>?_⟩
  ·have hf:H0 (yV c a b u v) n=k:=jB VM hb hx.2;refine ⟨VM,λE hE=>?_⟩
   cases hE;exact hQ.1 VM
  ·refine ⟨VM,VM,⟨VM,λj hj=>?_⟩,VM⟩
   rcases (show j<k\/j=k by omega) with h1|rfl
   ·exact hx.2 j h1
   ·exact hb
  ·have hf:H0 (yV c a b u v) n=n:=qH (λj hj=>hx.2 j VM)
   intro E hE;cases hE;exact hQ.2 VM
theorem Zc8(VU:n<=100000)(UI:1<=c/\c<=10):U0 VR 247 [rds n a b u v,.fn (.func 243) [] [.ro [.fn (.func 229) [.agg [i c,i T,i U,i O]] []]]] (i (if H0 (yV c a b u v) n<n then (H0 (yV c a b u v) n:Int) else -1)):=by
 refine U4 (L:=[Xc3 c T U O n a b u v]) (Ae mI Aa) U1 Tryz.func247 (UW Tryz.f247) (UZ (lpE (b:= .loop Zc4) VW<|Zc7 c T U O n a b u v VU UI)) (t:=need [Q4 n a b u v,U2 (X4 c T U O),U2 (n:Int),(0:Int)=(↑(0:Nat):Int)] (branch (decide (H0 (yV c a b u v) n<n)) (leaf (RV.x (.int .i64 (↑(H0 (yV c a b u v) n):Int)))) (leaf (RV.x (.int .i64 (-1:Int)))))) VW ?_
 exact VF
end
theorem isRec4(n:Nat)(a b u v:Nat->Int):UH 4 n (λk=>[i (a k),i (b k),i (u k),i (v k)]):=λ_ _=>rfl
def Xx1:UY
 |[.lst 4 n f,.fn (.func 243) [] [.ro [.fn (.func 229) [.agg [.x (.int .i64 c),.x (.int .i64 T),.x (.int .i64 U),.x (.int .i64 O)]] []]]]=>some ([UH 4 n f,n<=100000,1<=c/\c<=10],i (if H0 (yV c (col 0 f) (col 1 f) (col 2 f) (col 3 f)) n<n then (H0 (yV c (col 0 f) (col 1 f) (col 2 f) (col 3 f)) n:Int) else -1))
 |_=>none
def Xx6:UY
 |[.lst 4 n f,.fn (.func 243) [] [.ro [.fn (.func 229) [.agg [.x (.int .i64 c),.x (.int .i64 T),.x (.int .i64 U),.x (.int .i64 O)]] []]]]=>some ([UH 4 n f,n<=100000,1<=c/\c<=10],bl (!NH c n (col 0 f) (col 1 f) (col 2 f) (col 3 f)))
 |_=>none
def Xa7:UY
 |[.lst 4 n f,.fn (.func 229) [.agg [.x (.int .i64 c),.x (.int .i64 T),.x (.int .i64 U),.x (.int .i64 O)]] []]=>some ([UH 4 n f,n<=100000,1<=c/\c<=10],bl (NH c n (col 0 f) (col 1 f) (col 2 f) (col 3 f)))
 |_=>none
def flt(c T U O:Int)(n:Nat)(a b u v:Nat->Int):Int:=if qJ c T U O then (if 12<n then 3 else if NH c n a b u v then 0 else 2) else 1
def Qj4:UY
 |[.agg [.x (.int .i64 c),.x (.int .i64 T),.x (.int .i64 U),.x (.int .i64 O)],.lst 4 n f]=>some ([UH 4 n f],i (flt c T U O n (col 0 f) (col 1 f) (col 2 f) (col 3 f)))
 |_=>none
theorem Zc6:VS VR 247 Xx1:=by
 refine ⟨(UK Tryz.func247),?_⟩;intro avs ns Z h I;unfold Xx1 at h;split at h
 ·cases h;have hr:UH 4 _ _:=I _ (GJ);exact (Zc8 _ _ _ _ _ (col 0 _) (col 1 _) (col 2 _) (col 3 _) (I _ VX) (I _ VX)).same (.cons (.lst 4 _ _ _ hr) (.cons (.refl _) .nil))
 ·cases h
section
variable (c T U O:Int)(n:Nat)(a b u v:Nat->Int)
theorem Zq4(VU:n<=100000)(UI:1<=c/\c<=10):U0 VR 242 [rds n a b u v,.fn (.func 243) [] [.ro [.fn (.func 229) [.agg [i c,i T,i U,i O]] []]]] (bl (!NH c n a b u v)):=by
 refine U4 (L:=[]) (Ae Zc6 Aa) U1 Tryz.func242 (UW Tryz.f242) U6 (t:=need [UH 4 n λk=>[i (a k),i (b k),i (u k),i (v k)],n<=100000,(1:Int)<=c/\c<=10] (leaf (RV.x (.bool (decide ((if H0 (yV c a b u v) n<n then (↑(H0 (yV c a b u v) n):Int) else (-1:Int))>=(0:Int))))))) VW ?_
 simp only [VP.sat,UD,G8,UG,UJ];refine ⟨⟨isRec4 n _ _ _ _,VU,UI⟩,?_⟩;unfold NH;rw [kY];have:=F6 (yV c a b u v) n;have e:(λk=> !(λk=>rdB c (a k) (b k) (u k) (v k)) k)=yV c a b u v:=rfl
 rw [e];split<;>simp<;>omega
theorem Zq3:VS VR 242 Xx6:=by
 refine ⟨(UK Tryz.func242),?_⟩;intro avs ns Z h I;unfold Xx6 at h;split at h
 ·cases h;have hr:UH 4 _ _:=I _ (GJ);exact (Zq4 _ _ _ _ _ (col 0 _) (col 1 _) (col 2 _) (col 3 _) (I _ VX) (I _ VX)).same (.cons (.lst 4 _ _ _ hr) (.cons (.refl _) .nil))
 ·cases h
theorem Xq0(VU:n<=100000)(UI:1<=c/\c<=10):U0 VR 230 [rds n a b u v,.fn (.func 229) [.agg [i c,i T,i U,i O]] []] (bl (NH c n a b u v)):=by
 refine U4 (L:=[]) (Ae Zq3 Aa) U1 Tryz.func230 (UW Tryz.f230) U6 (t:=need [UH 4 n λk=>[i (a k),i (b k),i (u k),i (v k)],n<=100000,(1:Int)<=c/\c<=10] (leaf (RV.x (.bool !!NH c n a b u v)))) VW ?_
 simp only [VP.sat,UD,G8,UG,UJ];refine ⟨⟨isRec4 n _ _ _ _,VU,UI⟩,?_⟩;simp
end
theorem Xp9:VS VR 230 Xa7:=by
 refine ⟨(UK Tryz.func230),?_⟩;intro avs ns Z h I;unfold Xa7 at h;split at h
 ·cases h;have hr:UH 4 _ _:=I _ (GJ);exact (Xq0 _ _ _ _ _ (col 0 _) (col 1 _) (col 2 _) (col 3 _) (I _ VX) (I _ VX)).same (.cons (.lst 4 _ _ _ hr) (.cons (.refl _) .nil))
 ·cases h
theorem BR{c T U O:Int}(h:qJ c T U O=true):(1<=c/\c<=10)/\(1<=U/\U<=O/\O<=200/\1<=T/\T<=2000)/\c*U<=T/\T<=c*O:=by
 simp only [qJ,HC,bt_iff,insB_iff] at h;omega
theorem Ww2(c T U O:Int)(n:Nat)(a b u v:Nat->Int):U0 VR 208 [.agg [i c,i T,i U,i O],rds n a b u v] (i (flt c T U O n a b u v)):=by
 refine U4 (L:=[]) (Ae CheckTube_ok (Ae Xp9 Aa)) U1 Tryz.func208 (UW Tryz.f208) U6 (t:=branch ((if qJ c T U O=true then (0:Int) else (1:Int)) != 0) (leaf (RV.x (.int .i64 (if qJ c T U O=true then (0:Int) else (1:Int))))) (branch (decide ((n:Int)>12)) (leaf (RV.x (.int .i64 (3:Int)))) (need [UH 4 n λk=>[i (a k),i (b k),i (u k),i (v k)],n<=100000,(1:Int)<=c/\c<=10] (branch (!NH c n a b u v) (leaf (RV.x (.int .i64 (2:Int)))) (leaf (RV.x (JV))))))) VW ?_
 simp only [VP.sat,UD,G8,UG,UJ,flt];by_cases ht:qJ c T U O=true
 ·have hb:=BR ht;by_cases I:12<n
  ·simp [ht,I];omega
  ·cases ha:NH c n a b u v<;>simp [ht,I,ha,isRec4 n a b u v]<;>omega
 ·simp [ht]
theorem Ww1:VS VR 208 Qj4:=by
 refine ⟨(UK Tryz.func208),?_⟩;intro avs ns Z h I;unfold Qj4 at h;split at h
 ·cases h;have hr:UH 4 _ _:=I _ (GJ);exact (Ww2 _ _ _ _ _ (col 0 _) (col 1 _) (col 2 _) (col 3 _)).same (.cons (.refl _) (.cons (.lst 4 _ _ _ hr) .nil))
 ·cases h
theorem pJ(f:Nat->Int)(k:Nat)(VU:k<=10)(UI: -1000000000000<=f (k*11+4)/\f (k*11+4)<=1000000000000):U0 VR 232 [.roI [] 125 f 0,i k] (i (-(f (k*11+4)))):=by
 refine GZ Tryz.func232 (t:=need [UM k 11] (need [UM 0 11] (need [0+(k*11+4)<125] (need [VO (-f (0+(k*11+4)))] (leaf (RV.x (.int .i64 (-f (0+(k*11+4)))))))))) VW ?_;simp only [VP.sat,UD,G8,GO,UG,UJ,DP];rw [show 0+(k*11+4)=k*11+4 by omega]
 simp only [VO];simp;omega
def mP:UY
 |[.roI [] 125 f 0,.x (.int .i64 k)]=>some ([0<=k/\k<=10,-1000000000000<=f (k.toNat*11+4)/\f (k.toNat*11+4)<=1000000000000],i (-(f (k.toNat*11+4))))
 |_=>none
theorem pI:VS VR 232 mP:=by
 refine ⟨(UK Tryz.func232),?_⟩;intro avs ns Z h I;unfold mP at h;split at h
 ·rename_i f k;cases h;have hk:0<=k/\k<=10:=I _ VX;have e:((k.toNat:Nat):Int)=k:=VM;have h0:=pJ f k.toNat VM (I _ VX);rw [e] at h0;exact h0
 ·cases h
theorem aM(f:Nat->Int)(k:Nat)(VU:k<=10)(UI: -1000000000000<=f (k*11+4)/\f (k*11+4)<=1000000000000):U0 VR 233 [.roI [] 125 f 0,i k] (i (f (k+4))):=by
 refine GZ Tryz.func233 (t:=need [UM 0 11] (need [UM k 11] (need [k*1+4<125] (leaf (RV.x (.int .i64 (f (k*1+4)))))))) VW ?_;simp only [VP.sat,UD,G8,GO,UG,UJ,DP];rw [show k*1+4=k+4 by omega]
 simp only [VO];simp;omega
def MF:UY
 |[.roI [] 125 f 0,.x (.int .i64 k)]=>some ([0<=k/\k<=10,-1000000000000<=f (k.toNat*11+4)/\f (k.toNat*11+4)<=1000000000000],i (f (k.toNat+4)))
 |_=>none
theorem aL:VS VR 233 MF:=by
 refine ⟨(UK Tryz.func233),?_⟩;intro avs ns Z h I;unfold MF at h;split at h
 ·rename_i f k;cases h;have hk:0<=k/\k<=10:=I _ VX;have e:((k.toNat:Nat):Int)=k:=VM;have h0:=aM f k.toNat VM (I _ VX);rw [e] at h0;exact h0
 ·cases h
def mO:UY
 |[]=>some ([],.agg [.fn (.func 232) [] []])
 |_=>none
theorem Qq1:U0 VR 210 [] (.agg [.fn (.func 232) [] []]):=by
 refine GZ Tryz.func210 (t:=leaf (RV.agg [RV.fn (Fn.func 232)])) VW ?_;exact V4
theorem Qq0:VS VR 210 mO:=by
 refine ⟨(UK Tryz.func210),?_⟩;intro avs ns Z h I;unfold mO at h;split at h
 ·cases h;exact Qq1
 ·cases h
def SN:UY
 |[]=>some ([],.agg [.fn (.func 233) [] []])
 |_=>none
theorem sA:U0 VR 211 [] (.agg [.fn (.func 233) [] []]):=by
 refine GZ Tryz.func211 (t:=leaf (RV.agg [RV.fn (Fn.func 233)])) VW ?_;exact V4
theorem s9:VS VR 211 SN:=by
 refine ⟨(UK Tryz.func211),?_⟩;intro avs ns Z h I;unfold SN at h;split at h
 ·cases h;exact sA
 ·cases h
theorem Qv1(f:Nat->Int)(k:Nat)(VU:k<=10)(UI: -1000000000000<=f (k*11+4)/\f (k*11+4)<=1000000000000):U0 VR 175 [.roI [] 125 f 0,i k] (.agg [i (-(f (k*11+4))),i (f (k+4))]):=by
 refine U4 (L:=[]) (Ae pI (Ae aL (Ae Qq0 (Ae s9 Aa)))) U1 Tryz.func175 (UW Tryz.f175) U6 (t:=need [(0:Int)<=(k:Int)/\(k:Int)<=10,(-1000000000000:Int)<=f (k*11+4)/\f (k*11+4)<=1000000000000] (need [(0:Int)<=(k:Int)/\(k:Int)<=10,(-1000000000000:Int)<=f (k*11+4)/\f (k*11+4)<=1000000000000] (leaf (RV.agg [RV.x (.int .i64 (-f (k*11+4))),RV.x (.int .i64 (f (k+4)))])))) VW ?_;exact V4
def mU:UY
 |[.roI [] 125 f 0,.x (.int .i64 k)]=>some ([0<=k/\k<=10,-1000000000000<=f (k.toNat*11+4)/\f (k.toNat*11+4)<=1000000000000],.agg [i (-(f (k.toNat*11+4))),i (f (k.toNat+4))])
 |_=>none
theorem zE:VS VR 175 mU:=by
 refine ⟨(UK Tryz.func175),?_⟩;intro avs ns Z h I;unfold mU at h;split at h
 ·rename_i f k;cases h;have hk:0<=k/\k<=10:=I _ VX;have e:((k.toNat:Nat):Int)=k:=VM;have h0:=Qv1 f k.toNat VM (I _ VX);rw [e] at h0;exact h0
 ·cases h
def dbF(f:Nat->Int):Nat->Int
 | 0=>0
 |k+1=>max (dbF f k) (f (k+4)- -(f (k*11+4)))
theorem sN{f:Nat->Int}{c:Nat}(h: ∀k,k<=c->(-1000000000000<=f (k*11+4)/\f (k*11+4)<=1000000000000)/\(-1000000000000<=f (k+4)/\f (k+4)<=1000000000000)): ∀k,k<=c+1->0<=dbF f k/\dbF f k<=2000000000000
 | 0,_=>by simp [dbF]
 |k+1,hk=>by
  have:=sN h k VM;have:=h k VM;simp only [dbF];omega
abbrev KH(f:Nat->Int):AV:=roI [] 125 (λa=>f a) 0
def Zv4(c:Nat)(f:Nat->Int):St:={σ:=[KH f]++HM 9 [iI (f 0+1)]++HM 16 [],m:=[],nx:=8}
noncomputable def Jv0:Code:=UC (VV (U9 Tryz.f218) 0)
section
variable (c:Nat)(f:Nat->Int)
def Wn7(k:Nat):St:=(upM [(2,i (dbF f k)),(11,i k)] (Zv4 c f))
def ED(k:Nat):G9->Option St
 | .exit 0=>some (upM [(2,i (dbF f (c+1))),(11,i ((c+1:Nat):Int))] (Zv4 c f))
 |_=>none
def Jq8:CT:= .leaf (.exit 0,(ED c f 0 (.exit 0)).getD (Zv4 c f))
def Zc0:UL:=(HK (Wn7 c f (0)) (Jq8 c f))
theorem Jl4(VU:c<=10)(UI:f 0=c)(HU: ∀k,k<=c->(-1000000000000<=f (k*11+4)/\f (k*11+4)<=1000000000000)/\(-1000000000000<=f (k+4)/\f (k+4)<=1000000000000)):GA VR (.loop Jv0) (Zc0 c f):=by
 refine HJ (L:=[]) (Ae zE (Ae rO Aa)) U1 U6 (X:=Nat) (Wn7 c f) (λk=>k<=c+1) (λk=>c+1-k) (ED c f) (x0:=0) VX ?_ ?_ ?_
 ·rintro k;kernel_rfl
 ·rintro k y E h;unfold ED at h;split at h
  ·cases h;kernel_rfl
  ·cases h
 ·rintro Q hQ k hx;refine ⟨(k+1),?_⟩;(with_reducible refine DL (t:=branch (decide ((k:Int)<f 0+1)) (need [(0:Int)<=(k:Int)/\(k:Int)<=10,(-1000000000000:Int)<=f (k*11+4)/\f (k*11+4)<=1000000000000] (need [VO (f (k+4)- -f (k*11+4))] (need [VO ((k:Int)+1)] (need [KH f=KH f,max (dbF f k) (f (k+4)- -f (k*11+4))=dbF f (k+1),U2 (f 0+1),(k:Int)+1=(↑(k+1):Int)] (leaf G9.normal))))) (need [KH f=KH f,dbF f k=dbF f (c+1),U2 (f 0+1),(k:Int)=(↑(c+1):Int)] (leaf (G9.exit 0)))) VW ?_);simp only [Jq8,ED,VP.sat,GX] at hQ;simp only [VP.sat,UD,UJ,HB,VO,ED,DP];refine ⟨λh=>?_,λh=>?_⟩
  ·have h1:=HU k VM;have h2:=sN HU k VM;refine ⟨⟨VM,h1.1⟩,VM,VM,⟨rfl,VM⟩,VM,VM⟩
  ·obtain rfl:k=c+1:=VM;exact ⟨⟨rfl,rfl⟩,λE hE=>by cases hE;exact hQ⟩
theorem Wv8(VU:c<=10)(UI:f 0=c)(HU: ∀k,k<=c->(-1000000000000<=f (k*11+4)/\f (k*11+4)<=1000000000000)/\(-1000000000000<=f (k+4)/\f (k+4)<=1000000000000)):U0 VR 218 [.roI [] 125 f 0] (i (dbF f (c+1))):=by
 refine U4 (L:=[Zc0 c f]) (Ae zE (Ae rO Aa)) U1 Tryz.func218 (UW Tryz.f218) (UZ (lpE (b:= .loop Jv0) VW<|Jl4 c f VU UI HU)) (t:=need [0<125] (need [VO (f 0+1)] (need [KH f=KH f,(0:Int)=dbF f 0,U2 (f 0+1),(0:Int)=(↑(0:Nat):Int)] (leaf (RV.x (.int .i64 (dbF f (c+1)))))))) VW ?_
 simp only [VP.sat,UD,G8,GO,UG,UJ,DP];simp only [VO];have h2:=sN HU (c+1) VM;all_goals exact VA
end
def Qj3:UY
 |[.roI [] 125 f 0]=>some ([0<=f 0/\f 0<=10,∀k,k<=(f 0).toNat->(-1000000000000<=f (k*11+4)/\f (k*11+4)<=1000000000000)/\(-1000000000000<=f (k+4)/\f (k+4)<=1000000000000)],i (dbF f ((f 0).toNat+1)))
 |_=>none
theorem Wv7:VS VR 218 Qj3:=by
 refine ⟨(UK Tryz.func218),?_⟩;intro avs ns Z h I;unfold Qj3 at h;split at h
 ·rename_i f;cases h;have hk:0<=f 0/\f 0<=10:=I _ VX;exact Wv8 (f 0).toNat f VM VM (I _ VX)
 ·cases h
section
variable (c T U O:Int)(n:Nat)(a b u v:Nat->Int)
abbrev e8:AV:=Qb5 c.toNat T U O n a b u v
def okB:Bool:=okR c.toNat T U O n a b u v
def qV(r:Bool):Int:=if flt c T U O n a b u v=0 then (if r then (if okB c T U O n a b u v then 0 else 9) else 2) else flt c T U O n a b u v
end
section
variable {c T U O:Int}{n:Nat}{a b u v:Nat->Int}
theorem yO:flt c T U O n a b u v=0↔qJ c T U O=true/\n<=12/\DD (λk=>rdB c (a k) (b k) (u k) (v k)) n=true:=by
 unfold flt NH;split
 ·rename_i h1;split
  ·rename_i h2;constructor
   ·intro h;cases h
   ·intro h;omega
  ·rename_i h2;split
   ·rename_i h3;exact ⟨λ_=>⟨h1,VM,h3⟩,λ_=>rfl⟩
   ·rename_i h3;constructor
    ·intro h;cases h
    ·intro h;exact absurd h.2.2 h3
 ·rename_i h1;constructor
  ·intro h;cases h
  ·intro h;exact absurd h.1 h1
theorem hZ{r:Bool}:qV c T U O n a b u v r=0↔flt c T U O n a b u v=0/\r=true/\okB c T U O n a b u v=true:=by
 unfold qV;split
 ·rename_i h1;split
  ·rename_i h2;split
   ·rename_i h3;simp [h1,h2,h3]
   ·rename_i h3;simp [h1,h2,h3]
  ·rename_i h2;simp [h1,h2]
 ·rename_i h1;simp [h1]
end
theorem cL(c T U O:Int)(n:Nat)(a b u v:Nat->Int)(r:Bool):UQ VR 174 [.agg [i c,i T,i U,i O],rds n a b u v,bl r] (.branch (decide (qV c T U O n a b u v r=0)) (.leaf (.tup [e8 c T U O n a b u v,i 0])) (.leaf (.tup [nilP,i (qV c T U O n a b u v r)]))):=by
 refine GV (L:=[]) (Ae Ww1 Aa) (Aj Ab Ac (Ah xN (UE.nil _))) U1 Tryz.func174 (UW Tryz.f174) G7 (t:=need [UH 4 n λk=>[i (a k),i (b k),i (u k),i (v k)]] (branch (flt c T U O n a b u v != 0) (leaf (tup [QV,iI (flt c T U O n a b u v)])) (branch (!r) (leaf (tup [QV,iI 2])) (need [UH 4 n λk=>[i (a k),i (b k),i (u k),i (v k)],(1:Int)<=c/\c<=10,(1:Int)<=U/\U<=O/\O<=200/\(1:Int)<=T/\T<=2000,n<=1000,DD (λk=>rdB c (a k) (b k) (u k) (v k)) n=true] (branch (okR (Int.toNat c) T U O n a b u v) (leaf (tup [roI [] 125 (λk=>UF (↑(Int.toNat c):Int) T U O (fwM (Int.toNat c) T U O n a b u v) k) 0,iI 0])) (leaf (tup [QV,iI 9]))))))) VW ?_
 intro Q hQ;have e:c.toNat=c\/c<0:=VM;simp only [VP.sat,UD,UJ,RF,HB,Ax] at hQ ⊢;refine ⟨isRec4 n a b u v,λh1=>?_,λh1=>?_⟩
 ·refine ⟨.tup [nilP,i (flt c T U O n a b u v)],⟨rfl,⟨rfl,rfl⟩,Ak⟩,?_⟩;have h2:qV c T U O n a b u v r=flt c T U O n a b u v:=by unfold qV;rw [if_neg h1]
  rw [h2] at hQ;exact hQ.2 h1
 ·have hf:=yO.1 h1;have hb:=BR hf.1;refine ⟨λh2=>?_,λh2=>⟨⟨isRec4 n a b u v,hb.1,hb.2.1,by have:=hf.2.1;omega,hf.2.2⟩,λh3=>?_,λh3=>?_⟩⟩
  ·subst h2;have h4:qV c T U O n a b u v false=2:=by unfold qV;rw [if_pos h1];rfl
   rw [h4] at hQ;exact ⟨.tup [nilP,i 2],⟨rfl,⟨rfl,rfl⟩,Ak⟩,hQ.2 VM⟩
  ·have h2:r=true:=by simpa using h2
   subst h2;have h4:qV c T U O n a b u v true=0:=hZ.2 ⟨h1,rfl,h3⟩;exact ⟨.tup [e8 c T U O n a b u v,i 0],⟨⟨rfl,rfl,λ_ _=>rfl,rfl⟩,⟨rfl,rfl⟩,Ak⟩,hQ.1 h4⟩
  ·have h2:r=true:=by simpa using h2
   subst h2;have h4:qV c T U O n a b u v true=9:=by unfold qV okB;rw [if_pos h1,h3];rfl
   rw [h4] at hQ;exact ⟨.tup [nilP,i 9],⟨rfl,⟨rfl,rfl⟩,Ak⟩,hQ.2 VM⟩
def bZ:DK:=λl=>match l with
 |[.agg [.x (.int .i64 c),.x (.int .i64 T),.x (.int .i64 U),.x (.int .i64 O)],.lst 4 n f,.x (.bool r)]=>some (.need [UH 4 n f] (.branch (decide (qV c T U O n (col 0 f) (col 1 f) (col 2 f) (col 3 f) r=0)) (.leaf (.tup [e8 c T U O n (col 0 f) (col 1 f) (col 2 f) (col 3 f),i 0])) (.leaf (.tup [nilP,i (qV c T U O n (col 0 f) (col 1 f) (col 2 f) (col 3 f) r)]))))
 |[.agg [.x (.int .i64 c),.x (.int .i64 T),.x (.int .i64 U),.x (.int .i64 O)],.lst 4 n f,.lit r]=>some (.need [UH 4 n f] (.branch (decide (qV c T U O n (col 0 f) (col 1 f) (col 2 f) (col 3 f) r=0)) (.leaf (.tup [e8 c T U O n (col 0 f) (col 1 f) (col 2 f) (col 3 f),i 0])) (.leaf (.tup [nilP,i (qV c T U O n (col 0 f) (col 1 f) (col 2 f) (col 3 f) r)]))))
 |_=>none
theorem U5.lits{e:UN}{w:World}{r:Bool}: ∀{l:List AV} {vs:List Value},U5 e w (l++[.lit r]) vs->U5 e w (l++[.x (.bool r)]) vs
 |[],vs,h=>by
  obtain ⟨v,vs',rfl,hv,hvs⟩:=h.cons_inv;cases hv;exact U5.cons (.x _) hvs
 |a::l,vs,h=>by
  obtain ⟨v,vs',rfl,hv,hvs⟩:=h.cons_inv;exact U5.cons hv (U5.lits hvs)
theorem UQ.lits{P:Program}{f:FuncId}{l:List AV}{r:Bool}{t:VP AV}(h:UQ P f (l++[.x (.bool r)]) t):UQ P f (l++[.lit r]) t:=λQ hQ e w args hro hgl FP hr=>h Q hQ e w args hro hgl (λa ha=>by
 rcases List.mem_append.1 ha with h1|h1
 ·exact FP a (Bd _ h1)
 ·cases B6.1 h1;exact .x _) (U5.lits hr)
theorem dK:Enters VR 174/\ ∀avs t,bZ avs=some t->UQ VR 174 avs t:=by
 refine ⟨(UK Tryz.func174),?_⟩;intro avs t h;unfold bZ at h;split at h
 ·rename_i c T U O n f r;cases h;intro Q hQ;have hr:UH 4 n f:=GF hQ.1 _ VX;exact UQ.same (cL c T U O n (col 0 f) (col 1 f) (col 2 f) (col 3 f) r) (.cons (.refl _) (.cons (.lst 4 n _ _ hr) (.cons (.refl _) .nil))) Q hQ.2
 ·rename_i c T U O n f r;cases h;intro Q hQ;have hr:UH 4 n f:=GF hQ.1 _ VX;exact UQ.lits (l:=[.agg [.x (.int .i64 c),.x (.int .i64 T),.x (.int .i64 U),.x (.int .i64 O)],.lst 4 n f]) (UQ.same (cL c T U O n (col 0 f) (col 1 f) (col 2 f) (col 3 f) r) (.cons (.refl _) (.cons (.lst 4 n _ _ hr) (.cons (.refl _) .nil)))) Q hQ.2
 ·cases h
section
variable (c T U O:Int)(n:Nat)(a b u v:Nat->Int)
def eB:Int:=qV c T U O n a b u v true
def fwB:Nat->Nat->Int:=fwM c.toNat T U O n a b u v
def sfB:Nat->Int:=UF (c.toNat:Nat) T U O (fwB c T U O n a b u v)
def dtB:Int:=if eB c T U O n a b u v=0 then dbF (sfB c T U O n a b u v) (c.toNat+1) else 0
def A6:Nat:=if eB c T U O n a b u v=0 then c.toNat+1 else 0
end
theorem Xv4{c a b u v:Int}(h:rdB c a b u v=true):(0<=a/\a<=c-1)/\(a<=b/\b<=c)/\0<=u/\u<=v/\v<=2000:=by
 simp only [rdB,HC,bt_iff,insB_iff] at h;omega
theorem aT{c T U O:Int}{n:Nat}{a b u v:Nat->Int}(h:flt c T U O n a b u v=0)(x y:Nat): -1000000000000<=fwB c T U O n a b u v x y/\fwB c T U O n a b u v x y<=2000:=by
 have hf:=yO.1 h;have hb:=BR hf.1;have hl:=oO (c:=c.toNat) (a:=a) (b:=b) hb.2.1 (λj hj=>(Xv4 (GW.1 hf.2.2 j hj)).2.2) n (Am n)
 have h1:=Zs5 (c:=c.toNat) hl (c.toNat+1) x y;have h2:=Je7 c.toNat VM;rw [Int.pow_succ] at h1;unfold fwB fwM;omega
section
variable (c T U O:Int)(n:Nat)(a b u v:Nat->Int)
theorem Xv2:sfB c T U O n a b u v 0=c.toNat:=rfl
theorem TD(k:Nat):sfB c T U O n a b u v (k*11+4)=fwB c T U O n a b u v k 0:=qL _ _ _ _ _ VM VM
theorem e9{k:Nat}(hk:k<=10):sfB c T U O n a b u v (k+4)=fwB c T U O n a b u v 0 k:=qL _ _ _ _ _ VM VM
abbrev YJ:Ext:={R:=[],H:=[],C:=[(174,bZ)] }
theorem Xf1:U0 VR 182 [.agg [i c,i T,i U,i O],rds n a b u v] (.tup [i (dtB c T U O n a b u v),i (eB c T U O n a b u v)]):=by
 refine GD (L:=[]) (Ae Wv7 Aa) (Aj Ab Ac (Ah dK (UE.nil _))) U1 Tryz.func182 (UW Tryz.f182) G7 (t:=let A:=(fwM (Int.toNat c) T U O n a b u v);let W:=qV c T U O n a b u v true;(need [UH 4 n λk=>[i (a k),i (b k),i (u k),i (v k)]] (branch (decide (W=0)) (branch ((0:Int) != 0) (leaf (RV.tup [RV.x (JV),RV.x (JV)])) (need [(0:Int)<=UF (↑(Int.toNat c):Int) T U O A 0/\UF (↑(Int.toNat c):Int) T U O A 0<=10,∀(k:Nat),k<=(UF (↑(Int.toNat c):Int) T U O A 0).toNat->((-1000000000000:Int)<=UF (↑(Int.toNat c):Int) T U O A (k*11+4)/\UF (↑(Int.toNat c):Int) T U O A (k*11+4)<=1000000000000)/\(-1000000000000:Int)<=UF (↑(Int.toNat c):Int) T U O A (k+4)/\UF (↑(Int.toNat c):Int) T U O A (k+4)<=1000000000000] (leaf (RV.tup [RV.x (.int .i64 (dbF (UF (↑(Int.toNat c):Int) T U O A) ((UF (↑(Int.toNat c):Int) T U O A 0).toNat+1))),RV.x (JV)])))) (branch (W != 0) (leaf (RV.tup [RV.x (JV),RV.x (.int .i64 (W))])) VP.fail)))) VW ?_
 have eq: ∀k,UF (c.toNat:Nat) T U O (fwM c.toNat T U O n a b u v) k=sfB c T U O n a b u v k:=λ_=>rfl
 simp only [VP.sat,UD,UJ,RF,HB,Ax,not_true_eq_false,false_imp_iff,eq,G8];refine ⟨isRec4 n a b u v,λh1 _=>?_,λh1=>⟨λ_=>?_,λh2=>h1 h2⟩⟩
 ·have hf:=(hZ.1 h1).1;have hc:=(BR (yO.1 hf).1).1;have e0:(sfB c T U O n a b u v 0).toNat=c.toNat:=by rw [Xv2];omega
  refine ⟨⟨by rw [Xv2];omega,λk hk=>?_⟩,?_⟩
  ·rw [e0] at hk;rw [TD,e9 _ _ _ _ _ _ _ _ _ VM];have h2:=aT hf k 0;have h3:=aT hf 0 k;omega
  ·rw [e0];unfold dtB eB;rw [if_pos h1,h1];exact ⟨⟨rfl,rfl⟩,⟨rfl,rfl⟩,Ak⟩
 ·unfold dtB eB;rw [if_neg h1];exact ⟨⟨rfl,rfl⟩,⟨rfl,rfl⟩,Ak⟩
end
section
variable {sz k:Nat}{l:List AV}{x:AV}
theorem Qu6(h:x∈U8 sz l k):x∈l:=List.mem_of_mem_drop (List.mem_of_mem_take h)
theorem FS(hm:x∈U8 sz l k)(h: ∀y∈l,AV.one y=true):AV.one x=true:=h x (Qu6 hm)
end
theorem Jm3{k j:Nat}{a b:Nat->Int}{x y:Int}(h:j<k+1)(hx:x=a k)(hy:y=b k):GI k (λk=>[i (a k),i (b k)]) (U8 2 [i x,i y]) j=[i (a j),i (b j)]:=by
 have e:j-k=0:=VM;show HD (decide (j<k)) [i (a j),i (b j)] (U8 2 [i x,i y] (j-k))=_;rw [e];by_cases hj:j<k
 ·rw [show decide (j<k)=true by simp [hj]]
  rfl
 ·have hk:j=k:=VM;rw [show decide (j<k)=false by simp [hj],hk,hx,hy]
  rfl
section
variable (c T U O:Int)(n:Nat)(a b u v:Nat->Int)
def Zu3:St:={σ:=[.agg [i c,i T,i U,i O],rds n a b u v,.ptr 0 0,.top,.x (.slice none 0 0),i 0,e8 c T U O n a b u v,i 0,.top,.top,.top,.top,.top,.top,.top,.top,.top,.top,.top,.top,.top,i (c+1),.top,.top,.top,.top,.top,.top,.top,.top,.top,.top,.top],m:=[(900,.row 70 2 0 (λ_=>[])),(0,.cells 122 [i c,i T,i U,i O])],nx:=901}
noncomputable def Ju0:Code:=UC (VV (U9 Tryz.f134) 0)
def Wm5(k:Nat):St:=(upE [(8,.row 900),(22,i k)] [(900,.row 70 2 (k) (λk=>[i (-(fwB c T U O n a b u v k 0)),i (fwB c T U O n a b u v 0 k)])),(0,.cells 122 [i c,i T,i U,i O])] (Zu3 c T U O n a b u v))
def E2(k:Nat):G9->Option St
 | .exit 0=>some (upE [(8,.row 900)] [(900,.row 70 2 (c.toNat+1) (λk=>[i (-(fwB c T U O n a b u v k 0)),i (fwB c T U O n a b u v 0 k)])),(0,.cells 122 [i c,i T,i U,i O])] (Zu3 c T U O n a b u v))
 |_=>none
def Jp6:CT:= .leaf (.exit 0,(E2 c T U O n a b u v 0 (.exit 0)).getD (Zu3 c T U O n a b u v))
def Za7:UL:=GM [(.slot 8,900,70,2)] (HK (Wm5 c T U O n a b u v (0)) (Jp6 c T U O n a b u v))
abbrev KF:AV:=AV.x (.slice none 0 0)
abbrev Y6:Prop:=(0:Int)=0
theorem Jh9(VU:flt c T U O n a b u v=0):GA VR (.loop Ju0) (Za7 c T U O n a b u v):=by
 refine j5 [(.slot 8,900,70,2)] (L:=[]) (Ae zE Aa) U1 U6 (X:=Nat) (Wm5 c T U O n a b u v) (λk=>k<=c.toNat+1) (λk=>c.toNat+1-k) (E2 c T U O n a b u v) (x0:=0) VX ?_ ?_ ?_
 ·rintro k;kernel_rfl
 ·rintro k y E h;unfold E2 at h;split at h
  ·cases h;kernel_rfl
  ·cases h
 ·rintro Q hQ k hx;refine ⟨(k+1),?_⟩;(with_reducible refine DL (t:=let A:=(fwM (Int.toNat c) T U O n a b u v);let W:=fwB c T U O n a b u v;let z2:=(U2 (roI [] 125 (λk=>UF (↑(Int.toNat c):Int) T U O A k) 0));let z3:=(UF (↑(Int.toNat c):Int) T U O A (k+4));(branch (decide ((k:Int)<c+1)) (need [(0:Int)<=(k:Int)/\(k:Int)<=10,(-1000000000000:Int)<=UF (↑(Int.toNat c):Int) T U O A (k*11+4)/\UF (↑(Int.toNat c):Int) T U O A (k*11+4)<=1000000000000] (need [(k+1)*16<=140737488355328,RZ 1 (U8 2 [iI (-UF (↑(Int.toNat c):Int) T U O A (k*11+4)),iI z3])] (need [VO ((k:Int)+1)] (need [U2 (agg [iI c,iI T,iI U,iI O]),Q4 n a b u v,XJ,KF=KF,Y6,z2,Y6,U2 (AV.row 900),U2 (c+1),(k:Int)+1=(↑(k+1):Int),k+1=k+1,GY (k+1) (GI k (λk=>[Bo.i (-W k 0),Bo.i (W 0 k)]) (U8 2 [iI (-UF (↑(Int.toNat c):Int) T U O A (k*11+4)),iI z3])) (λi=>[Bo.i (-W i 0),Bo.i (W 0 i)]),c=c,T=T,U=U,O=O] (leaf G9.normal))))) (need [U2 (agg [iI c,iI T,iI U,iI O]),Q4 n a b u v,XJ,KF=KF,Y6,z2,Y6,U2 (AV.row 900),U2 (c+1),k=Int.toNat c+1,∀(i:Nat),i<Int.toNat c+1->[Bo.i (-W i 0),Bo.i (W 0 i)]=[Bo.i (-W i 0),Bo.i (W 0 i)],c=c,T=T,U=U,O=O] (leaf (G9.exit 0))))) VW ?_)
  simp only [Jp6,E2,VP.sat,GX] at hQ;have hc:=(BR (yO.1 VU).1).1;have e0:((c.toNat:Nat):Int)=c:=VM;have eq: ∀k,UF c.toNat T U O (fwM c.toNat T U O n a b u v) k=sfB c T U O n a b u v k:=λ_=>rfl
  simp only [VP.sat,UD,G8,GO,UG,VO,UJ,HB,RE,E2,eq]
  refine ⟨λh=>?_,λh=>?_⟩
  ·have h2:=aT VU k 0;have h3:=aT VU 0 k;refine ⟨⟨VM,by rw [TD];omega⟩,⟨VM,λi O a ha=>FS ha (by simp [AV.one,Value.oneCell'])⟩,VM,⟨VM,λi O=>Jm3 O (by rw [TD]) (by rw [e9 _ _ _ _ _ _ _ _ _ VM])⟩,VM,VM⟩
  ·obtain rfl:k=c.toNat+1:=VM;exact ⟨⟨rfl,λ_ _=>Ak⟩,λE hE=>by cases hE;exact hQ⟩
theorem nM(VU:qV c T U O n a b u v true=0)(UI:flt c T U O n a b u v=0):U0 VR 134 [.agg [i c,i T,i U,i O],rds n a b u v] (.tup [.lst 2 (A6 c T U O n a b u v) (λk=>[i (-(fwB c T U O n a b u v k 0)),i (fwB c T U O n a b u v 0 k)]),i (eB c T U O n a b u v)]):=by
 refine uS (L:=[Za7 c T U O n a b u v]) (Gd.go true (Gd.go false Gd.rest)) (Ae zE Aa) (Aj Ab Ac (Ah dK (UE.nil _))) U1 Tryz.func134 (UW Tryz.f134) (UZ (lpE (b:= .loop Ju0) VW<|(Jh9 c T U O n a b u v UI).N)) (t:=let A:=fwB c T U O n a b u v;(need [UH 4 n λk=>[i (a k),i (b k),i (u k),i (v k)]] (need [decide (qV c T U O n a b u v true=0)=true] (need [((0:Int) != 0)=false] (need [VO (c+1)] (need [U2 (agg [iI c,iI T,iI U,iI O]),Q4 n a b u v,XJ,KF=KF,Y6,U2 (roI [] 125 (λk=>UF (↑(Int.toNat c):Int) T U O (fwM (Int.toNat c) T U O n a b u v) k) 0),Y6,U2 (AV.row 900),U2 (c+1),(0:Int)=(↑(0:Nat):Int),0=0,∀(i:Nat),i<0->[]=[Bo.i (-A i 0),Bo.i (A 0 i)],c=c,T=T,U=U,O=O] (leaf (RV.tup [RV.lst 2 (Int.toNat c+1) λk=>[iI (-A k 0),iI (A 0 k)],RV.x (JV)])))))))) VW ?_
 have hc:=(BR (yO.1 UI).1).1;have hl:A6 c T U O n a b u v=c.toNat+1:=if_pos VU;have he:eB c T U O n a b u v=0:=VU;rw [hl,he];simp only [VP.sat,UD,G8,GO,UG,VO,UJ]
 (with_reducible repeat' first|apply Al|intro _)
 all_goals first|exact Ak|with_reducible rfl|omega|exact isRec4 _ _ _ _ _|(simp [*];done)|(rename_i hm;simp only [GQ,DQ,or_false] at hm;rcases hm with rfl|rfl<;>exact Ak)
theorem nN(VU:qV c T U O n a b u v true≠0):U0 VR 134 [.agg [i c,i T,i U,i O],rds n a b u v] (.tup [.lst 2 (A6 c T U O n a b u v) (λk=>[i (-(fwB c T U O n a b u v k 0)),i (fwB c T U O n a b u v 0 k)]),i (eB c T U O n a b u v)]):=by
 refine uS (L:=[]) (Gd.go false (Gd.go true Gd.rest)) (Ae zE Aa) (Aj Ab Ac (Ah dK (UE.nil _))) U1 Tryz.func134 (UW Tryz.f134) G7 (t:=let A:=qV c T U O n a b u v true;(need [UH 4 n λk=>[i (a k),i (b k),i (u k),i (v k)]] (need [decide (A=0)=false] (need [(A != 0)=true] (leaf (RV.tup [RV.x (.slice none 0 0),RV.x (.int .i64 (A))])))))) VW ?_
 have hl:A6 c T U O n a b u v=0:=if_neg VU;have he:eB c T U O n a b u v=qV c T U O n a b u v true:=rfl;rw [hl,he];simp only [VP.sat,UD,G8,GO,UG,VO,UJ]
 (with_reducible repeat' first|apply Al|intro _)
 all_goals first|exact Ak|with_reducible rfl|omega|exact isRec4 _ _ _ _ _|(simp [*];done)
end
def S_Heights:UY
 |[.agg [.x (.int .i64 c),.x (.int .i64 T),.x (.int .i64 U),.x (.int .i64 O)],.lst 4 n f]=>some ([UH 4 n f],.tup [.lst 2 (A6 c T U O n (col 0 f) (col 1 f) (col 2 f) (col 3 f)) (λk=>[i (-(fwB c T U O n (col 0 f) (col 1 f) (col 2 f) (col 3 f) k 0)),i (fwB c T U O n (col 0 f) (col 1 f) (col 2 f) (col 3 f) 0 k)]),i (eB c T U O n (col 0 f) (col 1 f) (col 2 f) (col 3 f))])
 |_=>none
theorem uO(c T U O:Int)(n:Nat)(a b u v:Nat->Int):U0 VR 134 [.agg [i c,i T,i U,i O],rds n a b u v] (.tup [.lst 2 (A6 c T U O n a b u v) (λk=>[i (-(fwB c T U O n a b u v k 0)),i (fwB c T U O n a b u v 0 k)]),i (eB c T U O n a b u v)]):=by
 by_cases h:qV c T U O n a b u v true=0
 ·exact nM c T U O n a b u v h (hZ.1 h).1
 ·exact nN c T U O n a b u v h
theorem Heights_ok:VS VR 134 S_Heights:=by
 refine ⟨(UK Tryz.func134),?_⟩;intro avs ns Z h I;unfold S_Heights at h;split at h
 ·rename_i c T U O n f;cases h;have hr:UH 4 n f:=I _ (GJ);exact (uO c T U O n (col 0 f) (col 1 f) (col 2 f) (col 3 f)).same (.cons (.refl _) (.cons (.lst 4 n _ _ hr) .nil))
 ·cases h
end Go.Proofs.YtlclobclmfhlmaaGreatDoor.Bo
