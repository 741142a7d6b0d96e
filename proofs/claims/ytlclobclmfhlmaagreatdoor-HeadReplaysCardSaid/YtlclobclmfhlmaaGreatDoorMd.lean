/- Contracts, put together. Conditions: those of each. -/
import Derived.Test.YtlclobclmfhlmaaGreatDoorMc
import Derived.Test.YtlclobclmfhlmaaGreatDoorRows
set_option linter.unusedSimpArgs false
set_option linter.unusedVariables false
set_option maxRecDepth 100000
namespace Go.Proofs.YtlclobclmfhlmaaGreatDoor
noncomputable abbrev VP:Go.Program:=Tryz.prog
end Go.Proofs.YtlclobclmfhlmaaGreatDoor
namespace Go.Proofs.YtlclobclmfhlmaaGreatDoor.Pt
open Go Go.Sx Go.RowKit
open Go.Sx.VN (need branch leaf)
open Go.Sx.AV (lst ptr agg roI tup top)
theorem VZ:Tryz.prog.follows .mixedOrders=true:=VU
abbrev i(n:Int):AV:= .x (.int .i64 n)
abbrev iI(n:Int):AV:= .x (.int .i64 n)
abbrev bl(b:Bool):AV:= .x (.bool b)
def bt(lo n hi:Int):Bool:=decide (lo<=n)&&decide (n<=hi)
def insB(lo a b hi:Int):Bool:=decide (lo<=a)&&decide (a<=b)&&decide (b<=hi)
theorem insB_iff(lo a b hi:Int):insB lo a b hi=true↔lo<=a/\a<=b/\b<=hi:=by simp [insB,and_assoc]
def scB(a b:Int):Bool:=bt (-1000) a 1000&&bt (-1000) b 1000&&(a != b)
def B9:UZ
 |[.x (.int .i64 n),.x (.int .i64 lo),.x (.int .i64 hi)]=>some ([],bl (bt lo n hi))
 |_=>none
theorem wN(n lo hi:Int):VY VP 227 [i n,i lo,i hi] (bl (bt lo n hi)):=by
 refine GW Tryz.func227 (t:=branch (decide (lo<=n)) (leaf (RV.x (.bool (decide (n<=hi))))) (leaf (RV.x (.bool false)))) VU ?_;simp only [VN.sat,UB,UY,GL,UE,UJ];all_goals (simp+contextual [bt,insB,scB,Bool.and_assoc]);all_goals omega
theorem RJ:VQ VP 227 B9:=by
 refine ⟨(UK Tryz.func227),?_⟩;intro avs ns res h hn;unfold B9 at h;split at h
 ·cases h;exact wN _ _ _
 ·cases h
def BA:UZ
 |[.agg [.x (.int .i64 a),.x (.int .i64 b)],.x (.int .i64 lo),.x (.int .i64 hi)]=>some ([],bl (insB lo a b hi))
 |_=>none
theorem x8(a b lo hi:Int):VY VP 204 [.agg [i a,i b],i lo,i hi] (bl (insB lo a b hi)):=by
 refine GW Tryz.func204 (t:=branch (decide (lo<=a)) (branch (decide (a<=b)) (leaf (RV.x (.bool (decide (b<=hi))))) (leaf (RV.x (.bool false)))) (leaf (RV.x (.bool false)))) VU ?_;simp only [VN.sat,UB,UY,GL,UE,UJ];all_goals (simp+contextual [bt,insB,scB,Bool.and_assoc]);all_goals omega
theorem PQ:VQ VP 204 BA:=by
 refine ⟨(UK Tryz.func204),?_⟩;intro avs ns res h hn;unfold BA at h;split at h
 ·cases h;exact x8 _ _ _ _
 ·cases h
theorem mul_bd{x y X Y:Int}(hx: -X<=x/\x<=X)(hy: -Y<=y/\y<=Y): -(X*Y)<=x*y/\x*y<=X*Y:=by
 have h1:x.natAbs<=X.natAbs:=VK;have h2:y.natAbs<=Y.natAbs:=VK;have h3:(x*y).natAbs<=(X*Y).natAbs:=by rw [Int.natAbs_mul,Int.natAbs_mul];exact Nat.mul_le_mul h1 h2
 have h4:0<=X*Y:=Int.mul_nonneg VK VK;omega
abbrev scs(n:Nat)(a b:Nat->Int):AV:= .lst 2 n (λk=>[i (a k),i (b k)])
theorem isRec2(n:Nat)(a b:Nat->Int):UF 2 n (λk=>[i (a k),i (b k)]):=λ_ _=>rfl
def col(j:Nat)(f:Nat->List AV):Nat->Int:=λk=>Wj5 (f k) j
def AJ(p q:Nat->Int)(k:Nat):Bool:=bt 1 (p k) 2000&&(bt 1 (q k) 2000&&(decide (k=0)||(decide (p (k-1)<p k)&&decide (q (k-1)<q k))))
section
variable (n:Nat)
def xS(p q:Nat->Int):Bool:=D7 (AJ p q) n
abbrev QS(p:Nat->Int)(q:Nat->Int):AV:=lst 2 n λk=>[iI (p k),iI (q k)]
def Wz5(p q:Nat->Int):St:={σ:=[QS n p q]++HI 10 [QS n p q,iI (n:Int)]++HI 42 [],m:=[],nx:=10}
noncomputable def Jo6:Code:=U9 (VS (U8 Tryz.f203) 0)
def Wf6(p q:Nat->Int)(k:Nat):St:=(upM [(13,i k)] (Wz5 n p q))
def v6(p q:Nat->Int)(k:Nat):G6->Option St
 | .exit 0=>some (upM [] (Wz5 n p q))
 | .ret=>some (upM [(2,i 1)] (Wz5 n p q))
 |_=>none
def Jj4(p q:Nat->Int):CT:= .branch (xS n p q) (.leaf (.exit 0,(v6 n p q 0 (.exit 0)).getD (Wz5 n p q))) (.leaf (.ret,(v6 n p q 0 .ret).getD (Wz5 n p q)))
def Xt8(p q:Nat->Int):UG:=(HF (Wf6 n p q (0)) (Jj4 n p q))
abbrev JQ(p:Nat->Int)(q:Nat->Int):Prop:=(QS n p q)=QS n p q
theorem Zw7(p q:Nat->Int)(VT:n<=100000):G5 VP (.loop Jo6) (Xt8 n p q):=by
 refine HH (L:=[]) (VL.cons RJ (VL.nil _)) VZ U3 (X:=Nat) (Wf6 n p q) (λk=>k<=n/\ ∀j,j<k->AJ p q j=true) (λk=>n-k) (v6 n p q) (x0:=0) ⟨VK,λj hj=>VK⟩ ?_ ?_ ?_
 ·rintro k;kernel_rfl
 ·rintro k y E h;unfold v6 at h;split at h
  ·cases h;kernel_rfl
  ·cases h;kernel_rfl
  ·cases h
 ·rintro Q hQ k hx;refine ⟨(k+1),?_⟩;(with_reducible refine D6 (t:=let z0:=(need [JQ n p q,U0 (1:Int),JQ n p q,U0 (n:Int)] (leaf G6.ret));let z1:=(need [VM ((k:Int)+1)] (need [JQ n p q,JQ n p q,U0 (n:Int),(k:Int)+1=(↑(k+1):Int)] (leaf G6.normal)));(branch (decide ((k:Int)<(n:Int))) (need [UH k n] (branch (!bt (1:Int) (p k) (2000:Int)) z0 (branch (!bt (1:Int) (q k) (2000:Int)) z0 (branch (decide ((k:Int)>0)) (need [VM ((k:Int)-1)] (need [UH ((k:Int)-1) n] (branch (decide (p k<=p ((k:Int)-1).toNat)) z0 (need [VM ((k:Int)-1)] (need [UH ((k:Int)-1) n] (branch (decide (q k<=q ((k:Int)-1).toNat)) z0 z1)))))) z1)))) (need [JQ n p q,JQ n p q,U0 (n:Int)] (leaf (G6.exit 0))))) VU ?_);simp only [Jj4,v6,VN.sat,GS] at hQ;have Wn3:k<n->AJ p q k=false->xS n p q=false:=by
   intro h1 h2;rw [←Bool.not_eq_true];intro h3;have:=GU.1 h3 k h1;rw [h2] at this;cases this
  have gA:AJ p q k=true-> ∀j,j<k+1->AJ p q j=true:=by
   intro h1 j hj;rcases (show j<k\/j=k by omega) with h|rfl
   ·exact hx.2 j h
   ·exact h1
  have PK: ¬k<n->xS n p q=true:=λh=>GU.2 (λj hj=>hx.2 j VK)
  have hQ1: ∀E,v6 n p q k .ret=some E->xS n p q=false->Q (.ret,E):=by
   intro E hE hf;cases hE;exact hQ.2 hf
  have hQ2: ∀E,v6 n p q k (.exit 0)=some E->xS n p q=true->Q (.exit 0,E):=by
   intro E hE hf;cases hE;exact hQ.1 hf
  have t1:((k:Int)-1).toNat=k-1:=VK;have hsb:AJ p q k=(bt 1 (p k) 2000&&(bt 1 (q k) 2000&&(decide (k=0)||(decide (p (k-1)<p k)&&decide (q (k-1)<q k))))):=rfl
  simp only [VN.sat,UB,UJ,H6,VM,FA,t1]
  with_reducible repeat' first|apply And.intro|intro _
  all_goals first|exact True.intro|omega|exact hQ1 _ (by assumption) (Wn3 VK (by rw [hsb];grind))|exact hQ2 _ (by assumption) (PK VK)|exact gA (by rw [hsb];grind) _ (by assumption)
def tbE(p q:Nat->Int):Int:=if 8<n then 3 else if n<2 then 1 else if xS n p q then 0 else 1
end
def Qd9:UZ
 |[.lst 2 n f]=>some ([UF 2 n f,n<=100000],i (tbE n (col 0 f) (col 1 f)))
 |_=>none
abbrev K8:Value:=Value.int IntKind.i64 (0:Int)
theorem Qx8(n:Nat)(p q:Nat->Int)(VT:n<=100000):VY VP 203 [scs n p q] (i (tbE n p q)):=by
 refine U2 (L:=[Xt8 n p q]) (VL.cons RJ (VL.nil _)) VZ Tryz.func203 (UV Tryz.f203) (G7 (lpE (b:= .loop Jo6) VU<|Zw7 n p q VT)) (t:=let z0:=(leaf (RV.x (.int .i64 (1:Int))));(branch (decide ((n:Int)>8)) (leaf (RV.x (.int .i64 (3:Int)))) (branch (decide ((n:Int)<2)) z0 (need [JQ n p q,JQ n p q,U0 (n:Int),(0:Int)=(↑(0:Nat):Int)] (branch (xS n p q) (leaf (RV.x (K8))) z0))))) VU ?_
 simp only [VN.sat,UB,UY,UE,UJ,H6,tbE,Int.natCast_zero];refine ⟨λh=>?_,λh=>⟨λh2=>?_,λh2=>⟨λh3=>?_,λh3=>?_⟩⟩⟩
 ·simp [show 8<n by omega]
 ·simp [show ¬8<n by omega,show n<2 by omega]
 ·simp [show ¬8<n by omega,show ¬n<2 by omega,h3]
 ·simp [show ¬8<n by omega,show ¬n<2 by omega,h3]
theorem Qx7:VQ VP 203 Qd9:=by
 refine ⟨(UK Tryz.func203),?_⟩;intro avs ns res h hn;unfold Qd9 at h;split at h
 ·rename_i n f;cases h;have hr:UF 2 n f:=hn _ VW;exact (Qx8 n (col 0 f) (col 1 f) (hn _ VW)).same (.cons (.lst 2 n _ _ hr) .nil)
 ·cases h
def RO(n:Nat)(p:Nat->Int)(x:Int):Nat:=GX (λk=>decide (x<=p (k+1))) (n-1)
def dR(p q:Nat->Int)(x:Int)(k:Nat):Int:=q k+((q (k+1)-q k)*(x-p k)).tdiv (p (k+1)-p k)
def boilI(n:Nat)(p q:Nat->Int)(x:Int):Int:=dR p q x (RO n p x)
theorem LO{n:Nat}{p q:Nat->Int}(h:xS n p q=true){k:Nat}(hk:k<n):1<=p k/\p k<=2000/\1<=q k/\q k<=2000/\(k=0\/p (k-1)<p k/\q (k-1)<q k):=by
 have:=GU.1 h k hk;simp only [AJ,bt,H9,Bool.or_eq_true,kC] at this;omega
theorem AI{n:Nat}{p q:Nat->Int}(h:xS n p q=true){j k:Nat}(hjk:j<=k)(hk:k<n):p j<=p k/\q j<=q k:=by
 induction k with
 |zero=>
      have:j=0:=VK;subst this;exact ⟨Int.le_refl _,Int.le_refl _⟩
 |succ k ih=>
  rcases (show j<=k\/j=k+1 by omega) with h1|rfl
  ·have:=ih h1 VK;have h2:=LO h hk;simp only [Nat.add_sub_cancel] at h2;omega
  ·exact ⟨Int.le_refl _,Int.le_refl _⟩
theorem Zc4{n:Nat}{p:Nat->Int}{x:Int}(hn:2<=n)(hx:x<=p (n-1)):RO n p x<n-1:=by
 obtain ⟨h1,h2,h3⟩:=F2 (λk=>decide (x<=p (k+1))) (n-1)
 unfold RO;rcases Nat.lt_or_ge (GX (λk=>decide (x<=p (k+1))) (n-1)) (n-1) with h|h
 ·exact h
 ·have:=h2 (n-2) VK;rw [show n-2+1=n-1 by omega] at this
  simp at this;omega
theorem catF1{k j:Nat}{a:Nat->Int}{x:Int}(h:j<k+1)(hx:x=a k):GI k (λk=>[i (a k)]) (U6 1 [i x]) j=[i (a j)]:=by
 have e:j-k=0:=VK;show HB (decide (j<k)) [i (a j)] (U6 1 [i x] (j-k))=_;rw [e];by_cases hj:j<k
 ·rw [show decide (j<k)=true by simp [hj]]
  rfl
 ·have hk:j=k:=VK;rw [show decide (j<k)=false by simp [hj],hk,hx]
  rfl
theorem Jh9(a b:Nat->Int):col 0 (λk=>[i (a k),i (b k)])=a:=rfl
theorem Jh8(a b:Nat->Int):col 1 (λk=>[i (a k),i (b k)])=b:=rfl
theorem AQ{n:Nat}{p q:Nat->Int}{x:Int}(hn:2<=n)(ht:xS n p q=true)(hx:p 0<=x/\x<=p (n-1)):RO n p x<n-1/\p (RO n p x)<=x/\x<=p (RO n p x+1):=by
 have h1:=Zc4 hn hx.2;obtain ⟨f1,f2,f3⟩:=F2 (λk=>decide (x<=p (k+1))) (n-1)
 have h3:=f3 h1;refine ⟨h1,?_,qK h3⟩;rcases Nat.eq_zero_or_pos (RO n p x) with h|h
 ·rw [h];exact hx.1
 ·have:=f2 (RO n p x-1) (by unfold RO at h ⊢;omega)
  rw [show RO n p x-1+1=RO n p x by omega] at this
  simp at this;omega
theorem dQ{p q:Nat->Int}{x:Int}{k:Nat}(hp:p k<p (k+1))(hq:q k<q (k+1))(h1:p k<=x)(h2:x<=p (k+1)):dR p q x k=q k+(q (k+1)-q k)*(x-p k) / (p (k+1)-p k)/\q k<=dR p q x k/\dR p q x k<=q (k+1):=by
 have m0:0<=(q (k+1)-q k)*(x-p k):=Int.mul_nonneg VK VK;have e:dR p q x k=q k+(q (k+1)-q k)*(x-p k) / (p (k+1)-p k):=by
  unfold dR;rw [Int.tdiv_eq_ediv_of_nonneg m0]
 have m1:(q (k+1)-q k)*(x-p k)<=(q (k+1)-q k)*(p (k+1)-p k):=Int.mul_le_mul_of_nonneg_left VK VK;have d0:0<=(q (k+1)-q k)*(x-p k) / (p (k+1)-p k):=Int.ediv_nonneg m0 VK;have d1:(q (k+1)-q k)*(x-p k) / (p (k+1)-p k)<=q (k+1)-q k:=Int.ediv_le_of_le_mul VK m1;rw [e];omega
theorem Qy9{n:Nat}{p:Nat->Int}{x y:Int}(h:x<=y):RO n p x<=RO n p y:=by
 obtain ⟨f1,f2,f3⟩:=F2 (λk=>decide (x<=p (k+1))) (n-1)
 obtain ⟨g1,g2,g3⟩:=F2 (λk=>decide (y<=p (k+1))) (n-1)
 unfold RO;rcases Nat.lt_or_ge (GX (λk=>decide (y<=p (k+1))) (n-1)) (GX (λk=>decide (x<=p (k+1))) (n-1)) with hl|hl
 ·have a1:=f2 _ hl;have a2:=g3 VK;simp at a1 a2;omega
 ·exact hl
theorem boil_spec{n:Nat}{p q:Nat->Int}{x:Int}(hn:2<=n)(ht:xS n p q=true)(hx:p 0<=x/\x<=p (n-1)):q 0<=boilI n p q x/\boilI n p q x<=q (n-1)/\1<=boilI n p q x/\boilI n p q x<=2000:=by
 obtain ⟨h1,h2,h3⟩:=AQ hn ht hx;have s:=LO ht (show RO n p x+1<n by omega)
 simp only [Nat.add_sub_cancel] at s;have b:=dQ (p:=p) (q:=q) (x:=x) (k:=RO n p x) VK VK h2 h3;have m1:=AI ht (show 0<=RO n p x by omega) (show RO n p x<n by omega)
 have m2:=AI ht (show RO n p x+1<=n-1 by omega) (show n-1<n by omega)
 have z:=LO ht (show 0<n by omega)
 have z2:=LO ht (show n-1<n by omega)
 unfold boilI;omega
theorem boil_mono{n:Nat}{p q:Nat->Int}{x y:Int}(hn:2<=n)(ht:xS n p q=true)(hx:p 0<=x)(hxy:x<=y)(hy:y<=p (n-1)):boilI n p q x<=boilI n p q y:=by
 obtain ⟨h1,h2,h3⟩:=AQ hn ht (x:=x) VK;obtain ⟨g1,g2,g3⟩:=AQ hn ht (x:=y) VK;have s:=LO ht (show RO n p x+1<n by omega)
 have s':=LO ht (show RO n p y+1<n by omega)
 simp only [Nat.add_sub_cancel] at s s';have b:=dQ (p:=p) (q:=q) (x:=x) (k:=RO n p x) VK VK h2 h3;have b':=dQ (p:=p) (q:=q) (x:=y) (k:=RO n p y) VK VK g2 g3;have hm:=Qy9 (n:=n) (p:=p) hxy;unfold boilI;rcases Nat.lt_or_ge (RO n p x) (RO n p y) with hl|hl
 ·have m:=AI ht (show RO n p x+1<=RO n p y by omega) (show RO n p y<n by omega)
  omega
 ·have e:RO n p x=RO n p y:=VK;rw [b.1,b'.1,e];rw [e] at s;have:=Int.ediv_le_ediv (show 0<p (RO n p y+1)-p (RO n p y) by omega) (Int.mul_le_mul_of_nonneg_left (show x-p (RO n p y)<=y-p (RO n p y) by omega) (show 0<=q (RO n p y+1)-q (RO n p y) by omega))
  omega
def aL:UZ
 |[.lst 2 n f]=>some ([],.fn (.func 241) [] [.ro [.lst 2 n f]])
 |_=>none
theorem Qy4(n:Nat)(f:Nat->List AV):FP VP 228 [.lst 2 n f] (.fn (.func 241) [] [.ro [.lst 2 n f]]):=by
 refine D1 (L:=[]) (VL.nil _) (VX.of (VR.nil _) (VO.nil _)) VZ Tryz.func228 (UV Tryz.f228) G8 (t:=leaf (AV.fn (Fn.func 241) [] [AV.ro [lst 2 n λa=>f a]])) VU ?_
 exact rfl
theorem N6:PH VP 228 aL:=by
 refine ⟨(UK Tryz.func228),?_⟩;intro avs ns res h hn;unfold aL at h;split at h
 ·cases h;exact Qy4 _ _
 ·cases h
def stV(p q:Nat->Int)(k:Nat):Value:= .agg #[.int .i64 (p k),.int .i64 (q k)]
def spV(p q:Nat->Int)(k:Nat):List Value:=[stV p q k,stV p q (k+1)]
section
variable (l:Nat)
abbrev KW:AV:=AV.fn (Fn.yield l) [] []
def Wz6(n:Nat)(p q:Nat->Int):St:={σ:=[KW l,AV.ro [QS n p q],top,top,top,top,lst 2 (n-(1:Int).toNat) λi=>[iI (p ((1:Int).toNat+i)),iI (q ((1:Int).toNat+i))],iI (↑(n-(1:Int).toNat):Int)]++HI 14 [],m:=[],nx:=4,gh:=some 0}
noncomputable def Zs0:Code:=U9 (VS (U8 Tryz.f241) 0)
def TL(n:Nat)(p q:Nat->Int)(k:Nat):St:={σ:=H4 [(8,i k)] (Wz6 l n p q).σ,m:=[],nx:=0,gh:=some (k) }
def jG(n:Nat)(p q:Nat->Int)(k:Nat):G6->Option St
 | .exit 0=>some {σ:=H4 [] (Wz6 l n p q).σ,m:=[],nx:=0,gh:=some (n-1) }
 | .ret=>some {σ:=H4 [] (Wz6 l n p q).σ,m:=[],nx:=0,gh:=none}
 |_=>none
def Jj6(n:Nat)(p q:Nat->Int):CT:= .may True (.leaf (.exit 0,(jG l n p q 0 (.exit 0)).getD (Wz6 l n p q))) (.leaf (.ret,(jG l n p q 0 .ret).getD (Wz6 l n p q)))
def Xu0(n:Nat)(p q:Nat->Int):UG:=GK [] (HF (TL l n p q (0)) (Jj6 l n p q))
theorem Zx0(n:Nat)(p q:Nat->Int)(VT:1<=n/\n<=100000){cx:Cx}(hX:VX VP {Y:=some (l,(n-1),(spV p q)) } cx):HJ VP none cx (.loop Zs0) (Xu0 l n p q):=by
 refine FJ [] (L:=[]) (VL.nil _) hX VZ G8 (V:=Nat) (TL l n p q) (λk=>k<=n-1) (λk=>n-k) (jG l n p q) (x0:=0) VW ?_ ?_ ?_
 ·rintro k;kernel_rfl
 ·rintro k y E h;unfold jG at h;split at h
  ·cases h;kernel_rfl
  ·cases h;kernel_rfl
  ·cases h
 ·rintro Q hQ k hx;refine ⟨(k+1),?_⟩;have e:HW VP [] {Y:=some (l,(n-1),(spV p q)) } [] [] Zs0 (TL l n p q k) (TL l n p q ((k+1))) (jG l n p q k)=(let z0:=(U0 (lst 2 (n-(1:Int).toNat) λi=>[iI (p ((1:Int).toNat+i)),iI (q ((1:Int).toNat+i))]));let z1:=(U0 (↑(n-(1:Int).toNat):Int));(branch (decide ((k:Int)<(↑(n-(1:Int).toNat):Int))) (need [UH k (↑(n-(1:Int).toNat):Int)] (need [UH k n] (need [l=l,k<n-1,[Value.agg {toList:=[Value.int IntKind.i64 (p k),Value.int IntKind.i64 (q k)] },Value.agg {toList:=[Value.int IntKind.i64 (p ((1:Int).toNat+k)),Value.int IntKind.i64 (q ((1:Int).toNat+k))] }]=[Value.agg {toList:=[Value.int IntKind.i64 (p k),Value.int IntKind.i64 (q k)] },Value.agg {toList:=[Value.int IntKind.i64 (p (k+1)),Value.int IntKind.i64 (q (k+1))] }]] (VN.may True (need [VM ((k:Int)+1)] (need [KW l=KW l,U0 (AV.ro [QS n p q]),z0,z1,(k:Int)+1=(↑(k+1):Int),k+1=k+1] (leaf G6.normal))) (need [KW l=KW l,U0 (AV.ro [QS n p q]),z0,z1] (leaf G6.ret)))))) (need [KW l=KW l,U0 (AV.ro [QS n p q]),z0,z1,k=n-1] (leaf (G6.exit 0))))):=VU
  rw [e];simp only [Jj6,jG,VN.sat,GS] at hQ;have hQ1: ∀E,jG l n p q k (.exit 0)=some E->Q (.exit 0,E):=λE hE=>by cases hE;exact hQ.1 trivial
  have hQ2: ∀E,jG l n p q k .ret=some E->Q (.ret,E):=λE hE=>by cases hE;exact hQ.2
  have t1:(1:Int).toNat=1:=rfl;have t2:1+k=k+1:=VK;simp only [VN.sat,UB,UJ,H6,VM,FA,t1,t2];clear e hQ;all_goals exact V7
end
section
variable (n:Nat)
theorem mS(p q:Nat->Int)(VT:1<=n/\n<=100000):B8 Tryz.prog 241 [.ro [scs n p q]] ((n-1)) (spV p q):=by
 refine BJ (L:=λl=>[Xu0 l n p q]) (VL.nil _) VZ (UK Tryz.func241) Tryz.func241 (UV Tryz.f241) VU (λl cx hX=>G7 (lpE (b:= .loop Zs0) VU<|Zx0 l n p q VT hX)) (t:=λl=>(need [(0:Int)<=1/\(1:Int)<=(n:Int)/\(n:Int)<=(n:Int)] (need [U0 (AV.fn (Fn.yield l) [] []),U0 (AV.ro [QS n p q]),U0 (lst 2 (n-(1:Int).toNat) λi=>[iI (p ((1:Int).toNat+i)),iI (q ((1:Int).toNat+i))]),U0 (↑(n-(1:Int).toNat):Int),(0:Int)=(↑(0:Nat):Int),0=0] (VN.may True (need [n-1=n-1] (leaf PUnit.unit)) (leaf PUnit.unit))))) (λl=>VU) ?_
 intro l;simp only [VN.sat,UB,UY,GL,UE,VM,UJ,H6,FO];all_goals exact V7
abbrev K1(p:Nat->Int)(q:Nat->Int):AV:=AV.fn (Fn.func 241) [] [AV.ro [QS n p q]]
def sU(p q:Nat->Int)(y:Int):St:={σ:=[QS n p q,iI y,top,ptr 0 0,ptr 1 0,top,top,top,K1 n p q]++HI 25 [],m:=[(1,GO.cells 3 [iI 0]),(0,GO.cells 3 [iI y])],nx:=4}
def rfF:Option Code->Operand
 |some (.rangeFunc f _ _ _)=>f
 |_=> .const .nilFunc
def jD:Option Code->Array Nat
 |some (.rangeFunc _ ps _ _)=>ps
 |_=>#[]
def SM:Option Code->Code
 |some (.rangeFunc _ _ a _)=>a
 |_=> .skip
def SL:Option Code->Code
 |some (.rangeFunc _ _ _ b)=>b
 |_=> .skip
noncomputable def Zs8:Code:=SM (VS (U8 Tryz.f205) 0)
noncomputable def Qs4:Code:=SL (VS (U8 Tryz.f205) 0)
def vF(p q:Nat->Int)(y:Int)(k:Nat):St:=(upM [] (sU n p q y))
def PO(p q:Nat->Int)(y:Int)(k:Nat):G6->Option St
 | .ret=>some (upE [] [(1,.cells 3 [i (boilI n p q y)])] (sU n p q y))
 |_=>none
def Wu8(p q:Nat->Int)(y:Int):CT:= .leaf (.ret,(PO n p q y 0 .ret).getD (sU n p q y))
def mD(p q:Nat->Int)(y:Int):UG:=GK [] (HF (vF n p q y (0)) (Wu8 n p q y))
abbrev YW:Ext:={R:=[(228,aL)],H:=[] }
theorem Ji4(p q:Nat->Int)(y:Int)(VT:2<=n/\n<=100000)(UI:xS n p q=true)(HR: -100000<=y/\y<=p (n-1)):HQ VP (.rangeFunc (rfF (VS (U8 Tryz.f205) 0)) (jD (VS (U8 Tryz.f205) 0)) Zs8 Qs4) (mD n p q y):=by
 refine P9 [] (L:=[]) (VL.nil _) (VX.of (VR.cons N6 (VR.nil _)) (VO.nil _)) VZ U3 (V:=Nat) (vF n p q y) (λk=>k<=n-1/\ ∀j,j<k->decide (y<=p (j+1))=false) (λk=>k) (PO n p q y) (x0:=0) ⟨VK,λj hj=>VK⟩ rfl ?_ ?_ ?_ ?_ (g:=241) (caps:=[.ro [scs n p q]]) VU VU (mS n p q VK) (λ_=>rfl) ?_
 ·rintro k;kernel_rfl
 ·rintro k y E h;unfold PO at h;split at h
  ·cases h;kernel_rfl
  ·cases h
 ·rintro k;rfl
 ·rintro k y E h;unfold PO at h;split at h
  ·cases h;rfl
  ·cases h
 ·rintro Q hQ k hx;refine ⟨λhlt=>⟨(k+1),rfl,?_⟩,λPK=>?_⟩
  ·have e:AS VP [] YW [] [] (jD (VS (U8 Tryz.f205) 0)).toList ((spV p q) (k)) Zs8 Qs4 (vF n p q y k) (vF n p q y ((k+1))) (PO n p q y k)=(branch (decide (y<=p (k+1))) (need [VM (q (k+1)-q k)] (need [VM (y-p k)] (need [VM ((q (k+1)-q k)*(y-p k))] (need [VM (p (k+1)-p k)] (need [p (k+1)-p k≠0,VM (Int.tdiv ((q (k+1)-q k)*(y-p k)) (p (k+1)-p k))] (need [VM (q k+Int.tdiv ((q (k+1)-q k)*(y-p k)) (p (k+1)-p k))] (need [JQ n p q,y=y,U0 (ptr 0 0),U0 (ptr 1 0),U0 (K1 n p q),q k+Int.tdiv ((q (k+1)-q k)*(y-p k)) (p (k+1)-p k)=boilI n p q y] (leaf G6.ret)))))))) (need [JQ n p q,y=y,U0 (ptr 0 0),U0 (ptr 1 0),U0 (K1 n p q),U0 (0:Int),y=y] (leaf G6.normal))):=VU;rw [e];simp only [Wu8,PO,VN.sat,GS] at hQ;have hQ2: ∀E,PO n p q y k .ret=some E->Q (.ret,E):=λE hE=>by cases hE;exact hQ
   simp only [VN.sat,UB,UJ,H6,VM];clear e hQ;have sl:=LO UI (show n-1<n by omega)
   have s0:=LO UI (show k<n by omega)
   have s1:=LO UI (show k+1<n by omega)
   simp only [Nat.add_sub_cancel] at s1;have m:=mul_bd (x:=q (k+1)-q k) (y:=y-p k) (X:=2000) (Y:=200000) VK VK;have dv:(((q (k+1)-q k)*(y-p k)).tdiv (p (k+1)-p k)).natAbs<=((q (k+1)-q k)*(y-p k)).natAbs:=by
    rw [Int.natAbs_tdiv];exact Nat.div_le_self _ _
   refine ⟨λh=>?_,λh=>?_⟩
   ·have hf:RO n p y=k:=zH hlt (by simpa using h) hx.2
    have hbo:boilI n p q y=q k+((q (k+1)-q k)*(y-p k)).tdiv (p (k+1)-p k):=by unfold boilI;rw [hf];rfl
    rw [hbo];all_goals exact V7
   ·refine ⟨VK,λj hj=>?_⟩
    rcases (show j<k\/j=k by omega) with h1|rfl
    ·have:=hx.2 j h1;simpa using this
    ·exact h
  ·exfalso;have:=hx.2 (n-2) VK;rw [show n-2+1=n-1 by omega] at this
   simp at this;omega
theorem Xj7(p q:Nat->Int)(y:Int)(VT:2<=n/\n<=100000)(UI:xS n p q=true)(HR: -100000<=y/\y<=p (n-1)):VY VP 205 [scs n p q,i y] (i (boilI n p q y)):=by
 refine GB (L:=[mD n p q y]) (VL.nil _) (VX.of (VR.cons N6 (VR.nil _)) (VO.nil _)) VZ Tryz.func205 (UV Tryz.f205) (G7 (lpE (b:= .rangeFunc (rfF (VS (U8 Tryz.f205) 0)) (jD (VS (U8 Tryz.f205) 0)) Zs8 Qs4) VU<|Ji4 n p q y VT UI HR)) (t:=need [JQ n p q,y=y,U0 (ptr 0 0),U0 (ptr 1 0),U0 (K1 n p q),U0 (0:Int),y=y] (leaf (RV.x (.int .i64 (boilI n p q y))))) VU ?_
 simp only [VN.sat,UB,UY,GL,UE,VM,UJ];all_goals first|omega|grind
end
def Wv5:UZ
 |[.lst 2 n f,.x (.int .i64 y)]=>some ([UF 2 n f,2<=n/\n<=100000,xS n (col 0 f) (col 1 f)=true,-100000<=y/\y<=col 0 f (n-1)],i (boilI n (col 0 f) (col 1 f) y))
 |_=>none
theorem Xj6:VQ VP 205 Wv5:=by
 refine ⟨(UK Tryz.func205),?_⟩;intro avs ns res h hn;unfold Wv5 at h;split at h
 ·rename_i n f y;cases h;have hr:UF 2 n f:=hn _ VW;exact (Xj7 n (col 0 f) (col 1 f) y (hn _ VW) (hn _ VW) (hn _ VW)).same (.cons (.lst 2 n _ _ hr) (.cons (.refl _) .nil))
 ·cases h
section
variable (n:Nat)(p q:Nat->Int)(lo hi:Int)
def blE:Int:=if tbE n p q=0 then (if insB (p 0) lo hi (p (n-1)) then 0 else 2) else tbE n p q
def blLo:Int:=if blE n p q lo hi=0 then boilI n p q lo else 0
def blHi:Int:=if blE n p q lo hi=0 then boilI n p q hi else 0
end
theorem Qx6{n:Nat}{p q:Nat->Int}(h:tbE n p q=0):2<=n/\n<=8/\xS n p q=true:=by
 unfold tbE at h;split at h
 ·omega
 ·split at h
  ·omega
  ·split at h
   ·rename_i h3;exact ⟨VK,VK,h3⟩
   ·omega
theorem Xa6(n:Nat)(p q:Nat->Int)(lo hi:Int)(VT:n<=100000):VY VP 172 [scs n p q,.agg [i lo,i hi]] (.tup [.agg [i (blLo n p q lo hi),i (blHi n p q lo hi)],i (blE n p q lo hi)]):=by
 refine U2 (L:=[]) (VL.cons Qx7 (VL.cons PQ (VL.cons Xj6 (VL.nil _)))) VZ Tryz.func172 (UV Tryz.f172) U3 (t:=need [UF 2 n λk=>[i (p k),i (q k)],n<=100000] (branch (tbE n p q != 0) (leaf (RV.tup [RV.agg [RV.x (K8),RV.x (K8)],RV.x (.int .i64 (tbE n p q))])) (need [UH 0 n] (need [VM ((n:Int)-1)] (need [UH ((n:Int)-1) n] (branch (!insB (p (0:Int).toNat) lo hi (p ((n:Int)-1).toNat)) (leaf (RV.tup [RV.agg [RV.x (K8),RV.x (K8)],RV.x (.int .i64 (2:Int))])) (need [UF 2 n λk=>[i (p k),i (q k)],2<=n/\n<=100000,xS n p q=true,(-100000:Int)<=lo/\lo<=p (n-1)] (need [UF 2 n λk=>[i (p k),i (q k)],2<=n/\n<=100000,xS n p q=true,(-100000:Int)<=hi/\hi<=p (n-1)] (leaf (RV.tup [RV.agg [RV.x (.int .i64 (boilI n p q lo)),RV.x (.int .i64 (boilI n p q hi))],RV.x (K8)])))))))))) VU ?_
 simp only [VN.sat,UB,UY,GL,UE,UJ,Jh9,Jh8,VM,show (0:Int).toNat=0 from rfl];refine ⟨⟨isRec2 n p q,VT⟩,λh=>?_,λh=>?_⟩
 ·have h':tbE n p q≠0:=by simpa using h
  simp [blLo,blHi,blE,h']
 ·have h':tbE n p q=0:=by simpa using h
  obtain ⟨t1,t2,t3⟩:=Qx6 h';have e1:((n:Int)-1).toNat=n-1:=VK;have s0:=LO t3 (show 0<n by omega)
  simp only [e1];refine ⟨VK,VK,VK,λh2=>?_,λh2=>?_⟩
  ·have h2':insB (p 0) lo hi (p (n-1))=false:=by simpa using h2
   simp [blLo,blHi,blE,h',h2']
  ·have h2':insB (p 0) lo hi (p (n-1))=true:=by simpa using h2
   have b:=(insB_iff _ _ _ _).1 h2';refine ⟨⟨isRec2 n p q,VK,t3,VK⟩,⟨isRec2 n p q,VK,t3,VK⟩,?_⟩;simp [blLo,blHi,blE,h',h2']
def Qf9:UZ
 |[.lst 2 n f,.agg [.x (.int .i64 lo),.x (.int .i64 hi)]]=>some ([UF 2 n f,n<=100000],.tup [.agg [i (blLo n (col 0 f) (col 1 f) lo hi),i (blHi n (col 0 f) (col 1 f) lo hi)],i (blE n (col 0 f) (col 1 f) lo hi)])
 |_=>none
theorem blE_ok{n:Nat}{p q:Nat->Int}{lo hi:Int}(h:blE n p q lo hi=0):2<=n/\n<=8/\xS n p q=true/\p 0<=lo/\lo<=hi/\hi<=p (n-1):=by
 unfold blE at h;split at h
 ·rename_i h1;obtain ⟨t1,t2,t3⟩:=Qx6 h1;split at h
  ·rename_i h2;have:=(insB_iff _ _ _ _).1 h2;exact ⟨t1,t2,t3,this⟩
  ·omega
 ·contradiction
theorem Boils_ok:VQ VP 172 Qf9:=by
 refine ⟨(UK Tryz.func172),?_⟩;intro avs ns res h hn;unfold Qf9 at h;split at h
 ·rename_i n f lo hi;cases h;have hr:UF 2 n f:=hn _ VW;exact (Xa6 n (col 0 f) (col 1 f) lo hi (hn _ VW)).same (.cons (.lst 2 n _ _ hr) (.cons (.refl _) .nil))
 ·cases h
end Go.Proofs.YtlclobclmfhlmaaGreatDoor.Pt
namespace Go.Proofs.YtlclobclmfhlmaaGreatDoor.Bo
open Go Go.Sx Go.RowKit Go.ChangeShapes Go.WideShapes Go.ChangeAt
open Go.Sx.VN (need branch leaf)
open Go.Sx.AV (lst ptr agg roI tup top)
theorem VZ:Tryz.prog.follows .mixedOrders=true:=VU
abbrev i(n:Int):AV:= .x (.int .i64 n)
abbrev iI(n:Int):AV:= .x (.int .i64 n)
abbrev bl(b:Bool):AV:= .x (.bool b)
def bt(lo n hi:Int):Bool:=decide (lo<=n)&&decide (n<=hi)
theorem bt_iff(lo n hi:Int):bt lo n hi=true↔lo<=n/\n<=hi:=by simp [bt]
def insB(lo a b hi:Int):Bool:=decide (lo<=a)&&decide (a<=b)&&decide (b<=hi)
theorem insB_iff(lo a b hi:Int):insB lo a b hi=true↔lo<=a/\a<=b/\b<=hi:=by simp [insB,and_assoc]
def BY(c T lo hi:Int):Bool:=bt 1 c 10&&insB 1 lo hi 200&&bt 1 T 2000&&bt (c*lo) T (c*hi)
def rdB(c a b u v:Int):Bool:=bt 0 a (c-1)&&bt a b c&&insB 0 u v 2000
def B9:UZ
 |[.x (.int .i64 n),.x (.int .i64 lo),.x (.int .i64 hi)]=>some ([],bl (bt lo n hi))
 |_=>none
abbrev YG:Value:=Value.bool false
theorem wN(n lo hi:Int):VY VP 206 [i n,i lo,i hi] (bl (bt lo n hi)):=by
 refine GW Tryz.func206 (t:=branch (decide (lo<=n)) (leaf (RV.x (.bool (decide (n<=hi))))) (leaf (RV.x (YG)))) VU ?_;simp only [VN.sat,UB,UY,GL,UE,UJ];all_goals (simp+contextual [bt,insB,Bool.and_assoc]);all_goals omega
theorem RJ:VQ VP 206 B9:=by
 refine ⟨(UK Tryz.func206),?_⟩;intro avs ns res h hn;unfold B9 at h;split at h
 ·cases h;exact wN _ _ _
 ·cases h
def BA:UZ
 |[.agg [.x (.int .i64 a),.x (.int .i64 b)],.x (.int .i64 lo),.x (.int .i64 hi)]=>some ([],bl (insB lo a b hi))
 |_=>none
theorem x8(a b lo hi:Int):VY VP 207 [.agg [i a,i b],i lo,i hi] (bl (insB lo a b hi)):=by
 refine GW Tryz.func207 (t:=branch (decide (lo<=a)) (branch (decide (a<=b)) (leaf (RV.x (.bool (decide (b<=hi))))) (leaf (RV.x (YG)))) (leaf (RV.x (YG)))) VU ?_;simp only [VN.sat,UB,UY,GL,UE,UJ];all_goals (simp+contextual [bt,insB,Bool.and_assoc]);all_goals omega
theorem PQ:VQ VP 207 BA:=by
 refine ⟨(UK Tryz.func207),?_⟩;intro avs ns res h hn;unfold BA at h;split at h
 ·cases h;exact x8 _ _ _ _
 ·cases h
theorem mul_bd{x y X Y:Int}(hx: -X<=x/\x<=X)(hy: -Y<=y/\y<=Y): -(X*Y)<=x*y/\x*y<=X*Y:=by
 have h1:=Int.mul_nonneg (show 0<=X-x by omega) (show 0<=Y-y by omega)
 have h2:=Int.mul_nonneg (show 0<=X+x by omega) (show 0<=Y+y by omega)
 have h3:=Int.mul_nonneg (show 0<=X-x by omega) (show 0<=Y+y by omega)
 have h4:=Int.mul_nonneg (show 0<=X+x by omega) (show 0<=Y-y by omega)
 rw [Int.sub_mul,Int.mul_sub,Int.mul_sub] at h1;rw [Int.add_mul,Int.mul_add,Int.mul_add] at h2;rw [Int.sub_mul,Int.mul_add,Int.mul_add] at h3;rw [Int.add_mul,Int.mul_sub,Int.mul_sub] at h4;omega
def rA:UZ
 |[.agg [.x (.int .i64 c),.x (.int .i64 T),.x (.int .i64 lo),.x (.int .i64 hi)]]=>some ([],i (if BY c T lo hi then 0 else 1))
 |_=>none
abbrev JU:Value:=Value.int IntKind.i64 (0:Int)
abbrev YC:Value:=Value.int IntKind.i64 (1:Int)
theorem aY(c T lo hi:Int):VY VP 173 [.agg [i c,i T,i lo,i hi]] (i (if BY c T lo hi then 0 else 1)):=by
 refine U2 (L:=[]) (VL.cons RJ (VL.cons PQ (VL.nil _))) VZ Tryz.func173 (UV Tryz.f173) U3 (t:=branch (!bt (1:Int) c (10:Int)) (leaf (RV.x (YC))) (branch (!insB (1:Int) lo hi (200:Int)) (leaf (RV.x (YC))) (branch (!bt (1:Int) T (2000:Int)) (leaf (RV.x (YC))) (need [VM (c*lo)] (need [VM (c*hi)] (branch (!bt (c*lo) T (c*hi)) (leaf (RV.x (YC))) (leaf (RV.x (JU))))))))) VU ?_;simp only [VN.sat,UB,UY,UE,UJ,VM,BY];rcases Bool.eq_false_or_eq_true (bt 1 c 10) with h1|h1
 rotate_left
 ·simp [h1]
 rcases Bool.eq_false_or_eq_true (insB 1 lo hi 200) with h2|h2
 rotate_left
 ·simp [h1,h2]
 rcases Bool.eq_false_or_eq_true (bt 1 T 2000) with h3|h3
 rotate_left
 ·simp [h1,h2,h3]
 have e1:=(bt_iff _ _ _).1 h1;have e2:=(insB_iff _ _ _ _).1 h2;have m1:=mul_bd (x:=c) (y:=lo) (X:=10) (Y:=200) VK VK;have m2:=mul_bd (x:=c) (y:=hi) (X:=10) (Y:=200) VK VK;rcases Bool.eq_false_or_eq_true (bt (c*lo) T (c*hi)) with h4|h4<;>simp [h1,h2,h3,h4]<;>omega
theorem CheckTube_ok:VQ VP 173 rA:=by
 refine ⟨(UK Tryz.func173),?_⟩;intro avs ns res h hn;unfold rA at h;split at h
 ·cases h;exact aY _ _ _ _
 ·cases h
def OU:UZ
 |[.agg [.x (.int .i64 c),.x (.int .i64 T),.x (.int .i64 lo),.x (.int .i64 hi)],.agg [.x (.int .i64 a),.x (.int .i64 b),.x (.int .i64 u),.x (.int .i64 v)]]=>some ([1<=c/\c<=10],bl (rdB c a b u v))
 |_=>none
theorem nE(c T lo hi a b u v:Int)(VT:1<=c/\c<=10):VY VP 229 [.agg [i c,i T,i lo,i hi],.agg [i a,i b,i u,i v]] (bl (rdB c a b u v)):=by
 refine U2 (L:=[]) (VL.cons RJ (VL.cons PQ (VL.nil _))) VZ Tryz.func229 (UV Tryz.f229) U3 (t:=need [VM (c-1)] (branch (bt (0:Int) a (c-1)) (branch (bt a b c) (leaf (RV.x (.bool (insB (0:Int) u v (2000:Int))))) (leaf (RV.x (YG)))) (leaf (RV.x (YG))))) VU ?_;simp only [VN.sat,UB,UY,UE,UJ,VM,rdB];refine ⟨VK,?_⟩;cases h1:bt 0 a (c-1)<;>cases h2:bt a b c<;>cases h3:insB 0 u v 2000<;>simp
theorem nD:VQ VP 229 OU:=by
 refine ⟨(UK Tryz.func229),?_⟩;intro avs ns res h hn;unfold OU at h;split at h
 ·cases h;exact nE _ _ _ _ _ _ _ _ (hn _ VW)
 ·cases h
end Go.Proofs.YtlclobclmfhlmaaGreatDoor.Bo
namespace Go.Proofs.YtlclobclmfhlmaaGreatDoor.Bo
open Go Go.Sx Go.RowKit
open Go.Sx.VN (need branch leaf)
open Go.Sx.AV (lst ptr agg roI tup top)
theorem Xc4(a b:Int):VY VP 83 [.lst 1 2 (λk=>[i (if k=0 then a else b)])] (i (min a b)):=by
 refine U2 (L:=[λs=>some (xR Tryz.prog [] [] (U9 (VS (U8 Tryz.f83) 0)) 3 s)]) (VL.nil _) VZ Tryz.func83 (UV Tryz.f83) (G7 (lpE (b:= .loop (U9 (VS (U8 Tryz.f83) 0))) VU<|L8 (VL.nil _) VZ U3 _)) (t:=let z0:=(min (if (0:Int).toNat=0 then a else b) (if (1:Int).toNat=0 then a else b));(branch (decide ((↑(2:Nat):Int)<1)) VN.fail (need [UH 0 2] (branch (decide ((1:Int)<(↑(2:Nat):Int))) (need [UH 1 2] (need [VM ((1:Int)+1)] (branch (decide ((1:Int)+1<(↑(2:Nat):Int))) (need [(0:Int)<=1+1/\(1:Int)+1<(↑(2:Nat):Int)] (need [VM ((1:Int)+1+1)] (branch (decide ((1:Int)+1+1<(↑(2:Nat):Int))) (need [(0:Int)<=1+1+1/\(1:Int)+1+1<(↑(2:Nat):Int)] (need [VM ((1:Int)+1+1+1)] VN.fail)) (leaf (RV.x (.int .i64 (min z0 (if ((1:Int)+1).toNat=0 then a else b)))))))) (leaf (RV.x (.int .i64 z0)))))) (leaf (RV.x (.int .i64 (if (0:Int).toNat=0 then a else b)))))))) VU ?_
 simp [VN.sat,UB,UY,GL,UE,VM]
theorem Xc5(a b:Int):VY VP 84 [.lst 1 2 (λk=>[i (if k=0 then a else b)])] (i (max a b)):=by
 refine U2 (L:=[λs=>some (xR Tryz.prog [] [] (U9 (VS (U8 Tryz.f84) 0)) 3 s)]) (VL.nil _) VZ Tryz.func84 (UV Tryz.f84) (G7 (lpE (b:= .loop (U9 (VS (U8 Tryz.f84) 0))) VU<|L8 (VL.nil _) VZ U3 _)) (t:=let z0:=(max (if (0:Int).toNat=0 then a else b) (if (1:Int).toNat=0 then a else b));(branch (decide ((↑(2:Nat):Int)<1)) VN.fail (need [UH 0 2] (branch (decide ((1:Int)<(↑(2:Nat):Int))) (need [UH 1 2] (need [VM ((1:Int)+1)] (branch (decide ((1:Int)+1<(↑(2:Nat):Int))) (need [(0:Int)<=1+1/\(1:Int)+1<(↑(2:Nat):Int)] (need [VM ((1:Int)+1+1)] (branch (decide ((1:Int)+1+1<(↑(2:Nat):Int))) (need [(0:Int)<=1+1+1/\(1:Int)+1+1<(↑(2:Nat):Int)] (need [VM ((1:Int)+1+1+1)] VN.fail)) (leaf (RV.x (.int .i64 (max z0 (if ((1:Int)+1).toNat=0 then a else b)))))))) (leaf (RV.x (.int .i64 z0)))))) (leaf (RV.x (.int .i64 (if (0:Int).toNat=0 then a else b)))))))) VU ?_
 simp [VN.sat,UB,UY,GL,UE,VM]
def kD:UZ
 |[.lst 1 2 f]=>(match f 0,f 1 with
  |[.x (.int .i64 a)],[.x (.int .i64 b)]=>some ([],i (min a b))
  |_,_=>none)
 |_=>none
theorem SJ:VQ VP 83 kD:=by
 refine ⟨(UK Tryz.func83),?_⟩;intro avs ns res h hn;unfold kD at h;split at h
 ·rename_i f;split at h
  ·rename_i a b h0 h1;cases h;refine (Xc4 a b).same (.cons (.lst 1 2 _ _ ?_) .nil);intro k hk;rcases (show k=0\/k=1 by omega) with rfl|rfl
   ·exact h0
   ·exact h1
  ·cases h
 ·cases h
def dT:UZ
 |[.lst 1 2 f]=>(match f 0,f 1 with
  |[.x (.int .i64 a)],[.x (.int .i64 b)]=>some ([],i (max a b))
  |_,_=>none)
 |_=>none
theorem tB:VQ VP 84 dT:=by
 refine ⟨(UK Tryz.func84),?_⟩;intro avs ns res h hn;unfold dT at h;split at h
 ·rename_i f;split at h
  ·rename_i a b h0 h1;cases h;refine (Xc5 a b).same (.cons (.lst 1 2 _ _ ?_) .nil);intro k hk;rcases (show k=0\/k=1 by omega) with rfl|rfl
   ·exact h0
   ·exact h1
  ·cases h
 ·cases h
theorem We1(a b:Int):VY VP 244 [.lst 1 2 (λk=>[i (if k=0 then a else b)])] (i (min a b)):=by
 refine U2 (L:=[]) (VL.cons SJ (VL.nil _)) VZ Tryz.func244 (UV Tryz.f244) U3 (t:=leaf (RV.x (.int .i64 (min (if 0=0 then a else b) (if 1=0 then a else b))))) VU ?_
 simp [VN.sat,UY,UE]
def A4:UZ:=kD
theorem LS:VQ VP 244 A4:=by
 refine ⟨(UK Tryz.func244),?_⟩;intro avs ns res h hn;unfold A4 kD at h;split at h
 ·rename_i f;split at h
  ·rename_i a b h0 h1;cases h;refine (We1 a b).same (.cons (.lst 1 2 _ _ ?_) .nil);intro k hk;rcases (show k=0\/k=1 by omega) with rfl|rfl
   ·exact h0
   ·exact h1
  ·cases h
 ·cases h
theorem iJ(a b:Int):VY VP 239 [.lst 1 2 (λk=>[i (if k=0 then a else b)])] (i (max a b)):=by
 refine U2 (L:=[]) (VL.cons tB (VL.nil _)) VZ Tryz.func239 (UV Tryz.f239) U3 (t:=leaf (RV.x (.int .i64 (max (if 0=0 then a else b) (if 1=0 then a else b))))) VU ?_
 simp [VN.sat,UY,UE]
def M0:UZ:=dT
theorem fQ:VQ VP 239 M0:=by
 refine ⟨(UK Tryz.func239),?_⟩;intro avs ns res h hn;unfold M0 dT at h;split at h
 ·rename_i f;split at h
  ·rename_i a b h0 h1;cases h;refine (iJ a b).same (.cons (.lst 1 2 _ _ ?_) .nil);intro k hk;rcases (show k=0\/k=1 by omega) with rfl|rfl
   ·exact h0
   ·exact h1
  ·cases h
 ·cases h
noncomputable def Qh7:HZ:=rN Tryz.prog [(244,A4)] {} [] Tryz.f231 (U8 Tryz.f231)
abbrev J9:List (Nat×UZ):=[(244,A4)]
theorem LI:GC VP 231 Qh7:=
 RL (G:=J9) (X:={}) (L:=[]) (VL.cons LS (VL.nil _)) (VX.of (VR.nil _) (VO.nil _)) VZ (UK Tryz.func231) Tryz.func231 (UV Tryz.f231) U3
def UD(c T lo hi:Int)(M:Nat->Nat->Int)(k:Nat):Int:=if k=0 then c else if k=1 then T else if k=2 then lo else if k=3 then hi else M ((k-4) / 11) ((k-4)%11)
section
variable (M:Nat->Nat->Int)(a b:Nat)(v:Int)
def wT:Nat->Nat->Int:=λx y=>if x=a/\y=b then v else M x y
def bnd:Nat->Nat->Int:=wT M a b (min (M a b) v)
end
def ini(c:Nat)(k j:Nat):Nat->Nat->Int:=λx y=>if ((x<k/\y<=c)\/(x=k/\y<j))/\x≠y then 2000 else 0
theorem Qy7(c T lo hi:Int)(cc:Nat): ∀k,UA (c::T::lo::hi::List.replicate 121 0) k=UD c T lo hi (ini cc 0 0) k:=by
 intro k;rcases k with _|_|_|_|k
 ·rfl
 ·rfl
 ·rfl
 ·rfl
 ·have h:UA (c::T::lo::hi::List.replicate 121 0) (k+4)=UA (List.replicate 121 0) k:=rfl;rw [h,gM (by decide)]
  simp [UD,ini]
theorem GJ(q:Nat)(v:Int)(f:Nat->Int):zZ q [v] f=UT q v f:=rfl
section
variable (c T lo hi:Int)
theorem BZ(M:Nat->Nat->Int){a b q:Nat}(hq:q=4+a*11+b)(hb:b<11):UD c T lo hi M q=M a b:=by
 unfold UD;rw [if_neg VK,if_neg VK,if_neg VK,if_neg VK,show (q-4) / 11=a by omega,show (q-4)%11=b by omega]
theorem yS{M M':Nat->Nat->Int}(h: ∀x y,x<11->y<11->M x y=M' x y){k:Nat}(hk:k<125):UD c T lo hi M k=UD c T lo hi M' k:=by
 unfold UD;split
 ·rfl
 split
 ·rfl
 split
 ·rfl
 split
 ·rfl
 exact h _ _ VK VK
theorem bW(M:Nat->Nat->Int){a b q:Nat}(hq:q=4+a*11+b)(hb:b<11)(v:Int)(k:Nat):UT q v (UD c T lo hi M) k=UD c T lo hi (wT M a b v) k:=by
 unfold UT;by_cases hk:k=q
 ·rw [if_pos hk,BZ _ _ _ _ _ (hk.trans hq) hb];simp [wT]
 ·rw [if_neg hk];unfold UD;by_cases h0:k=0
  ·rw [if_pos h0,if_pos h0]
  by_cases h1:k=1
  ·rw [if_neg h0,if_neg h0,if_pos h1,if_pos h1]
  by_cases h2:k=2
  ·rw [if_neg h0,if_neg h0,if_neg h1,if_neg h1,if_pos h2,if_pos h2]
  by_cases h3:k=3
  ·rw [if_neg h0,if_neg h0,if_neg h1,if_neg h1,if_neg h2,if_neg h2,if_pos h3,if_pos h3]
  rw [if_neg h0,if_neg h0,if_neg h1,if_neg h1,if_neg h2,if_neg h2,if_neg h3,if_neg h3];unfold wT;rw [if_neg VK]
end
theorem Wj7(c k j:Nat)(hj:j<=c)(h:k≠j)(x y:Nat):wT (ini c k j) k j 2000 x y=ini c k (j+1) x y:=by
 unfold wT ini;split
 ·rename_i hxy;rw [if_pos ⟨.inr VK,VK⟩]
 ·rename_i hxy;by_cases h1:((x<k/\y<=c)\/(x=k/\y<j))/\x≠y
  ·rw [if_pos h1,if_pos VK]
  ·rw [if_neg h1,if_neg VK]
theorem Wj8(c k:Nat)(x y:Nat):ini c k k x y=ini c k (k+1) x y:=by
 unfold ini;by_cases h1:((x<k/\y<=c)\/(x=k/\y<k))/\x≠y
 ·rw [if_pos h1,if_pos VK]
 ·rw [if_neg h1,if_neg VK]
theorem Xf5(c k:Nat)(x y:Nat):ini c k (c+1) x y=ini c (k+1) 0 x y:=by
 unfold ini;by_cases h1:((x<k/\y<=c)\/(x=k/\y<c+1))/\x≠y
 ·rw [if_pos h1,if_pos VK]
 ·rw [if_neg h1,if_neg VK]
abbrev rds(n:Nat)(a b u v:Nat->Int):AV:= .lst 4 n (λk=>[i (a k),i (b k),i (u k),i (v k)])
abbrev QV:AV:=AV.x (.pointer none)
abbrev XC(n:Nat)(a:Nat->Int)(b:Nat->Int)(u:Nat->Int)(v:Nat->Int):AV:=lst 4 n λk=>[iI (a k),iI (b k),iI (u k),iI (v k)]
section
variable (c:Nat)(T lo hi:Int)(n:Nat)(a b u v:Nat->Int)
def Zp5:St:={σ:=[agg [iI (c:Int),iI T,iI lo,iI hi],XC n a b u v,ptr 0 0,top,QV,AV.lit false,ptr 5 0]++HI 15 [iI ((c:Int)+1)]++HI 155 [],m:=[(5,GO.ints 343 [] 125 λa=>UA ([(c:Int),T,lo,hi]++b9 121) a),(0,GO.cells 122 [iI (c:Int),iI T,iI lo,iI hi])],nx:=11}
noncomputable def Zs2:Code:=U9 (VS (U8 Tryz.f209) 0)
def Wg5(k:Nat):St:=(upE [(23,i k)] [(5,.ints 343 [] 125 (UD c T lo hi (ini c k 0))),(0,.cells 122 [i c,i T,i lo,i hi])] (Zp5 c T lo hi n a b u v))
def CC(k:Nat):G6->Option St
 | .exit 0=>some (upE [(23,i ((c:Int)+1))] [(5,.ints 343 [] 125 (UD c T lo hi (ini c (c+1) 0))),(0,.cells 122 [i c,i T,i lo,i hi])] (Zp5 c T lo hi n a b u v))
 |_=>none
def Jk4:CT:= .leaf (.exit 0,(CC c T lo hi n a b u v 0 (.exit 0)).getD (Zp5 c T lo hi n a b u v))
def Xu8:UG:=GK [] (HF (Wg5 c T lo hi n a b u v (0)) (Jk4 c T lo hi n a b u v))
def Zp4(k:Nat):St:={σ:=[agg [iI (c:Int),iI T,iI lo,iI hi],XC n a b u v,ptr 0 0,top,QV,AV.lit false,ptr 5 0,iI (k:Int)]++HI 14 [iI ((c:Int)+1),iI (k:Int),top,top,top,top,iI ((c:Int)+1)]++HI 149 [],m:=[(5,GO.ints 343 [] 125 λk_1=>UD (c:Int) T lo hi (ini c k 0) k_1),(0,GO.cells 122 [iI (c:Int),iI T,iI lo,iI hi])],nx:=18}
noncomputable def Jp3:Code:=(U9 (VS (U9 (VS (U8 Tryz.f209) 0)) 0))
def Wg4(k:Nat)(j:Nat):St:=(upE [(29,i j)] [(5,.ints 343 [] 125 (UD c T lo hi (ini c k j))),(0,.cells 122 [i c,i T,i lo,i hi])] (Zp4 c T lo hi n a b u v k))
def CB(k:Nat)(j:Nat):G6->Option St
 | .exit 2=>some (upE [(29,i ((c:Int)+1))] [(5,.ints 343 [] 125 (UD c T lo hi (ini c k (c+1)))),(0,.cells 122 [i c,i T,i lo,i hi])] (Zp4 c T lo hi n a b u v k))
 |_=>none
def Jk3(k:Nat):CT:= .leaf (.exit 2,(CB c T lo hi n a b u v k 0 (.exit 2)).getD (Zp4 c T lo hi n a b u v k))
def Xu7(k:Nat):UG:=GK [] (HF (Wg4 c T lo hi n a b u v k (0)) (Jk3 c T lo hi n a b u v k))
end
abbrev Q4(n:Nat)(a:Nat->Int)(b:Nat->Int)(u:Nat->Int)(v:Nat->Int):Prop:=(XC n a b u v)=lst 4 n λk=>[iI (a k),iI (b k),iI (u k),iI (v k)]
abbrev X6:Prop:=AV.lit false=AV.lit false
noncomputable abbrev XN:Ext:={R:=[],H:=[(231,Qh7)] }
abbrev XP:Prop:=ptr 0 0=ptr 0 0
abbrev XZ:Prop:=ptr 5 0=ptr 5 0
section
variable (c:Nat)(T lo hi:Int)(n:Nat)(a b u v:Nat->Int)
theorem Zz8(k:Nat)(VT:1<=c/\c<=10)(UI:1<=lo/\lo<=hi/\hi<=200/\1<=T/\T<=2000)(HR:k<=c):G5 VP (.loop Jp3) (Xu7 c T lo hi n a b u v k):=by
 refine US [] (L:=[]) (VL.cons LS (VL.nil _)) (VX.of (VR.nil _) (VO.cons LI (VO.nil _))) VZ U3 (X:=Nat) (Wg4 c T lo hi n a b u v k) (λj=>j<=c+1) (λj=>c+1-j) (CB c T lo hi n a b u v k) (x0:=0) VW ?_ ?_ ?_
 ·rintro j;kernel_rfl
 ·rintro j y E h;unfold CB at h;split at h
  ·cases h;kernel_rfl
  ·cases h
 ·rintro Q hQ j hx;refine ⟨(j+1),?_⟩;(with_reducible refine D6 (t:=let z0:=(U0 ((c:Int)+1));let z1:=(U0 (agg [iI (c:Int),iI T,iI lo,iI hi]));(branch (decide ((j:Int)<(c:Int)+1)) (branch ((k:Int) != (j:Int)) (need [UH k 11] (need [UH j 11] (need [j*1+(k*11+4)+1<=125] (need [VM ((j:Int)+1)] (need [z1,Q4 n a b u v,XP,QV=QV,X6,XZ,U0 (k:Int),z0,U0 (k:Int),z0,(j:Int)+1=(↑(j+1):Int),125=125,GV 125 (UT (j*1+(k*11+4)) (2000:Int) (UD (c:Int) T lo hi (ini c k j))) (UD (c:Int) T lo hi (ini c k (j+1))),U0 (c:Int),T=T,lo=lo,hi=hi] (leaf G6.normal)))))) (need [VM ((j:Int)+1)] (need [z1,Q4 n a b u v,XP,QV=QV,X6,XZ,U0 (k:Int),z0,U0 (k:Int),z0,(j:Int)+1=(↑(j+1):Int),125=125,GV 125 (UD (c:Int) T lo hi (ini c k j)) (UD (c:Int) T lo hi (ini c k (j+1))),U0 (c:Int),T=T,lo=lo,hi=hi] (leaf G6.normal)))) (need [z1,Q4 n a b u v,XP,QV=QV,X6,XZ,U0 (k:Int),z0,U0 (k:Int),z0,(j:Int)=(c:Int)+1,125=125,GV 125 (UD (c:Int) T lo hi (ini c k j)) (UD (c:Int) T lo hi (ini c k (c+1))),U0 (c:Int),T=T,lo=lo,hi=hi] (leaf (G6.exit 2))))) VU ?_);simp only [Jk3,CB,VN.sat,GS] at hQ;simp only [VN.sat,UB,UY,GL,UE,VM,UJ,H6,FO,FT,RH,GJ,CB]
  refine ⟨λh=>⟨λhne=>?_,λheq=>?_⟩,λh=>?_⟩
  ·(with_reducible repeat' first|apply And.intro|intro _)
   all_goals first|exact P6|(exact (bW c T lo hi _ VK VK _ _).trans (yS c T lo hi (λx y _ _=>Wj7 c k j VK VK x y) (by assumption)))
  ·obtain rfl:k=j:=VK
   (with_reducible repeat' first|apply And.intro|intro _)
   all_goals first|exact P6|(exact yS c T lo hi (λx y _ _=>Wj8 c k x y) (by assumption))
  ·obtain rfl:j=c+1:=VK
   (with_reducible repeat' first|apply And.intro|intro _)
   all_goals first|exact True.intro|omega|with_reducible rfl|(rename_i E hE;cases hE;exact hQ)|rfl
theorem Zz9(VT:1<=c/\c<=10)(UI:1<=lo/\lo<=hi/\hi<=200/\1<=T/\T<=2000):G5 VP (.loop Zs2) (Xu8 c T lo hi n a b u v):=by
 refine US [] (L:=[B6 7 (λk=>FR [k<=c] (Xu7 c T lo hi n a b u v k))]) (VL.cons LS (VL.nil _)) (VX.of (VR.nil _) (VO.cons LI (VO.nil _))) VZ (G7 (λcj hcj=>by
  have e:VS Zs2 0=some (.loop Jp3):=VU;rw [e] at hcj;cases hcj;exact L2 (λk=>D2 (λh=>Zz8 c T lo hi n a b u v k VT UI h)))) (X:=Nat) (Wg5 c T lo hi n a b u v) (λk=>k<=c+1) (λk=>c+1-k) (CC c T lo hi n a b u v) (x0:=0) VW ?_ ?_ ?_
 ·rintro k;kernel_rfl
 ·rintro k y E h;unfold CC at h;split at h
  ·cases h;kernel_rfl
  ·cases h
 ·rintro Q hQ k hx;refine ⟨(k+1),?_⟩;(with_reducible refine D6 (t:=let z0:=(U0 (agg [iI (c:Int),iI T,iI lo,iI hi]));let z1:=(U0 ((c:Int)+1));(branch (decide ((k:Int)<(c:Int)+1)) (need [VM ((c:Int)+1)] (need [k<=c] (need [z0,Q4 n a b u v,XP,QV=QV,X6,XZ,U0 (k:Int),z1,U0 (k:Int),z1,(0:Int)=(↑(0:Nat):Int),125=125,GQ 125 (UD (c:Int) T lo hi (ini c k 0)),U0 (c:Int),T=T,lo=lo,hi=hi] (need [VM ((k:Int)+1)] (need [z0,Q4 n a b u v,XP,QV=QV,X6,XZ,z1,(k:Int)+1=(↑(k+1):Int),125=125,GV 125 (UD (c:Int) T lo hi (ini c k (c+1))) (UD (c:Int) T lo hi (ini c (k+1) 0)),U0 (c:Int),T=T,lo=lo,hi=hi] (leaf G6.normal)))))) (need [z0,Q4 n a b u v,XP,QV=QV,X6,XZ,z1,(k:Int)=(c:Int)+1,125=125,GV 125 (UD (c:Int) T lo hi (ini c k 0)) (UD (c:Int) T lo hi (ini c (c+1) 0)),U0 (c:Int),T=T,lo=lo,hi=hi] (leaf (G6.exit 0))))) VU ?_);simp only [Jk4,CC,VN.sat,GS] at hQ;simp only [VN.sat,UB,UY,GL,UE,VM,UJ,H6,FO,FT,RH,GJ,CC]
  refine ⟨λh=>?_,λh=>?_⟩
  ·(with_reducible repeat' first|apply And.intro|intro _)
   all_goals first|exact P6|(exact yS c T lo hi (λx y _ _=>Xf5 c k x y) (by assumption))
  ·obtain rfl:k=c+1:=VK
   (with_reducible repeat' first|apply And.intro|intro _)
   all_goals first|exact True.intro|omega|with_reducible rfl|(rename_i E hE;cases hE;exact hQ)|rfl
end
def cel(c:Nat)(lo hi:Int):Nat->Nat->Nat->Int
 | 0=>ini c (c+1) 0
 |k+1=>bnd (bnd (cel c lo hi k) k (k+1) hi) (k+1) k (-lo)
theorem zO{c T lo hi:Int}{M:Nat->Nat->Int}{a b q:Nat}{v:Int}(hq:q=4+a*11+b)(hb:b<11):UT q (min (UD c T lo hi M q) v) (UD c T lo hi M)=UD c T lo hi (bnd M a b v):=by
 funext k;rw [bW c T lo hi M hq hb,BZ c T lo hi M hq hb];rfl
section
variable (c:Nat)(T lo hi:Int)(n:Nat)(a b u v:Nat->Int)
def Zp3:St:={σ:=[agg [iI (c:Int),iI T,iI lo,iI hi],XC n a b u v,ptr 0 0,top,QV,AV.lit false,ptr 5 0]++HI 15 [iI ((c:Int)+1),iI ((c:Int)+1)]++HI 21 [iI (c:Int)]++HI 132 [],m:=[(5,GO.ints 343 [] 125 λk=>UD (c:Int) T lo hi (ini c (c+1) 0) k),(0,GO.cells 122 [iI (c:Int),iI T,iI lo,iI hi])],nx:=14}
noncomputable def Jp2:Code:=U9 (VS (U8 Tryz.f209) 1)
def Wg3(k:Nat):St:=(upE [(46,i k)] [(5,.ints 343 [] 125 (UD c T lo hi (cel c lo hi k))),(0,.cells 122 [i c,i T,i lo,i hi])] (Zp3 c T lo hi n a b u v))
def CA(k:Nat):G6->Option St
 | .exit 4=>some (upE [(46,i c)] [(5,.ints 343 [] 125 (UD c T lo hi (cel c lo hi c))),(0,.cells 122 [i c,i T,i lo,i hi])] (Zp3 c T lo hi n a b u v))
 |_=>none
def Jk2:CT:= .leaf (.exit 4,(CA c T lo hi n a b u v 0 (.exit 4)).getD (Zp3 c T lo hi n a b u v))
def Xu6:UG:=GK [] (HF (Wg3 c T lo hi n a b u v (0)) (Jk2 c T lo hi n a b u v))
theorem Zz7(VT:1<=c/\c<=10)(UI:1<=lo/\lo<=hi/\hi<=200/\1<=T/\T<=2000):G5 VP (.loop Jp2) (Xu6 c T lo hi n a b u v):=by
 refine US [] (L:=[]) (VL.cons LS (VL.nil _)) (VX.of (VR.nil _) (VO.cons LI (VO.nil _))) VZ U3 (X:=Nat) (Wg3 c T lo hi n a b u v) (λk=>k<=c) (λk=>c-k) (CA c T lo hi n a b u v) (x0:=0) VW ?_ ?_ ?_
 ·rintro k;kernel_rfl
 ·rintro k y E h;unfold CA at h;split at h
  ·cases h;kernel_rfl
  ·cases h
 ·rintro Q hQ k hx;refine ⟨(k+1),?_⟩;(with_reducible refine D6 (t:=let z0:=(UD (c:Int) T lo hi (cel c lo hi k) (((k:Int)+1).toNat*1+(k*11+4)));let z1:=(UT (((k:Int)+1).toNat*1+(k*11+4)) (min z0 hi) (UD (c:Int) T lo hi (cel c lo hi k)) (k*1+(((k:Int)+1).toNat*11+4)));let z2:=(U0 ((c:Int)+1));(branch (decide ((k:Int)<(c:Int))) (need [VM ((k:Int)+1)] (need [UH k 11] (need [UH ((k:Int)+1) 11] (need [((k:Int)+1).toNat*1+(k*11+4)<125] (need [UH k 11] (need [UH ((k:Int)+1) 11] (need [((k:Int)+1).toNat*1+(k*11+4)+List.length [min z0 hi]<=125] (need [VM ((k:Int)+1)] (need [VM (-lo)] (need [UH ((k:Int)+1) 11] (need [UH k 11] (need [k*1+(((k:Int)+1).toNat*11+4)<125] (need [UH ((k:Int)+1) 11] (need [UH k 11] (need [k*1+(((k:Int)+1).toNat*11+4)+List.length [min z1 (-lo)]<=125] (need [VM ((k:Int)+1)] (need [U0 (agg [iI (c:Int),iI T,iI lo,iI hi]),Q4 n a b u v,XP,QV=QV,X6,XZ,z2,z2,U0 (c:Int),(k:Int)+1=(↑(k+1):Int),125=125,GV 125 (UT (k*1+(((k:Int)+1).toNat*11+4)) (min z1 (-lo)) (zZ (((k:Int)+1).toNat*1+(k*11+4)) [min z0 hi] (UD (c:Int) T lo hi (cel c lo hi k)))) (UD (c:Int) T lo hi (cel c lo hi (k+1))),U0 (c:Int),T=T,lo=lo,hi=hi] (leaf G6.normal)))))))))))))))))) (need [U0 (agg [iI (c:Int),iI T,iI lo,iI hi]),Q4 n a b u v,XP,QV=QV,X6,XZ,z2,z2,U0 (c:Int),(k:Int)=(c:Int),125=125,GV 125 (UD (c:Int) T lo hi (cel c lo hi k)) (UD (c:Int) T lo hi (cel c lo hi c)),U0 (c:Int),T=T,lo=lo,hi=hi] (leaf (G6.exit 4))))) VU ?_);simp only [Jk2,CA,VN.sat,GS] at hQ;simp only [VN.sat,UB,UY,GL,UE,VM,UJ,H6,FO,FT,RH,GJ,CA]
  refine ⟨λh=>?_,λh=>?_⟩
  ·have h1: ∀M v,UT (((k:Int)+1).toNat*1+(k*11+4)) (min (UD c T lo hi M (((k:Int)+1).toNat*1+(k*11+4))) v) (UD c T lo hi M)=UD c T lo hi (bnd M k (k+1) v):=λM v=>zO VK VK
   have h2: ∀M v,UT (k*1+(((k:Int)+1).toNat*11+4)) (min (UD c T lo hi M (k*1+(((k:Int)+1).toNat*11+4))) v) (UD c T lo hi M)=UD c T lo hi (bnd M (k+1) k v):=λM v=>zO VK VK
   simp only [h1,h2]
   (with_reducible repeat' first|apply And.intro|intro _)
   all_goals first|exact True.intro|omega|with_reducible rfl|(rename_i E hE;cases hE;exact hQ)|rfl
  ·obtain rfl:k=c:=VK
   (with_reducible repeat' first|apply And.intro|intro _)
   all_goals first|exact True.intro|omega|with_reducible rfl|(rename_i E hE;cases hE;exact hQ)|rfl
end
def rdS(c:Nat)(M:Nat->Nat->Int)(a b u v:Int):Nat->Nat->Int:=if b<(c:Int) then bnd (bnd M a.toNat b.toNat v) (b+1).toNat a.toNat (-u-1) else bnd M a.toNat b.toNat v
def rdM(c:Nat)(T lo hi:Int)(a b u v:Nat->Int):Nat->Nat->Nat->Int
 | 0=>bnd (bnd (cel c lo hi c) 0 c T) c 0 (-T)
 |j+1=>rdS c (rdM c T lo hi a b u v j) (a j) (b j) (u j) (v j)
def rdV(a b u v:Int):Value:= .agg #[.int .i64 a,.int .i64 b,.int .i64 u,.int .i64 v]
def sn(a b u v:Nat->Int)(k:Nat)(x:Value):Prop:= ∃j,j<k/\x=rdV (a j) (b j) (u j) (v j)
def Jc3(x:Value):Prop:= ∃a b u v,x=rdV a b u v
theorem Qz9(a b u v:Int)(e:UL)(w:World):Rep e w (.agg [i a,i b,i u,i v]) (rdV a b u v):=
 Rep.aggL (U4.cons (.x _) (U4.cons (.x _) (U4.cons (.x _) (U4.one (.x _)))))
theorem Ql3(a b u v:Int):FC Tryz.prog 345 Jc3 (rdV a b u v) (.bool false):=by
 refine ⟨⟨72,4,(match Tryz.prog.underlying 72 with|some (.struct fs)=>fs|_=>#[]),VU,VU,?_,?_,?_⟩,by simp [Instr.sameBits,rdV]⟩
 ·intro b' w;kernel_rfl
 ·rintro k' ⟨a',b',u',v',rfl⟩ w;refine ⟨a==a'&&(b==b'&&(u==u'&&(v==v'&&true)&&true)),xF (P:=Tryz.prog) (e:=PD w w) Op.maxDepth 72 (.agg [i a,i b,i u,i v]) (.agg [i a',i b',i u',i v']) _ _ _ VU (Qz9 ..) (Qz9 ..),λh=>?_⟩
  simp only [Bool.and_true,H9,beq_iff_eq] at h;obtain ⟨rfl,rfl,rfl,rfl⟩:=h;rfl
 ·intro w;kernel_rfl
theorem Xq4{a b u v:Nat->Int}{k:Nat}{x:Value}(h:sn a b u v k x):Jc3 x:=by
 obtain ⟨j,_,h⟩:=h;exact ⟨_,_,_,_,h⟩
section
variable (M:Nat->Nat->Int)(a b:Nat)(v:Int)
theorem wK(x y:Nat):bnd M a b v x y<=M x y:=by
 unfold bnd wT;split
 ·rename_i h;rw [h.1,h.2];omega
 ·omega
theorem aD:bnd M a b v a b<=v:=by
 unfold bnd wT;rw [if_pos ⟨rfl,rfl⟩];omega
end
theorem Ws4{M:Nat->Nat->Int}{a b:Nat}{v:Int}(h:M a b<=v):bnd M a b v=M:=by
 funext x y;unfold bnd wT;split
 ·rename_i h';rw [h'.1,h'.2];omega
 ·rfl
section
variable (c:Nat)(M:Nat->Nat->Int)(a b u v:Int)
theorem Zf8(x y:Nat):rdS c M a b u v x y<=M x y:=by
 unfold rdS;split
 ·exact Int.le_trans (wK _ _ _ _ _ _) (wK _ _ _ _ _ _)
 ·exact wK _ _ _ _ _ _
theorem Zg0:rdS c M a b u v a.toNat b.toNat<=v/\(b<c->rdS c M a b u v (b+1).toNat a.toNat<= -u-1):=by
 unfold rdS;split
 ·exact ⟨Int.le_trans (wK _ _ _ _ _ _) (aD _ _ _ _),λ_=>aD _ _ _ _⟩
 ·exact ⟨aD _ _ _ _,λh=>VK⟩
end
theorem Zf9{c:Nat}{M:Nat->Nat->Int}{a b u v:Int}(h:M a.toNat b.toNat<=v)(h2:b<c->M (b+1).toNat a.toNat<= -u-1):rdS c M a b u v=M:=by
 unfold rdS;rw [Ws4 h];split
 ·rename_i hb;exact Ws4 (h2 hb)
 ·rfl
theorem AZ(c:Nat)(T lo hi:Int)(a b u v:Nat->Int)(j:Nat): ∀(k:Nat),j<=k-> ∀x y,rdM c T lo hi a b u v k x y<=rdM c T lo hi a b u v j x y
 | 0,h,x,y=>by
           obtain rfl:j=0:=VK;exact Int.le_refl _
 |k+1,h,x,y=>by
  rcases (show j=k+1\/j<=k by omega) with rfl|h
  ·exact Int.le_refl _
  ·exact Int.le_trans (Zf8 _ _ _ _ _ _ _ _) (AZ c T lo hi a b u v j k h x y)
theorem Wa5{c:Nat}{T lo hi:Int}{a b u v:Nat->Int}{k:Nat}(h:sn a b u v k (rdV (a k) (b k) (u k) (v k))):rdM c T lo hi a b u v (k+1)=rdM c T lo hi a b u v k:=by
 obtain ⟨j,hj,he⟩:=h;unfold rdV at he;injection he with he
 injection he with he
 have e:a k=a j/\b k=b j/\u k=u j/\v k=v j:=by simpa using he
 have h1:=Zg0 c (rdM c T lo hi a b u v j) (a j) (b j) (u j) (v j);have m:=AZ c T lo hi a b u v (j+1) k VK;refine Zf9 ?_ (λhb=>?_)
 ·rw [e.1,e.2.1,e.2.2.2];exact Int.le_trans (m _ _) h1.1
 ·rw [e.1,e.2.1,e.2.2.1];exact Int.le_trans (m _ _) (h1.2 (by rw [←e.2.1];exact hb))
section
variable (c:Nat)(T lo hi:Int)(n:Nat)(a b u v:Nat->Int)
def Zp2:St:={σ:=[agg [iI (c:Int),iI T,iI lo,iI hi],XC n a b u v,ptr 0 0,top,QV,AV.lit false,ptr 5 0,top,top,top,AV.mp 63]++HI 11 [iI ((c:Int)+1),iI ((c:Int)+1)]++HI 21 [iI (c:Int),iI (c:Int)]++HI 34 [XC n a b u v,iI (n:Int)]++HI 95 [],m:=[(63,GO.memo (λx=>False) λv=>v),(56,GO.row 3 1 2 (U6 1 [iI (UT (c*1+4) (min (UD (c:Int) T lo hi (cel c lo hi c) (c*1+4)) T) (UD (c:Int) T lo hi (cel c lo hi c)) (0+(c*11+4))),iI (-T)])),(31,GO.row 3 1 2 (U6 1 [iI (UD (c:Int) T lo hi (cel c lo hi c) (c*1+4)),iI T])),(5,GO.ints 343 [] 125 λa=>UT (0+(c*11+4)) (min (UT (c*1+4) (min (UD (c:Int) T lo hi (cel c lo hi c) (c*1+4)) T) (UD (c:Int) T lo hi (cel c lo hi c)) (0+(c*11+4))) (-T)) (zZ (c*1+4) [min (UD (c:Int) T lo hi (cel c lo hi c) (c*1+4)) T] (UD (c:Int) T lo hi (cel c lo hi c))) a),(0,GO.cells 122 [iI (c:Int),iI T,iI lo,iI hi])],nx:=68}
noncomputable def Jp1:Code:=U9 (VS (U8 Tryz.f209) 2)
def Wg2(k:Nat):St:=(upE [(83,i k)] [(5,.ints 343 [] 125 (UD c T lo hi (rdM c T lo hi a b u v k))),(0,.cells 122 [i c,i T,i lo,i hi]),(63,.memo (sn a b u v k) (λ_=> .bool true))] (Zp2 c T lo hi n a b u v))
def C9(k:Nat):G6->Option St
 | .exit 6=>some (upE [(83,i n)] [(5,.ints 343 [] 125 (UD c T lo hi (rdM c T lo hi a b u v n))),(0,.cells 122 [i c,i T,i lo,i hi]),(63,.memo (sn a b u v n) (λ_=> .bool true))] (Zp2 c T lo hi n a b u v))
 |_=>none
def Jk1:CT:= .leaf (.exit 6,(C9 c T lo hi n a b u v 0 (.exit 6)).getD (Zp2 c T lo hi n a b u v))
def Xu5:UG:=GK [] (HF (Wg2 c T lo hi n a b u v (0)) (Jk1 c T lo hi n a b u v))
abbrev ZJ:Prop:=AV.mp 63=AV.mp 63
theorem Zz5(VT:1<=c/\c<=10)(UI:1<=lo/\lo<=hi/\hi<=200/\1<=T/\T<=2000)(HR:n<=1000)(F1:D7 (λk=>rdB c (a k) (b k) (u k) (v k)) n=true):G5 VP (.loop Jp1) (Xu5 c T lo hi n a b u v):=by
 refine US [] (L:=[]) (VL.cons LS (VL.nil _)) (VX.of (VR.nil _) (VO.cons LI (VO.nil _))) VZ U3 (X:=Nat) (Wg2 c T lo hi n a b u v) (λk=>k<=n) (λk=>n-k) (C9 c T lo hi n a b u v) (x0:=0) VW ?_ ?_ ?_
 ·rintro k;kernel_rfl
 ·rintro k y E h;unfold C9 at h;split at h
  ·cases h;kernel_rfl
  ·cases h
 ·rintro Q hQ k hx;refine ⟨(k+1),?_⟩;(with_reducible refine D6 (t:=let z9:=sn a b u v k;let z3:=(Value.agg #[Value.int IntKind.i64 (a k),Value.int IntKind.i64 (b k),Value.int IntKind.i64 (u k),Value.int IntKind.i64 (v k)]);let z7:=(rdM c T lo hi a b u v k);let z2:=(UD (c:Int) T lo hi z7 ((b k).toNat*1+((a k).toNat*11+4)));let z10:=(UD (c:Int) T lo hi z7);let z5:=(UT ((b k).toNat*1+((a k).toNat*11+4)) (min z2 (v k)) z10 ((a k).toNat*1+((b k+1).toNat*11+4)));let z6:=(U0 (agg [iI (c:Int),iI T,iI lo,iI hi]));let z8:=Q4 n a b u v;let z4:=(U0 ((c:Int)+1));let z11:=(rdM c T lo hi a b u v (k+1));let z0:=(need [∀(u_1:Value),z9 u_1->Value.bool true=Value.bool true,FC Tryz.prog 345 (λu_1=>z9 u_1\/u_1=Value.agg #[Value.int IntKind.i64 (a k),Value.int IntKind.i64 (b k),Value.int IntKind.i64 (u k),Value.int IntKind.i64 (v k)]) z3 (YG)] (need [UH (a k) 11] (need [UH (b k) 11] (need [(b k).toNat*1+((a k).toNat*11+4)<125] (need [UH (a k) 11] (need [UH (b k) 11] (need [(b k).toNat*1+((a k).toNat*11+4)+List.length [min z2 (v k)]<=125] (branch (decide (b k<(c:Int))) (need [VM (b k+1)] (need [VM (-u k)] (need [VM (-u k-1)] (need [UH (b k+1) 11] (need [UH (a k) 11] (need [(a k).toNat*1+((b k+1).toNat*11+4)<125] (need [UH (b k+1) 11] (need [UH (a k) 11] (need [(a k).toNat*1+((b k+1).toNat*11+4)+List.length [min z5 (-u k-1)]<=125] (need [VM ((k:Int)+1)] (need [z6,z8,XP,QV=QV,X6,XZ,ZJ,z4,z4,U0 (c:Int),U0 (c:Int),z8,U0 (n:Int),(k:Int)+1=(↑(k+1):Int),125=125,GV 125 (UT ((a k).toNat*1+((b k+1).toNat*11+4)) (min z5 (-u k-1)) (zZ ((b k).toNat*1+((a k).toNat*11+4)) [min z2 (v k)] z10)) (UD (c:Int) T lo hi z11),U0 (c:Int),T=T,lo=lo,hi=hi,∀(k_1:Value),z9 k_1\/k_1=Value.agg #[Value.int IntKind.i64 (a k),Value.int IntKind.i64 (b k),Value.int IntKind.i64 (u k),Value.int IntKind.i64 (v k)]->sn a b u v (k+1) k_1/\Value.bool true=Value.bool true] (leaf G6.normal)))))))))))) (need [VM ((k:Int)+1)] (need [z6,z8,XP,QV=QV,X6,XZ,ZJ,z4,z4,U0 (c:Int),U0 (c:Int),z8,U0 (n:Int),(k:Int)+1=(↑(k+1):Int),125=125,GV 125 (UT ((b k).toNat*1+((a k).toNat*11+4)) (min z2 (v k)) z10) (UD (c:Int) T lo hi z11),U0 (c:Int),T=T,lo=lo,hi=hi,∀(k_1:Value),z9 k_1\/k_1=Value.agg #[Value.int IntKind.i64 (a k),Value.int IntKind.i64 (b k),Value.int IntKind.i64 (u k),Value.int IntKind.i64 (v k)]->sn a b u v (k+1) k_1/\Value.bool true=Value.bool true] (leaf G6.normal)))))))))));let z1:=(need [VM ((k:Int)+1)] (need [z6,z8,XP,QV=QV,X6,XZ,ZJ,z4,z4,U0 (c:Int),U0 (c:Int),z8,U0 (n:Int),(k:Int)+1=(↑(k+1):Int),125=125,GV 125 (UD (c:Int) T lo hi z7) (UD (c:Int) T lo hi z11),U0 (c:Int),T=T,lo=lo,hi=hi,∀(k_1:Value),z9 k_1->sn a b u v (k+1) k_1/\Value.bool true=Value.bool true] (leaf G6.normal)));(branch (decide ((k:Int)<(n:Int))) (need [UH k n] (need [FC Tryz.prog 345 (z9) z3 (YG)] (VN.may (z9 z3) (branch true z1 z0) (branch false z1 z0)))) (need [z6,z8,XP,QV=QV,X6,XZ,ZJ,z4,z4,U0 (c:Int),U0 (c:Int),z8,U0 (n:Int),(k:Int)=(n:Int),125=125,GV 125 (UD (c:Int) T lo hi z7) (UD (c:Int) T lo hi (rdM c T lo hi a b u v n)),U0 (c:Int),T=T,lo=lo,hi=hi,∀(k_1:Value),z9 k_1->sn a b u v n k_1/\Value.bool true=Value.bool true] (leaf (G6.exit 6))))) VU ?_)
  simp only [Jk1,C9,VN.sat,GS] at hQ;simp only [VN.sat,UB,UY,GL,UE,VM,UJ,H6,FO,FT,RH,GJ,C9]
  have hv: ∀j,j<n->(0<=a j/\a j<=c-1)/\(a j<=b j/\b j<=c)/\0<=u j/\u j<=v j/\v j<=2000:=by
   intro j hj;have:=GU.1 F1 j hj;simp only [rdB,H9,bt_iff,insB_iff] at this;omega
  refine ⟨λh=>?_,λh=>?_⟩
  ·have hk:=hv k VK;have mk:=Ql3 (a k) (b k) (u k) (v k);have q1:FC Tryz.prog 345 (sn a b u v k) (rdV (a k) (b k) (u k) (v k)) (.bool false):=mk.mono (λx hx=>Xq4 hx)
   have q2:FC Tryz.prog 345 (λx=>sn a b u v k x\/x=rdV (a k) (b k) (u k) (v k)) (rdV (a k) (b k) (u k) (v k)) (.bool false):=mk.mono (λx hx=>hx.elim Xq4 (λhe=>⟨_,_,_,_,he⟩))
   have sn1: ∀x,sn a b u v k x->sn a b u v (k+1) x:=λx ⟨j,hj,he⟩=>⟨j,VK,he⟩
   have sn2:sn a b u v (k+1) (rdV (a k) (b k) (u k) (v k)):=⟨k,VK,rfl⟩;refine ⟨VK,q1,λhs=>⟨λ_=>?_,λhc=>absurd hc (by decide)⟩,λhc=>absurd hc (by decide),λ_=>?_⟩
   ·rw [Wa5 hs]
    (with_reducible repeat' first|apply And.intro|intro _)
    all_goals first|exact P6|(exact sn1 _ (by assumption))
   ·have h1: ∀M w,UT ((b k).toNat*1+((a k).toNat*11+4)) (min (UD c T lo hi M ((b k).toNat*1+((a k).toNat*11+4))) w) (UD c T lo hi M)=UD c T lo hi (bnd M (a k).toNat (b k).toNat w):=λM w=>zO VK VK
    refine ⟨⟨λ_ _=>trivial,q2⟩,?_⟩
    simp only [h1];refine ⟨VK,VK,VK,VK,VK,VK,λhb=>?_,λhb=>?_⟩
    ·have h2: ∀M w,UT ((a k).toNat*1+((b k+1).toNat*11+4)) (min (UD c T lo hi M ((a k).toNat*1+((b k+1).toNat*11+4))) w) (UD c T lo hi M)=UD c T lo hi (bnd M (b k+1).toNat (a k).toNat w):=λM w=>zO VK VK
     have e3:rdM c T lo hi a b u v (k+1)=bnd (bnd (rdM c T lo hi a b u v k) (a k).toNat (b k).toNat (v k)) (b k+1).toNat (a k).toNat (-u k-1):=by
      show rdS _ _ _ _ _ _=_;unfold rdS;rw [if_pos hb]
     simp only [h2,e3];exact VI
    ·have e3:rdM c T lo hi a b u v (k+1)=bnd (rdM c T lo hi a b u v k) (a k).toNat (b k).toNat (v k):=by
      show rdS _ _ _ _ _ _=_;unfold rdS;rw [if_neg hb]
     simp only [e3];exact VI
  ·obtain rfl:k=n:=VK
   (with_reducible repeat' first|apply And.intro|intro _)
   all_goals first|exact P6|(assumption)
end
def fwS(M:Nat->Nat->Int)(o f t:Nat):Nat->Nat->Int:=bnd M f t (M f o+M o t)
def fwT(M:Nat->Nat->Int)(o f:Nat):Nat->Nat->Nat->Int
 | 0=>M
 |t+1=>fwS (fwT M o f t) o f t
def fwF(c:Nat)(M:Nat->Nat->Int)(o:Nat):Nat->Nat->Nat->Int
 | 0=>M
 |f+1=>fwT (fwF c M o f) o f (c+1)
def fwO(c:Nat)(M:Nat->Nat->Int):Nat->Nat->Nat->Int
 | 0=>M
 |o+1=>fwF c (fwO c M o) o (c+1)
def LB(B:Int)(M:Nat->Nat->Int):Prop:= ∀x y,-B<=M x y/\M x y<=2000
def JB(B:Int)(o f t:Nat)(M:Nat->Nat->Int):Prop:= ∀x y,M x y<=2000/\ -(6*B)<=M x y/\(x=o-> -(3*B)<=M x y)/\(y=o-> -(3*B)<=M x y)/\(x=o->y=o-> -(2*B)<=M x y)/\(¬(x<f\/(x=f/\y<t))-> -B<=M x y)
theorem Wy3{B:Int}{o:Nat}{M:Nat->Nat->Int}(hB:0<=B)(h:LB B M):JB B o 0 0 M:=by
 intro x y;have:=h x y;refine ⟨VK,VK,λ_=>VK,λ_=>VK,λ_ _=>VK,λ_=>VK⟩
theorem Xm6{B:Int}{o f t:Nat}{M:Nat->Nat->Int}(hB:0<=B)(h:JB B o f t M):JB B o f (t+1) (fwS M o f t):=by
 have hft:=h f t;have hfo:=h f o;have hot:=h o t;have hoo:=h o o;have hn:=hft.2.2.2.2.2 VK;intro x y;have hxy:=h x y;unfold fwS bnd wT;by_cases hc:x=f/\y=t
 ·exact V2
 ·rw [if_neg hc];exact ⟨hxy.1,hxy.2.1,hxy.2.2.1,hxy.2.2.2.1,hxy.2.2.2.2.1,λhv=>hxy.2.2.2.2.2 VK⟩
theorem Zo5{B:Int}{o f:Nat}{M:Nat->Nat->Int}(hB:0<=B)(h:JB B o f 0 M): ∀t,JB B o f t (fwT M o f t)
 | 0=>h
 |t+1=>Xm6 hB (Zo5 hB h t)
theorem Zo4{B:Int}{o f t:Nat}{M:Nat->Nat->Int}(h:JB B o f t M):JB B o (f+1) 0 M:=by
 intro x y;have hxy:=h x y;exact ⟨hxy.1,hxy.2.1,hxy.2.2.1,hxy.2.2.2.1,hxy.2.2.2.2.1,λhv=>hxy.2.2.2.2.2 VK⟩
theorem Zo6{B:Int}{c o:Nat}{M:Nat->Nat->Int}(hB:0<=B)(h:LB B M): ∀f,JB B o f 0 (fwF c M o f)
 | 0=>Wy3 hB h
 |f+1=>Zo4 (Zo5 hB (Zo6 hB h f) (c+1))
theorem Zo3{c:Nat}{M:Nat->Nat->Int}(h:LB 2001 M): ∀o,LB (2001*6^o) (fwO c M o)
 | 0=>by
  rw [show (2001:Int)*6^0=2001 by decide]
  exact h
 |o+1=>by
  have ih:=Zo3 (c:=c) h o;have hp:(0:Int)<=2001*6^o:=Int.mul_nonneg VK (Int.pow_nonneg VK);have hj:=Zo6 (c:=c) (o:=o) hp ih (c+1);intro x y;have:=hj x y;have e:(2001:Int)*6^(o+1)=6*(2001*6^o):=by rw [Int.pow_succ];omega
  rw [e];exact ⟨this.2.1,this.1⟩
theorem Ja2: ∀o:Nat,o<=10->(6:Int)^o<=60466176:=by
 intro o ho;rcases (show o=0\/o=1\/o=2\/o=3\/o=4\/o=5\/o=6\/o=7\/o=8\/o=9\/o=10 by omega) with rfl|rfl|rfl|rfl|rfl|rfl|rfl|rfl|rfl|rfl|rfl<;>decide
theorem Jf5{c:Nat}{M:Nat->Nat->Int}(h:LB 2001 M){o f t:Nat}(ho:o<=10)(x y:Nat): -800000000000<=fwT (fwF c (fwO c M o) o f) o f t x y/\fwT (fwF c (fwO c M o) o f) o f t x y<=2000:=by
 have ih:=Zo3 (c:=c) h o;have hp:(0:Int)<=2001*6^o:=Int.mul_nonneg VK (Int.pow_nonneg VK);have hj:=Zo5 hp (Zo6 (c:=c) (o:=o) hp ih f) t x y;have:=Ja2 o ho;omega
theorem vN{B:Int}{M:Nat->Nat->Int}(h:LB B M){a b:Nat}{v:Int}(hv: -B<=v):LB B (bnd M a b v):=by
 intro x y;have h1:=h a b;have h2:=h x y;unfold bnd wT;split<;>omega
theorem Wr6{c:Nat}{lo hi:Int}(h:1<=lo/\lo<=hi/\hi<=200): ∀k,LB 2001 (cel c lo hi k)
 | 0=>by
  intro x y;unfold cel ini;split<;>omega
 |k+1=>vN (vN (Wr6 h k) VK) VK
theorem nG{c:Nat}{T lo hi:Int}{a b u v:Nat->Int}{n:Nat}(h:1<=lo/\lo<=hi/\hi<=200/\1<=T/\T<=2000)(hv: ∀j,j<n->0<=u j/\u j<=v j/\v j<=2000): ∀k,k<=n->LB 2001 (rdM c T lo hi a b u v k)
 | 0,_=>vN (vN (Wr6 VK c) VK) VK
 |k+1,hk=>by
  have ih:=nG (c:=c) (a:=a) (b:=b) h hv k VK;have:=hv k VK;show LB 2001 (rdS _ _ _ _ _ _);unfold rdS;split
  ·exact vN (vN ih VK) VK
  ·exact vN ih VK
section
variable (c:Nat)(T lo hi:Int)(n:Nat)(a b u v:Nat->Int)
def sT:St:={σ:=[agg [iI (c:Int),iI T,iI lo,iI hi],XC n a b u v,ptr 0 0,top,QV,AV.lit false,ptr 5 0,top,top,top,AV.mp 63]++HI 11 [iI ((c:Int)+1),iI ((c:Int)+1)]++HI 21 [iI (c:Int),iI (c:Int)]++HI 34 [XC n a b u v,iI (n:Int),iI (n:Int)]++HI 37 [iI ((c:Int)+1)]++HI 56 [],m:=[(5,GO.ints 343 [] 125 λk=>UD (c:Int) T lo hi (rdM c T lo hi a b u v n) k),(0,GO.cells 122 [iI (c:Int),iI T,iI lo,iI hi]),(63,GO.memo (λx=>sn a b u v n x) λx=>Value.bool true)],nx:=72}
noncomputable def Qs3:Code:=U9 (VS (U8 Tryz.f209) 3)
def EL(o:Nat):St:=(upE [(122,i o)] [(5,.ints 343 [] 125 (UD c T lo hi (fwO c (rdM c T lo hi a b u v n) o))),(0,.cells 122 [i c,i T,i lo,i hi])] (sT c T lo hi n a b u v))
def qD(o:Nat):G6->Option St
 | .exit 8=>some (upE [(122,i ((c:Int)+1))] [(5,.ints 343 [] 125 (UD c T lo hi (fwO c (rdM c T lo hi a b u v n) (c+1)))),(0,.cells 122 [i c,i T,i lo,i hi])] (sT c T lo hi n a b u v))
 |_=>none
def Wu7:CT:= .leaf (.exit 8,(qD c T lo hi n a b u v 0 (.exit 8)).getD (sT c T lo hi n a b u v))
def mC:UG:=GK [] (HF (EL c T lo hi n a b u v (0)) (Wu7 c T lo hi n a b u v))
def Zp1(o:Nat):St:={σ:=[agg [iI (c:Int),iI T,iI lo,iI hi],XC n a b u v,ptr 0 0,top,QV,AV.lit false,ptr 5 0,top,top,top,AV.mp 63,top,top,iI (o:Int)]++HI 8 [iI ((c:Int)+1),iI ((c:Int)+1)]++HI 21 [iI (c:Int),iI (c:Int)]++HI 34 [XC n a b u v,iI (n:Int),iI (n:Int)]++HI 37 [iI ((c:Int)+1),iI (o:Int),top,top,top,top,iI ((c:Int)+1)]++HI 50 [],m:=[(5,GO.ints 343 [] 125 λk=>UD (c:Int) T lo hi (fwO c (rdM c T lo hi a b u v n) o) k),(0,GO.cells 122 [iI (c:Int),iI T,iI lo,iI hi])],nx:=79}
noncomputable def Zs1:Code:=(U9 (VS (U9 (VS (U8 Tryz.f209) 3)) 0))
def Wg1(o:Nat)(f:Nat):St:=(upE [(128,i f)] [(5,.ints 343 [] 125 (UD c T lo hi (fwF c (fwO c (rdM c T lo hi a b u v n) o) o f))),(0,.cells 122 [i c,i T,i lo,i hi])] (Zp1 c T lo hi n a b u v o))
def C8(o:Nat)(f:Nat):G6->Option St
 | .exit 10=>some (upE [(128,i ((c:Int)+1))] [(5,.ints 343 [] 125 (UD c T lo hi (fwF c (fwO c (rdM c T lo hi a b u v n) o) o (c+1)))),(0,.cells 122 [i c,i T,i lo,i hi])] (Zp1 c T lo hi n a b u v o))
 |_=>none
def Jk0(o:Nat):CT:= .leaf (.exit 10,(C8 c T lo hi n a b u v o 0 (.exit 10)).getD (Zp1 c T lo hi n a b u v o))
def Xu4(o:Nat):UG:=GK [] (HF (Wg1 c T lo hi n a b u v o (0)) (Jk0 c T lo hi n a b u v o))
def aX(o:Nat)(f:Nat):St:={σ:=[agg [iI (c:Int),iI T,iI lo,iI hi],XC n a b u v,ptr 0 0,top,QV,AV.lit false,ptr 5 0,top,top,top,AV.mp 63,top,top,iI (o:Int),iI (f:Int)]++HI 7 [iI ((c:Int)+1),iI ((c:Int)+1)]++HI 21 [iI (c:Int),iI (c:Int)]++HI 34 [XC n a b u v,iI (n:Int),iI (n:Int)]++HI 37 [iI ((c:Int)+1),iI (o:Int),top,top,top,top,iI ((c:Int)+1),iI (f:Int),top,top,top,top,iI ((c:Int)+1)]++HI 44 [],m:=[(5,GO.ints 343 [] 125 λk=>UD (c:Int) T lo hi (fwF c (fwO c (rdM c T lo hi a b u v n) o) o f) k),(0,GO.cells 122 [iI (c:Int),iI T,iI lo,iI hi])],nx:=86}
noncomputable def Xa8:Code:=(U9 (VS (U9 (VS (U9 (VS (U8 Tryz.f209) 3)) 0)) 0))
def EK(o:Nat)(f:Nat)(t:Nat):St:=(upE [(134,i t)] [(5,.ints 343 [] 125 (UD c T lo hi (fwT (fwF c (fwO c (rdM c T lo hi a b u v n) o) o f) o f t))),(0,.cells 122 [i c,i T,i lo,i hi])] (aX c T lo hi n a b u v o f))
def PN(o:Nat)(f:Nat)(t:Nat):G6->Option St
 | .exit 12=>some (upE [(134,i ((c:Int)+1))] [(5,.ints 343 [] 125 (UD c T lo hi (fwT (fwF c (fwO c (rdM c T lo hi a b u v n) o) o f) o f (c+1)))),(0,.cells 122 [i c,i T,i lo,i hi])] (aX c T lo hi n a b u v o f))
 |_=>none
def Wu6(o:Nat)(f:Nat):CT:= .leaf (.exit 12,(PN c T lo hi n a b u v o f 0 (.exit 12)).getD (aX c T lo hi n a b u v o f))
def mB(o:Nat)(f:Nat):UG:=GK [] (HF (EK c T lo hi n a b u v o f (0)) (Wu6 c T lo hi n a b u v o f))
theorem Qz8(o:Nat)(f:Nat)(VT:1<=c/\c<=10)(UI:1<=lo/\lo<=hi/\hi<=200/\1<=T/\T<=2000)(HR:n<=1000)(F1:D7 (λk=>rdB c (a k) (b k) (u k) (v k)) n=true)(BM:o<=c)(xY:f<=c):G5 VP (.loop Xa8) (mB c T lo hi n a b u v o f):=by
 refine US [] (L:=[]) (VL.cons LS (VL.nil _)) (VX.of (VR.nil _) (VO.cons LI (VO.nil _))) VZ U3 (X:=Nat) (EK c T lo hi n a b u v o f) (λt=>t<=c+1) (λt=>c+1-t) (PN c T lo hi n a b u v o f) (x0:=0) VW ?_ ?_ ?_
 ·rintro t;kernel_rfl
 ·rintro t y E h;unfold PN at h;split at h
  ·cases h;kernel_rfl
  ·cases h
 ·rintro Q hQ t hx;refine ⟨(t+1),?_⟩;(with_reducible refine D6 (t:=let z2:=(fwF c (fwO c (rdM c T lo hi a b u v n) o) o f);let z0:=(fwT z2 o f t);let z1:=(U0 ((c:Int)+1));let z3:=(UD (c:Int) T lo hi z0 (t*1+(f*11+4)));(branch (decide ((t:Int)<(c:Int)+1)) (need [UH f 11] (need [UH o 11] (need [o*1+(f*11+4)<125] (need [UH o 11] (need [UH t 11] (need [t*1+(o*11+4)<125] (need [VM (UD (c:Int) T lo hi z0 (o*1+(f*11+4))+UD (c:Int) T lo hi z0 (t*1+(o*11+4)))] (need [UH f 11] (need [UH t 11] (need [t*1+(f*11+4)<125] (need [UH f 11] (need [UH t 11] (need [t*1+(f*11+4)+List.length [min z3 (UD (c:Int) T lo hi z0 (o*1+(f*11+4))+UD (c:Int) T lo hi z0 (t*1+(o*11+4)))]<=125] (need [VM ((t:Int)+1)] (need [U0 (agg [iI (c:Int),iI T,iI lo,iI hi]),Q4 n a b u v,XP,QV=QV,X6,XZ,ZJ,U0 (o:Int),U0 (f:Int),z1,z1,U0 (c:Int),U0 (c:Int),Q4 n a b u v,U0 (n:Int),U0 (n:Int),z1,U0 (o:Int),z1,U0 (f:Int),z1,(t:Int)+1=(↑(t+1):Int),125=125,GV 125 (UT (t*1+(f*11+4)) (min z3 (UD (c:Int) T lo hi z0 (o*1+(f*11+4))+UD (c:Int) T lo hi z0 (t*1+(o*11+4)))) (UD (c:Int) T lo hi z0)) (UD (c:Int) T lo hi (fwT z2 o f (t+1))),U0 (c:Int),T=T,lo=lo,hi=hi] (leaf G6.normal)))))))))))))))) (need [U0 (agg [iI (c:Int),iI T,iI lo,iI hi]),Q4 n a b u v,XP,QV=QV,X6,XZ,ZJ,U0 (o:Int),U0 (f:Int),z1,z1,U0 (c:Int),U0 (c:Int),Q4 n a b u v,U0 (n:Int),U0 (n:Int),z1,U0 (o:Int),z1,U0 (f:Int),z1,(t:Int)=(c:Int)+1,125=125,GV 125 (UD (c:Int) T lo hi z0) (UD (c:Int) T lo hi (fwT z2 o f (c+1))),U0 (c:Int),T=T,lo=lo,hi=hi] (leaf (G6.exit 12))))) VU ?_);simp only [Wu6,PN,VN.sat,GS] at hQ;simp only [VN.sat,UB,UY,GL,UE,VM,UJ,H6,FO,FT,RH,GJ,PN]
  have hv: ∀j,j<n->0<=u j/\u j<=v j/\v j<=2000:=by
   intro j hj;have:=GU.1 F1 j hj;simp only [rdB,H9,bt_iff,insB_iff] at this;omega
  have hl:=λx y=>Jf5 (c:=c) (nG (c:=c) (a:=a) (b:=b) UI hv n (Nat.le_refl _)) (o:=o) (f:=f) (t:=t) VK x y
  have hfo:=hl f o;have hot:=hl o t;refine ⟨λh=>?_,λh=>?_⟩
  ·have h1: ∀M,UD c T lo hi M (o*1+(f*11+4))=M f o:=λM=>BZ _ _ _ _ _ VK VK
   have h2: ∀M,UD c T lo hi M (t*1+(o*11+4))=M o t:=λM=>BZ _ _ _ _ _ VK VK
   have h3: ∀M v,UT (t*1+(f*11+4)) (min (UD c T lo hi M (t*1+(f*11+4))) v) (UD c T lo hi M)=UD c T lo hi (bnd M f t v):=λM v=>zO VK VK
   simp only [h3];simp only [h1,h2]
   (with_reducible repeat' first|apply And.intro|intro _)
   all_goals first|exact True.intro|omega|with_reducible rfl|(rename_i E hE;cases hE;exact hQ)|rfl
  ·obtain rfl:t=c+1:=VK
   (with_reducible repeat' first|apply And.intro|intro _)
   all_goals first|exact True.intro|omega|with_reducible rfl|(rename_i E hE;cases hE;exact hQ)|rfl
theorem Zz1(o:Nat)(VT:1<=c/\c<=10)(UI:1<=lo/\lo<=hi/\hi<=200/\1<=T/\T<=2000)(HR:n<=1000)(F1:D7 (λk=>rdB c (a k) (b k) (u k) (v k)) n=true)(BM:o<=c):G5 VP (.loop Zs1) (Xu4 c T lo hi n a b u v o):=by
 refine US [] (L:=[B6 14 (λk=>FR [k<=c] (mB c T lo hi n a b u v o k))]) (VL.cons LS (VL.nil _)) (VX.of (VR.nil _) (VO.cons LI (VO.nil _))) VZ (G7 (λcj hcj=>by
  have e:VS Zs1 0=some (.loop Xa8):=VU;rw [e] at hcj;cases hcj;exact L2 (λk=>D2 (λh=>Qz8 c T lo hi n a b u v o k VT UI HR F1 BM h)))) (X:=Nat) (Wg1 c T lo hi n a b u v o) (λf=>f<=c+1) (λf=>c+1-f) (C8 c T lo hi n a b u v o) (x0:=0) VW ?_ ?_ ?_
 ·rintro f;kernel_rfl
 ·rintro f y E h;unfold C8 at h;split at h
  ·cases h;kernel_rfl
  ·cases h
 ·rintro Q hQ f hx;refine ⟨(f+1),?_⟩;(with_reducible refine D6 (t:=let z0:=(U0 ((c:Int)+1));let z1:=(fwO c (rdM c T lo hi a b u v n) o);let z2:=(U0 (agg [iI (c:Int),iI T,iI lo,iI hi]));let z3:=Q4 n a b u v;(branch (decide ((f:Int)<(c:Int)+1)) (need [VM ((c:Int)+1)] (need [f<=c] (need [z2,z3,XP,QV=QV,X6,XZ,ZJ,U0 (o:Int),U0 (f:Int),z0,z0,U0 (c:Int),U0 (c:Int),z3,U0 (n:Int),U0 (n:Int),z0,U0 (o:Int),z0,U0 (f:Int),z0,(0:Int)=(↑(0:Nat):Int),125=125,GV 125 (UD (c:Int) T lo hi (fwF c z1 o f)) (UD (c:Int) T lo hi (fwT (fwF c z1 o f) o f 0)),U0 (c:Int),T=T,lo=lo,hi=hi] (need [VM ((f:Int)+1)] (need [z2,z3,XP,QV=QV,X6,XZ,ZJ,U0 (o:Int),z0,z0,U0 (c:Int),U0 (c:Int),z3,U0 (n:Int),U0 (n:Int),z0,U0 (o:Int),z0,(f:Int)+1=(↑(f+1):Int),125=125,GV 125 (UD (c:Int) T lo hi (fwT (fwF c z1 o f) o f (c+1))) (UD (c:Int) T lo hi (fwF c z1 o (f+1))),U0 (c:Int),T=T,lo=lo,hi=hi] (leaf G6.normal)))))) (need [z2,z3,XP,QV=QV,X6,XZ,ZJ,U0 (o:Int),z0,z0,U0 (c:Int),U0 (c:Int),z3,U0 (n:Int),U0 (n:Int),z0,U0 (o:Int),z0,(f:Int)=(c:Int)+1,125=125,GV 125 (UD (c:Int) T lo hi (fwF c z1 o f)) (UD (c:Int) T lo hi (fwF c z1 o (c+1))),U0 (c:Int),T=T,lo=lo,hi=hi] (leaf (G6.exit 10))))) VU ?_);simp only [Jk0,C8,VN.sat,GS] at hQ;simp only [VN.sat,UB,UY,GL,UE,VM,UJ,H6,FO,FT,RH,GJ,C8]
  refine ⟨λh=>?_,λh=>?_⟩
  ·(with_reducible repeat' first|apply And.intro|intro _)
   all_goals first|exact True.intro|omega|with_reducible rfl|(rename_i E hE;cases hE;exact hQ)|rfl
  ·obtain rfl:f=c+1:=VK
   (with_reducible repeat' first|apply And.intro|intro _)
   all_goals first|exact True.intro|omega|with_reducible rfl|(rename_i E hE;cases hE;exact hQ)|rfl
theorem Wa3(VT:1<=c/\c<=10)(UI:1<=lo/\lo<=hi/\hi<=200/\1<=T/\T<=2000)(HR:n<=1000)(F1:D7 (λk=>rdB c (a k) (b k) (u k) (v k)) n=true):G5 VP (.loop Qs3) (mC c T lo hi n a b u v):=by
 refine US [] (L:=[B6 13 (λk=>FR [k<=c] (Xu4 c T lo hi n a b u v k))]) (VL.cons LS (VL.nil _)) (VX.of (VR.nil _) (VO.cons LI (VO.nil _))) VZ (G7 (λcj hcj=>by
  have e:VS Qs3 0=some (.loop Zs1):=VU;rw [e] at hcj;cases hcj;exact L2 (λk=>D2 (λh=>Zz1 c T lo hi n a b u v k VT UI HR F1 h)))) (X:=Nat) (EL c T lo hi n a b u v) (λo=>o<=c+1) (λo=>c+1-o) (qD c T lo hi n a b u v) (x0:=0) VW ?_ ?_ ?_
 ·rintro o;kernel_rfl
 ·rintro o y E h;unfold qD at h;split at h
  ·cases h;kernel_rfl
  ·cases h
 ·rintro Q hQ o hx;refine ⟨(o+1),?_⟩;(with_reducible refine D6 (t:=let z0:=(U0 ((c:Int)+1));let z1:=(rdM c T lo hi a b u v n);let z2:=(U0 (agg [iI (c:Int),iI T,iI lo,iI hi]));let z3:=Q4 n a b u v;(branch (decide ((o:Int)<(c:Int)+1)) (need [VM ((c:Int)+1)] (need [o<=c] (need [z2,z3,XP,QV=QV,X6,XZ,ZJ,U0 (o:Int),z0,z0,U0 (c:Int),U0 (c:Int),z3,U0 (n:Int),U0 (n:Int),z0,U0 (o:Int),z0,(0:Int)=(↑(0:Nat):Int),125=125,GV 125 (UD (c:Int) T lo hi (fwO c z1 o)) (UD (c:Int) T lo hi (fwF c (fwO c z1 o) o 0)),U0 (c:Int),T=T,lo=lo,hi=hi] (need [VM ((o:Int)+1)] (need [z2,z3,XP,QV=QV,X6,XZ,ZJ,z0,z0,U0 (c:Int),U0 (c:Int),z3,U0 (n:Int),U0 (n:Int),z0,(o:Int)+1=(↑(o+1):Int),125=125,GV 125 (UD (c:Int) T lo hi (fwF c (fwO c z1 o) o (c+1))) (UD (c:Int) T lo hi (fwO c z1 (o+1))),U0 (c:Int),T=T,lo=lo,hi=hi] (leaf G6.normal)))))) (need [z2,z3,XP,QV=QV,X6,XZ,ZJ,z0,z0,U0 (c:Int),U0 (c:Int),z3,U0 (n:Int),U0 (n:Int),z0,(o:Int)=(c:Int)+1,125=125,GV 125 (UD (c:Int) T lo hi (fwO c z1 o)) (UD (c:Int) T lo hi (fwO c z1 (c+1))),U0 (c:Int),T=T,lo=lo,hi=hi] (leaf (G6.exit 8))))) VU ?_);simp only [Wu7,qD,VN.sat,GS] at hQ;simp only [VN.sat,UB,UY,GL,UE,VM,UJ,H6,FO,FT,RH,GJ,qD]
  refine ⟨λh=>?_,λh=>?_⟩
  ·(with_reducible repeat' first|apply And.intro|intro _)
   all_goals first|exact True.intro|omega|with_reducible rfl|(rename_i E hE;cases hE;exact hQ)|rfl
  ·obtain rfl:o=c+1:=VK
   (with_reducible repeat' first|apply And.intro|intro _)
   all_goals first|exact True.intro|omega|with_reducible rfl|(rename_i E hE;cases hE;exact hQ)|rfl
def fwM:Nat->Nat->Int:=fwO c (rdM c T lo hi a b u v n) (c+1)
def okR:Bool:=D7 (λk=>decide (0<=fwM c T lo hi n a b u v k k)) (c+1)
def Wz7:St:={σ:=[agg [iI (c:Int),iI T,iI lo,iI hi],XC n a b u v,ptr 0 0,top,top,top,ptr 5 0,top,top,top,AV.mp 63]++HI 11 [iI ((c:Int)+1),iI ((c:Int)+1)]++HI 21 [iI (c:Int),iI (c:Int)]++HI 34 [XC n a b u v,iI (n:Int),iI (n:Int)]++HI 37 [iI ((c:Int)+1),iI ((c:Int)+1)]++HI 40 [iI ((c:Int)+1)]++HI 14 [],m:=[(5,GO.ints 343 [] 125 λk=>UD (c:Int) T lo hi (fwO c (rdM c T lo hi a b u v n) (c+1)) k),(0,GO.cells 122 [iI (c:Int),iI T,iI lo,iI hi])],nx:=76}
noncomputable def Jp0:Code:=U9 (VS (U8 Tryz.f209) 4)
def Wg0(k:Nat):St:=(upE [(164,i k)] [(5,.ints 343 [] 125 (UD c T lo hi (fwM c T lo hi n a b u v))),(0,.cells 122 [i c,i T,i lo,i hi])] (Wz7 c T lo hi n a b u v))
def d6(k:Nat):G6->Option St
 | .ret=>some (upE [(4,.x (.pointer none)),(5,.lit false),(164,.top)] [(5,.ints 343 [] 125 (UD c T lo hi (fwM c T lo hi n a b u v))),(0,.cells 122 [i c,i T,i lo,i hi])] (Wz7 c T lo hi n a b u v))
 | .exit 14=>some (upE [(164,.top)] [(5,.ints 343 [] 125 (UD c T lo hi (fwM c T lo hi n a b u v))),(0,.cells 122 [i c,i T,i lo,i hi])] (Wz7 c T lo hi n a b u v))
 |_=>none
def Jj9:CT:= .branch (okR c T lo hi n a b u v) (.leaf (.exit 14,(d6 c T lo hi n a b u v 0 (.exit 14)).getD (Wz7 c T lo hi n a b u v))) (.leaf (.ret,(d6 c T lo hi n a b u v 0 .ret).getD (Wz7 c T lo hi n a b u v)))
def Xu3:UG:=GK [] (HF (Wg0 c T lo hi n a b u v (0)) (Jj9 c T lo hi n a b u v))
theorem Zz0(VT:1<=c/\c<=10)(UI:1<=lo/\lo<=hi/\hi<=200/\1<=T/\T<=2000)(HR:n<=1000)(F1:D7 (λk=>rdB c (a k) (b k) (u k) (v k)) n=true):G5 VP (.loop Jp0) (Xu3 c T lo hi n a b u v):=by
 refine US [] (L:=[]) (VL.cons LS (VL.nil _)) (VX.of (VR.nil _) (VO.cons LI (VO.nil _))) VZ U3 (X:=Nat) (Wg0 c T lo hi n a b u v) (λk=>k<=c+1/\ ∀j,j<k->0<=fwM c T lo hi n a b u v j j) (λk=>c+1-k) (d6 c T lo hi n a b u v) (x0:=0) VW ?_ ?_ ?_
 ·rintro k;kernel_rfl
 ·rintro k y E h;unfold d6 at h;split at h
  ·cases h;kernel_rfl
  ·cases h;kernel_rfl
  ·cases h
 ·rintro Q hQ k hx;refine ⟨(k+1),?_⟩;(with_reducible refine D6 (t:=let z0:=(U0 ((c:Int)+1));let z1:=(fwM c T lo hi n a b u v);let z2:=(U0 (agg [iI (c:Int),iI T,iI lo,iI hi]));let z3:=Q4 n a b u v;(branch (decide ((k:Int)<(c:Int)+1)) (need [UH k 11] (need [UH k 11] (need [k*1+(k*11+4)<125] (branch (decide (UD (c:Int) T lo hi z1 (k*1+(k*11+4))<0)) (need [z2,z3,XP,QV=QV,X6,XZ,ZJ,z0,z0,U0 (c:Int),U0 (c:Int),z3,U0 (n:Int),U0 (n:Int),z0,z0,z0,125=125,GQ 125 (UD (c:Int) T lo hi z1),U0 (c:Int),T=T,lo=lo,hi=hi] (leaf G6.ret)) (need [VM ((k:Int)+1)] (need [z2,z3,XP,XZ,ZJ,z0,z0,U0 (c:Int),U0 (c:Int),z3,U0 (n:Int),U0 (n:Int),z0,z0,z0,(k:Int)+1=(↑(k+1):Int),125=125,GQ 125 (UD (c:Int) T lo hi z1),U0 (c:Int),T=T,lo=lo,hi=hi] (leaf G6.normal))))))) (need [z2,z3,XP,XZ,ZJ,z0,z0,U0 (c:Int),U0 (c:Int),z3,U0 (n:Int),U0 (n:Int),z0,z0,z0,125=125,GQ 125 (UD (c:Int) T lo hi z1),U0 (c:Int),T=T,lo=lo,hi=hi] (leaf (G6.exit 14))))) VU ?_);simp only [Jj9,d6,VN.sat,GS] at hQ;simp only [VN.sat,UB,UY,GL,UE,VM,UJ,H6,FO,FT,RH,GJ,d6]
  have h1:UD c T lo hi (fwM c T lo hi n a b u v) (k*1+(k*11+4))=fwM c T lo hi n a b u v k k\/11<=k:=by
   rcases Nat.lt_or_ge k 11 with h|h
   ·exact .inl (BZ _ _ _ _ _ VK h)
   ·exact .inr h
  refine ⟨λh=>?_,λh=>?_⟩
  ·have h2:=h1.resolve_right VK;rw [h2];refine ⟨VK,VK,VK,λhneg=>?_,λWl4=>?_⟩
   ·have hno:okR c T lo hi n a b u v=false:=by
     cases ho:okR c T lo hi n a b u v
     ·rfl
     ·have:=GU.1 ho k VK;simp at this;omega
    (with_reducible repeat' first|apply And.intro|intro _)
    all_goals first|exact P6|(rename_i E hE;cases hE;exact hQ.2 hno)
   ·exact VG
  ·obtain ⟨hx1,hx2⟩:=hx;obtain rfl:k=c+1:=VK;have Wk1:okR c T lo hi n a b u v=true:=GU.2 (λj hj=>by simpa using hx2 j hj)
   (with_reducible repeat' first|apply And.intro|intro _)
   all_goals first|exact P6|(rename_i E hE;cases hE;exact hQ.1 Wk1)
end
theorem vL{S:Code->UG->Prop}{c:Code}{s0 s1 s2 s3 s4:UG}(h0: ∀cj,VS c 0=some cj->S cj s0)(h1: ∀cj,VS c 1=some cj->S cj s1)(h2: ∀cj,VS c 2=some cj->S cj s2)(h3: ∀cj,VS c 3=some cj->S cj s3)(h4: ∀cj,VS c 4=some cj->S cj s4):
  ∀j cj,VS c j=some cj-> ∀sp,[s0,s1,s2,s3,s4][j]? =some sp->S cj sp:=by
 intro j cj hj sp hsp
 match j with
 | 0=>simp at hsp;subst hsp;exact h0 cj hj
 | 1=>simp at hsp;subst hsp;exact h1 cj hj
 | 2=>simp at hsp;subst hsp;exact h2 cj hj
 | 3=>simp at hsp;subst hsp;exact h3 cj hj
 | 4=>simp at hsp;subst hsp;exact h4 cj hj
 |j+5=>simp at hsp
theorem UO.same{P:Program}{f:FuncId}{avs avs':List AV}{t:VN AV}(h:UO P f avs' t)(k:LV avs avs'):UO P f avs t:=λQ hQ e w args hro hgl FM hr=>h Q hQ e w args hro hgl (k.idf FM) (k.rep hr)
section
variable (c:Nat)(T lo hi:Int)(n:Nat)(a b u v:Nat->Int)
abbrev t9:AV:= .roI [] 125 (UD c T lo hi (fwM c T lo hi n a b u v)) 0
abbrev nilP:AV:= .x (.pointer none)
theorem SP(VT:1<=c/\c<=10)(UI:1<=lo/\lo<=hi/\hi<=200/\1<=T/\T<=2000)(HR:n<=1000)(F1:D7 (λk=>rdB c (a k) (b k) (u k) (v k)) n=true):UO VP 209 [.agg [i c,i T,i lo,i hi],rds n a b u v] (.branch (okR c T lo hi n a b u v) (.leaf (.tup [t9 c T lo hi n a b u v,.lit true])) (.leaf (.tup [nilP,.lit false]))):=by
 refine GT (L:=[Xu8 c T lo hi n a b u v,Xu6 c T lo hi n a b u v,Xu5 c T lo hi n a b u v,mC c T lo hi n a b u v,Xu3 c T lo hi n a b u v]) (VL.cons LS (VL.nil _)) (VX.of (VR.nil _) (VO.cons LI (VO.nil _))) VZ Tryz.func209 (UV Tryz.f209) (vL (lpE (b:= .loop Zs2) VU<|(Zz9 c T lo hi n a b u v VT UI).N) (lpE (b:= .loop Jp2) VU<|(Zz7 c T lo hi n a b u v VT UI).N) (lpE (b:= .loop Jp1) VU<|(Zz5 c T lo hi n a b u v VT UI HR F1).N) (lpE (b:= .loop Qs3) VU<|(Wa3 c T lo hi n a b u v VT UI HR F1).N) (lpE (b:= .loop Jp0) VU<|(Zz0 c T lo hi n a b u v VT UI HR F1).N)) (t:=let z0:=(U0 ((c:Int)+1));let z1:=(U0 (agg [iI (c:Int),iI T,iI lo,iI hi]));let z2:=(UD (c:Int) T lo hi (cel c lo hi c) (c*1+4));let z3:=(UT (c*1+4) (min z2 T) (UD (c:Int) T lo hi (cel c lo hi c)) (0+(c*11+4)));let z4:=Q4 n a b u v;(need [VM ((c:Int)+1)] (need [z1,z4,XP,QV=QV,X6,XZ,z0,(0:Int)=(↑(0:Nat):Int),List.length ([(c:Int),T,lo,hi]++b9 121)=125,GV 125 (UA ([(c:Int),T,lo,hi]++b9 121)) (UD (c:Int) T lo hi (ini c 0 0)),U0 (c:Int),T=T,lo=lo,hi=hi] (need [z1,z4,XP,QV=QV,X6,XZ,z0,z0,U0 (c:Int),(0:Int)=(↑(0:Nat):Int),125=125,GV 125 (UD (c:Int) T lo hi (ini c (c+1) 0)) (UD (c:Int) T lo hi (cel c lo hi 0)),U0 (c:Int),T=T,lo=lo,hi=hi] (need [UH 0 11] (need [UH c 11] (need [c*1+4<125] (need [UH 0 11] (need [UH c 11] (need [c*1+4+List.length [min z2 T]<=125] (need [VM (-T)] (need [UH c 11] (need [UH 0 11] (need [0+(c*11+4)<125] (need [UH c 11] (need [UH 0 11] (need [0+(c*11+4)+List.length [min z3 (-T)]<=125] (need [z1,z4,XP,QV=QV,X6,XZ,ZJ,z0,z0,U0 (c:Int),U0 (c:Int),z4,U0 (n:Int),(0:Int)=(↑(0:Nat):Int),125=125,GV 125 (UT (0+(c*11+4)) (min z3 (-T)) (zZ (c*1+4) [min z2 T] (UD (c:Int) T lo hi (cel c lo hi c)))) (UD (c:Int) T lo hi (rdM c T lo hi a b u v 0)),U0 (c:Int),T=T,lo=lo,hi=hi,∀(k:Value),False->sn a b u v 0 k/\k=Value.bool true] (need [VM ((c:Int)+1)] (need [z1,z4,XP,QV=QV,X6,XZ,ZJ,z0,z0,U0 (c:Int),U0 (c:Int),z4,U0 (n:Int),U0 (n:Int),z0,(0:Int)=(↑(0:Nat):Int),125=125,GV 125 (UD (c:Int) T lo hi (rdM c T lo hi a b u v n)) (UD (c:Int) T lo hi (fwO c (rdM c T lo hi a b u v n) 0)),U0 (c:Int),T=T,lo=lo,hi=hi] (need [VM ((c:Int)+1)] (need [z1,z4,XP,XZ,ZJ,z0,z0,U0 (c:Int),U0 (c:Int),z4,U0 (n:Int),U0 (n:Int),z0,z0,z0,(0:Int)=(↑(0:Nat):Int),125=125,GV 125 (UD (c:Int) T lo hi (fwO c (rdM c T lo hi a b u v n) (c+1))) (UD (c:Int) T lo hi (fwM c T lo hi n a b u v)),U0 (c:Int),T=T,lo=lo,hi=hi] (branch (okR c T lo hi n a b u v) (leaf (tup [roI [] 125 (λk=>UD (c:Int) T lo hi (fwM c T lo hi n a b u v) k) 0,AV.lit true])) (leaf (tup [QV,AV.lit false]))))))))))))))))))))))))) VU ?_
 intro Q hQ;have h1: ∀M w,UT (c*1+4) (min (UD c T lo hi M (c*1+4)) w) (UD c T lo hi M)=UD c T lo hi (bnd M 0 c w):=λM w=>zO VK VK
 have h2: ∀M w,UT (0+(c*11+4)) (min (UD c T lo hi M (0+(c*11+4))) w) (UD c T lo hi M)=UD c T lo hi (bnd M c 0 w):=λM w=>zO VK VK
 simp only [VN.sat,UB,UJ,VM,RH,GJ,h1,h2] at hQ ⊢
 (with_reducible repeat' first|apply And.intro|intro _)
 all_goals first|exact True.intro|omega|with_reducible rfl|rfl|exact Qy7 _ _ _ _ _ _|(rename_i h;exact h.elim)|(rename_i h;exact ⟨.tup [t9 c T lo hi n a b u v,.lit true],⟨⟨rfl,rfl,λ_ _=>rfl,rfl⟩,rfl,True.intro⟩,hQ.1 h⟩)|(rename_i h;exact ⟨.tup [nilP,.lit false],⟨rfl,rfl,True.intro⟩,hQ.2 h⟩)
end
def col(j:Nat)(f:Nat->List AV):Nat->Int:=λk=>Wj5 (f k) j
def fC:DG:=λl=>match l with
 |[.agg [.x (.int .i64 c),.x (.int .i64 T),.x (.int .i64 lo),.x (.int .i64 hi)],.lst 4 n f]=>some (.need [UF 4 n f,1<=c/\c<=10,1<=lo/\lo<=hi/\hi<=200/\1<=T/\T<=2000,n<=1000,D7 (λk=>rdB c (col 0 f k) (col 1 f k) (col 2 f k) (col 3 f k)) n=true]
   (.branch (okR c.toNat T lo hi n (col 0 f) (col 1 f) (col 2 f) (col 3 f)) (.leaf (.tup [t9 c.toNat T lo hi n (col 0 f) (col 1 f) (col 2 f) (col 3 f),.lit true])) (.leaf (.tup [nilP,.lit false]))))
 |_=>none
theorem wW:Enters VP 209/\ ∀avs t,fC avs=some t->UO VP 209 avs t:=by
 refine ⟨(UK Tryz.func209),?_⟩;intro avs t h;unfold fC at h;split at h
 ·rename_i c T lo hi n f;cases h;intro Q hQ;have hn:=GD hQ.1;have hr:UF 4 n f:=hn _ VW;have hc:1<=c/\c<=10:=hn _ VW;have HX:D7 (λk=>rdB c (col 0 f k) (col 1 f k) (col 2 f k) (col 3 f k)) n=true:=hn _ VW
  have e:((c.toNat:Nat):Int)=c:=VK;have h0:=SP c.toNat T lo hi n (col 0 f) (col 1 f) (col 2 f) (col 3 f) VK (hn _ VW) (hn _ VW) (by rw [e];exact HX)
  rw [e] at h0;exact UO.same h0 (.cons (.refl _) (.cons (.lst 4 n _ _ hr) .nil)) Q hQ.2
 ·cases h
theorem PI.same{P:Program}{f:FuncId}{avs avs':List AV}{t:VN AV}(h:PI P f avs' t)(k:LV avs avs'):PI P f avs t:=λQ hQ e w args hro hgl FM hr=>h Q hQ e w args hro hgl (k.idf FM) (k.rep hr)
def Qf6:UZ
 |[.agg [.x (.int .i64 a),.x (.int .i64 b),.x (.int .i64 u),.x (.int .i64 v)],.ro [.fn (.func 229) [.agg [.x (.int .i64 c),.x (.int .i64 T),.x (.int .i64 lo),.x (.int .i64 hi)]] []]]=>some ([1<=c/\c<=10],bl (!rdB c a b u v))
 |_=>none
theorem Wt9(c T lo hi a b u v:Int)(VT:1<=c/\c<=10):VY VP 243 [.agg [i a,i b,i u,i v],.ro [.fn (.func 229) [.agg [i c,i T,i lo,i hi]] []]] (bl (!rdB c a b u v)):=by
 refine U2 (L:=[]) (VL.cons nD (VL.nil _)) VZ Tryz.func243 (UV Tryz.f243) U3 (t:=need [(1:Int)<=c/\c<=10] (leaf (RV.x (.bool !rdB c a b u v)))) VU ?_;simp [VN.sat,UB,UY,UE];exact VT
theorem lG:VQ VP 243 Qf6:=by
 refine ⟨(UK Tryz.func243),?_⟩;intro avs ns res h hn;unfold Qf6 at h;split at h
 ·cases h;exact Wt9 _ _ _ _ _ _ _ _ (hn _ VW)
 ·cases h
def y7(c:Int)(a b u v:Nat->Int)(k:Nat):Bool:= !rdB c (a k) (b k) (u k) (v k)
def MV(c:Int)(n:Nat)(a b u v:Nat->Int):Bool:=D7 (λk=>rdB c (a k) (b k) (u k) (v k)) n
abbrev X9(c:Int)(T:Int)(lo:Int)(hi:Int):AV:=AV.fn (Fn.func 243) [] [AV.ro [AV.fn (Fn.func 229) [agg [iI c,iI T,iI lo,iI hi]] []]]
section
variable (c T lo hi:Int)(n:Nat)(a b u v:Nat->Int)
def mK:St:={σ:=[XC n a b u v,X9 c T lo hi]++HI 5 [iI (n:Int)]++HI 11 [],m:=[],nx:=4}
noncomputable def Xy2:Code:=U9 (VS (U8 Tryz.f247) 0)
def Qa3(k:Nat):St:=(upM [(8,i k)] (mK c T lo hi n a b u v))
def kN(k:Nat):G6->Option St
 | .ret=>some (upM [(4,i (GX (y7 c a b u v) n))] (mK c T lo hi n a b u v))
 | .exit 0=>some (upM [] (mK c T lo hi n a b u v))
 |_=>none
def Xs2:CT:= .branch (decide (GX (y7 c a b u v) n<n)) (.leaf (.ret,(kN c T lo hi n a b u v 0 .ret).getD (mK c T lo hi n a b u v))) (.leaf (.exit 0,(kN c T lo hi n a b u v 0 (.exit 0)).getD (mK c T lo hi n a b u v)))
def Wx5:UG:=(HF (Qa3 c T lo hi n a b u v (0)) (Xs2 c T lo hi n a b u v))
theorem Xy5(VT:n<=100000)(UI:1<=c/\c<=10):G5 VP (.loop Xy2) (Wx5 c T lo hi n a b u v):=by
 refine HH (L:=[]) (VL.cons lG (VL.nil _)) VZ U3 (X:=Nat) (Qa3 c T lo hi n a b u v) (λk=>k<=n/\ ∀j,j<k->y7 c a b u v j=false) (λk=>n-k) (kN c T lo hi n a b u v) (x0:=0) VW ?_ ?_ ?_
 ·rintro k;kernel_rfl
 ·rintro k y E h;unfold kN at h;split at h
  ·cases h;kernel_rfl
  ·cases h;kernel_rfl
  ·cases h
 ·rintro Q hQ k hx;refine ⟨(k+1),?_⟩;(with_reducible refine D6 (t:=branch (decide ((k:Int)<(n:Int))) (need [UH k n] (need [(1:Int)<=c/\c<=10] (branch (!rdB c (a k) (b k) (u k) (v k)) (need [Q4 n a b u v,U0 (X9 c T lo hi),(k:Int)=(↑(GX (y7 c a b u v) n):Int),U0 (n:Int)] (leaf G6.ret)) (need [VM ((k:Int)+1)] (need [Q4 n a b u v,U0 (X9 c T lo hi),U0 (n:Int),(k:Int)+1=(↑(k+1):Int)] (leaf G6.normal)))))) (need [Q4 n a b u v,U0 (X9 c T lo hi),U0 (n:Int)] (leaf (G6.exit 0)))) VU ?_);simp only [Xs2,kN,VN.sat,GS,H6] at hQ;simp only [VN.sat,UB,UJ,H6,VM,kN,FA];refine ⟨λh=>⟨VK,UI,λhb=>?_,λhb=>?_⟩,λh=>?_⟩
  ·have hf:GX (y7 c a b u v) n=k:=zH VK hb hx.2;refine ⟨VK,λE hE=>?_⟩
   cases hE;exact hQ.1 VK
  ·refine ⟨VK,VK,⟨VK,λj hj=>?_⟩,VK⟩
   rcases (show j<k\/j=k by omega) with h1|rfl
   ·exact hx.2 j h1
   ·exact hb
  ·have hf:GX (y7 c a b u v) n=n:=BW (λj hj=>hx.2 j VK)
   intro E hE;cases hE;exact hQ.2 VK
theorem Xy6(VT:n<=100000)(UI:1<=c/\c<=10):VY VP 247 [rds n a b u v,.fn (.func 243) [] [.ro [.fn (.func 229) [.agg [i c,i T,i lo,i hi]] []]]] (i (if GX (y7 c a b u v) n<n then (GX (y7 c a b u v) n:Int) else -1)):=by
 refine U2 (L:=[Wx5 c T lo hi n a b u v]) (VL.cons lG (VL.nil _)) VZ Tryz.func247 (UV Tryz.f247) (G7 (lpE (b:= .loop Xy2) VU<|Xy5 c T lo hi n a b u v VT UI)) (t:=need [Q4 n a b u v,U0 (X9 c T lo hi),U0 (n:Int),(0:Int)=(↑(0:Nat):Int)] (branch (decide (GX (y7 c a b u v) n<n)) (leaf (RV.x (.int .i64 (↑(GX (y7 c a b u v) n):Int)))) (leaf (RV.x (.int .i64 (-1:Int)))))) VU ?_
 exact VC
end
theorem isRec4(n:Nat)(a b u v:Nat->Int):UF 4 n (λk=>[i (a k),i (b k),i (u k),i (v k)]):=λ_ _=>rfl
def Xs5:UZ
 |[.lst 4 n f,.fn (.func 243) [] [.ro [.fn (.func 229) [.agg [.x (.int .i64 c),.x (.int .i64 T),.x (.int .i64 lo),.x (.int .i64 hi)]] []]]]=>some ([UF 4 n f,n<=100000,1<=c/\c<=10],i (if GX (y7 c (col 0 f) (col 1 f) (col 2 f) (col 3 f)) n<n then (GX (y7 c (col 0 f) (col 1 f) (col 2 f) (col 3 f)) n:Int) else -1))
 |_=>none
def Xt0:UZ
 |[.lst 4 n f,.fn (.func 243) [] [.ro [.fn (.func 229) [.agg [.x (.int .i64 c),.x (.int .i64 T),.x (.int .i64 lo),.x (.int .i64 hi)]] []]]]=>some ([UF 4 n f,n<=100000,1<=c/\c<=10],bl (!MV c n (col 0 f) (col 1 f) (col 2 f) (col 3 f)))
 |_=>none
def Wv9:UZ
 |[.lst 4 n f,.fn (.func 229) [.agg [.x (.int .i64 c),.x (.int .i64 T),.x (.int .i64 lo),.x (.int .i64 hi)]] []]=>some ([UF 4 n f,n<=100000,1<=c/\c<=10],bl (MV c n (col 0 f) (col 1 f) (col 2 f) (col 3 f)))
 |_=>none
def flt(c T lo hi:Int)(n:Nat)(a b u v:Nat->Int):Int:=if BY c T lo hi then (if 12<n then 3 else if MV c n a b u v then 0 else 2) else 1
def Qf0:UZ
 |[.agg [.x (.int .i64 c),.x (.int .i64 T),.x (.int .i64 lo),.x (.int .i64 hi)],.lst 4 n f]=>some ([UF 4 n f],i (flt c T lo hi n (col 0 f) (col 1 f) (col 2 f) (col 3 f)))
 |_=>none
theorem Xy4:VQ VP 247 Xs5:=by
 refine ⟨(UK Tryz.func247),?_⟩;intro avs ns res h hn;unfold Xs5 at h;split at h
 ·cases h;have hr:UF 4 _ _:=hn _ (GF);exact (Xy6 _ _ _ _ _ (col 0 _) (col 1 _) (col 2 _) (col 3 _) (hn _ VW) (hn _ VW)).same (.cons (.lst 4 _ _ _ hr) (.cons (.refl _) .nil))
 ·cases h
section
variable (c T lo hi:Int)(n:Nat)(a b u v:Nat->Int)
theorem Zm2(VT:n<=100000)(UI:1<=c/\c<=10):VY VP 242 [rds n a b u v,.fn (.func 243) [] [.ro [.fn (.func 229) [.agg [i c,i T,i lo,i hi]] []]]] (bl (!MV c n a b u v)):=by
 refine U2 (L:=[]) (VL.cons Xy4 (VL.nil _)) VZ Tryz.func242 (UV Tryz.f242) U3 (t:=need [UF 4 n λk=>[i (a k),i (b k),i (u k),i (v k)],n<=100000,(1:Int)<=c/\c<=10] (leaf (RV.x (.bool (decide ((if GX (y7 c a b u v) n<n then (↑(GX (y7 c a b u v) n):Int) else (-1:Int))>=(0:Int))))))) VU ?_
 simp only [VN.sat,UB,UY,UE,UJ];refine ⟨⟨isRec4 n _ _ _ _,VT,UI⟩,?_⟩;unfold MV;rw [kA];have:=F2 (y7 c a b u v) n;have e:(λk=> !(λk=>rdB c (a k) (b k) (u k) (v k)) k)=y7 c a b u v:=rfl
 rw [e];split<;>simp<;>omega
theorem Zm1:VQ VP 242 Xt0:=by
 refine ⟨(UK Tryz.func242),?_⟩;intro avs ns res h hn;unfold Xt0 at h;split at h
 ·cases h;have hr:UF 4 _ _:=hn _ (GF);exact (Zm2 _ _ _ _ _ (col 0 _) (col 1 _) (col 2 _) (col 3 _) (hn _ VW) (hn _ VW)).same (.cons (.lst 4 _ _ _ hr) (.cons (.refl _) .nil))
 ·cases h
theorem Xl1(VT:n<=100000)(UI:1<=c/\c<=10):VY VP 230 [rds n a b u v,.fn (.func 229) [.agg [i c,i T,i lo,i hi]] []] (bl (MV c n a b u v)):=by
 refine U2 (L:=[]) (VL.cons Zm1 (VL.nil _)) VZ Tryz.func230 (UV Tryz.f230) U3 (t:=need [UF 4 n λk=>[i (a k),i (b k),i (u k),i (v k)],n<=100000,(1:Int)<=c/\c<=10] (leaf (RV.x (.bool !!MV c n a b u v)))) VU ?_
 simp only [VN.sat,UB,UY,UE,UJ];refine ⟨⟨isRec4 n _ _ _ _,VT,UI⟩,?_⟩;simp
end
theorem Xl0:VQ VP 230 Wv9:=by
 refine ⟨(UK Tryz.func230),?_⟩;intro avs ns res h hn;unfold Wv9 at h;split at h
 ·cases h;have hr:UF 4 _ _:=hn _ (GF);exact (Xl1 _ _ _ _ _ (col 0 _) (col 1 _) (col 2 _) (col 3 _) (hn _ VW) (hn _ VW)).same (.cons (.lst 4 _ _ _ hr) (.cons (.refl _) .nil))
 ·cases h
theorem BI{c T lo hi:Int}(h:BY c T lo hi=true):(1<=c/\c<=10)/\(1<=lo/\lo<=hi/\hi<=200/\1<=T/\T<=2000)/\c*lo<=T/\T<=c*hi:=by
 simp only [BY,H9,bt_iff,insB_iff] at h;omega
theorem Wr4(c T lo hi:Int)(n:Nat)(a b u v:Nat->Int):VY VP 208 [.agg [i c,i T,i lo,i hi],rds n a b u v] (i (flt c T lo hi n a b u v)):=by
 refine U2 (L:=[]) (VL.cons CheckTube_ok (VL.cons Xl0 (VL.nil _))) VZ Tryz.func208 (UV Tryz.f208) U3 (t:=branch ((if BY c T lo hi=true then (0:Int) else (1:Int)) != 0) (leaf (RV.x (.int .i64 (if BY c T lo hi=true then (0:Int) else (1:Int))))) (branch (decide ((n:Int)>12)) (leaf (RV.x (.int .i64 (3:Int)))) (need [UF 4 n λk=>[i (a k),i (b k),i (u k),i (v k)],n<=100000,(1:Int)<=c/\c<=10] (branch (!MV c n a b u v) (leaf (RV.x (.int .i64 (2:Int)))) (leaf (RV.x (JU))))))) VU ?_
 simp only [VN.sat,UB,UY,UE,UJ,flt];by_cases ht:BY c T lo hi=true
 ·have hb:=BI ht;by_cases hn:12<n
  ·simp [ht,hn];omega
  ·cases ha:MV c n a b u v<;>simp [ht,hn,ha,isRec4 n a b u v]<;>omega
 ·simp [ht]
theorem Wr3:VQ VP 208 Qf0:=by
 refine ⟨(UK Tryz.func208),?_⟩;intro avs ns res h hn;unfold Qf0 at h;split at h
 ·cases h;have hr:UF 4 _ _:=hn _ (GF);exact (Wr4 _ _ _ _ _ (col 0 _) (col 1 _) (col 2 _) (col 3 _)).same (.cons (.refl _) (.cons (.lst 4 _ _ _ hr) .nil))
 ·cases h
theorem o2(f:Nat->Int)(k:Nat)(VT:k<=10)(UI: -1000000000000<=f (k*11+4)/\f (k*11+4)<=1000000000000):VY VP 232 [.roI [] 125 f 0,i k] (i (-(f (k*11+4)))):=by
 refine GW Tryz.func232 (t:=need [UH k 11] (need [UH 0 11] (need [0+(k*11+4)<125] (need [VM (-f (0+(k*11+4)))] (leaf (RV.x (.int .i64 (-f (0+(k*11+4)))))))))) VU ?_;simp only [VN.sat,UB,UY,GL,UE,UJ,FA];rw [show 0+(k*11+4)=k*11+4 by omega]
 simp only [VM];simp;omega
def lN:UZ
 |[.roI [] 125 f 0,.x (.int .i64 k)]=>some ([0<=k/\k<=10,-1000000000000<=f (k.toNat*11+4)/\f (k.toNat*11+4)<=1000000000000],i (-(f (k.toNat*11+4))))
 |_=>none
theorem o1:VQ VP 232 lN:=by
 refine ⟨(UK Tryz.func232),?_⟩;intro avs ns res h hn;unfold lN at h;split at h
 ·rename_i f k;cases h;have hk:0<=k/\k<=10:=hn _ VW;have e:((k.toNat:Nat):Int)=k:=VK;have h0:=o2 f k.toNat VK (hn _ VW);rw [e] at h0;exact h0
 ·cases h
theorem TQ(f:Nat->Int)(k:Nat)(VT:k<=10)(UI: -1000000000000<=f (k*11+4)/\f (k*11+4)<=1000000000000):VY VP 233 [.roI [] 125 f 0,i k] (i (f (k+4))):=by
 refine GW Tryz.func233 (t:=need [UH 0 11] (need [UH k 11] (need [k*1+4<125] (leaf (RV.x (.int .i64 (f (k*1+4)))))))) VU ?_;simp only [VN.sat,UB,UY,GL,UE,UJ,FA];rw [show k*1+4=k+4 by omega]
 simp only [VM];simp;omega
def IX:UZ
 |[.roI [] 125 f 0,.x (.int .i64 k)]=>some ([0<=k/\k<=10,-1000000000000<=f (k.toNat*11+4)/\f (k.toNat*11+4)<=1000000000000],i (f (k.toNat+4)))
 |_=>none
theorem TP:VQ VP 233 IX:=by
 refine ⟨(UK Tryz.func233),?_⟩;intro avs ns res h hn;unfold IX at h;split at h
 ·rename_i f k;cases h;have hk:0<=k/\k<=10:=hn _ VW;have e:((k.toNat:Nat):Int)=k:=VK;have h0:=TQ f k.toNat VK (hn _ VW);rw [e] at h0;exact h0
 ·cases h
def lM:UZ
 |[]=>some ([],.agg [.fn (.func 232) [] []])
 |_=>none
theorem Ql5:VY VP 210 [] (.agg [.fn (.func 232) [] []]):=by
 refine GW Tryz.func210 (t:=leaf (RV.agg [RV.fn (Fn.func 232)])) VU ?_;exact V0
theorem Ql4:VQ VP 210 lM:=by
 refine ⟨(UK Tryz.func210),?_⟩;intro avs ns res h hn;unfold lM at h;split at h
 ·cases h;exact Ql5
 ·cases h
def OZ:UZ
 |[]=>some ([],.agg [.fn (.func 233) [] []])
 |_=>none
theorem oW:VY VP 211 [] (.agg [.fn (.func 233) [] []]):=by
 refine GW Tryz.func211 (t:=leaf (RV.agg [RV.fn (Fn.func 233)])) VU ?_;exact V0
theorem oV:VQ VP 211 OZ:=by
 refine ⟨(UK Tryz.func211),?_⟩;intro avs ns res h hn;unfold OZ at h;split at h
 ·cases h;exact oW
 ·cases h
theorem Qq5(f:Nat->Int)(k:Nat)(VT:k<=10)(UI: -1000000000000<=f (k*11+4)/\f (k*11+4)<=1000000000000):VY VP 175 [.roI [] 125 f 0,i k] (.agg [i (-(f (k*11+4))),i (f (k+4))]):=by
 refine U2 (L:=[]) (VL.cons o1 (VL.cons TP (VL.cons Ql4 (VL.cons oV (VL.nil _))))) VZ Tryz.func175 (UV Tryz.f175) U3 (t:=need [(0:Int)<=(k:Int)/\(k:Int)<=10,(-1000000000000:Int)<=f (k*11+4)/\f (k*11+4)<=1000000000000] (need [(0:Int)<=(k:Int)/\(k:Int)<=10,(-1000000000000:Int)<=f (k*11+4)/\f (k*11+4)<=1000000000000] (leaf (RV.agg [RV.x (.int .i64 (-f (k*11+4))),RV.x (.int .i64 (f (k+4)))])))) VU ?_;exact V0
def lT:UZ
 |[.roI [] 125 f 0,.x (.int .i64 k)]=>some ([0<=k/\k<=10,-1000000000000<=f (k.toNat*11+4)/\f (k.toNat*11+4)<=1000000000000],.agg [i (-(f (k.toNat*11+4))),i (f (k.toNat+4))])
 |_=>none
theorem xL:VQ VP 175 lT:=by
 refine ⟨(UK Tryz.func175),?_⟩;intro avs ns res h hn;unfold lT at h;split at h
 ·rename_i f k;cases h;have hk:0<=k/\k<=10:=hn _ VW;have e:((k.toNat:Nat):Int)=k:=VK;have h0:=Qq5 f k.toNat VK (hn _ VW);rw [e] at h0;exact h0
 ·cases h
def dbF(f:Nat->Int):Nat->Int
 | 0=>0
 |k+1=>max (dbF f k) (f (k+4)- -(f (k*11+4)))
theorem pG{f:Nat->Int}{c:Nat}(h: ∀k,k<=c->(-1000000000000<=f (k*11+4)/\f (k*11+4)<=1000000000000)/\(-1000000000000<=f (k+4)/\f (k+4)<=1000000000000)): ∀k,k<=c+1->0<=dbF f k/\dbF f k<=2000000000000
 | 0,_=>by simp [dbF]
 |k+1,hk=>by
  have:=pG h k VK;have:=h k VK;simp only [dbF];omega
abbrev KG(f:Nat->Int):AV:=roI [] 125 (λa=>f a) 0
def Zr7(c:Nat)(f:Nat->Int):St:={σ:=[KG f]++HI 9 [iI (f 0+1)]++HI 16 [],m:=[],nx:=8}
noncomputable def Jr5:Code:=U9 (VS (U8 Tryz.f218) 0)
section
variable (c:Nat)(f:Nat->Int)
def Wj1(k:Nat):St:=(upM [(2,i (dbF f k)),(11,i k)] (Zr7 c f))
def CZ(k:Nat):G6->Option St
 | .exit 0=>some (upM [(2,i (dbF f (c+1))),(11,i ((c+1:Nat):Int))] (Zr7 c f))
 |_=>none
def Jn1:CT:= .leaf (.exit 0,(CZ c f 0 (.exit 0)).getD (Zr7 c f))
def Xx8:UG:=(HF (Wj1 c f (0)) (Jn1 c f))
theorem Jh4(VT:c<=10)(UI:f 0=c)(HR: ∀k,k<=c->(-1000000000000<=f (k*11+4)/\f (k*11+4)<=1000000000000)/\(-1000000000000<=f (k+4)/\f (k+4)<=1000000000000)):G5 VP (.loop Jr5) (Xx8 c f):=by
 refine HH (L:=[]) (VL.cons xL (VL.cons fQ (VL.nil _))) VZ U3 (X:=Nat) (Wj1 c f) (λk=>k<=c+1) (λk=>c+1-k) (CZ c f) (x0:=0) VW ?_ ?_ ?_
 ·rintro k;kernel_rfl
 ·rintro k y E h;unfold CZ at h;split at h
  ·cases h;kernel_rfl
  ·cases h
 ·rintro Q hQ k hx;refine ⟨(k+1),?_⟩;(with_reducible refine D6 (t:=branch (decide ((k:Int)<f 0+1)) (need [(0:Int)<=(k:Int)/\(k:Int)<=10,(-1000000000000:Int)<=f (k*11+4)/\f (k*11+4)<=1000000000000] (need [VM (f (k+4)- -f (k*11+4))] (need [VM ((k:Int)+1)] (need [KG f=KG f,max (dbF f k) (f (k+4)- -f (k*11+4))=dbF f (k+1),U0 (f 0+1),(k:Int)+1=(↑(k+1):Int)] (leaf G6.normal))))) (need [KG f=KG f,dbF f k=dbF f (c+1),U0 (f 0+1),(k:Int)=(↑(c+1):Int)] (leaf (G6.exit 0)))) VU ?_);simp only [Jn1,CZ,VN.sat,GS] at hQ;simp only [VN.sat,UB,UJ,H6,VM,CZ,FA];refine ⟨λh=>?_,λh=>?_⟩
  ·have h1:=HR k VK;have h2:=pG HR k VK;refine ⟨⟨VK,h1.1⟩,VK,VK,⟨rfl,VK⟩,VK,VK⟩
  ·obtain rfl:k=c+1:=VK;exact ⟨⟨rfl,rfl⟩,λE hE=>by cases hE;exact hQ⟩
theorem Wr0(VT:c<=10)(UI:f 0=c)(HR: ∀k,k<=c->(-1000000000000<=f (k*11+4)/\f (k*11+4)<=1000000000000)/\(-1000000000000<=f (k+4)/\f (k+4)<=1000000000000)):VY VP 218 [.roI [] 125 f 0] (i (dbF f (c+1))):=by
 refine U2 (L:=[Xx8 c f]) (VL.cons xL (VL.cons fQ (VL.nil _))) VZ Tryz.func218 (UV Tryz.f218) (G7 (lpE (b:= .loop Jr5) VU<|Jh4 c f VT UI HR)) (t:=need [0<125] (need [VM (f 0+1)] (need [KG f=KG f,(0:Int)=dbF f 0,U0 (f 0+1),(0:Int)=(↑(0:Nat):Int)] (leaf (RV.x (.int .i64 (dbF f (c+1)))))))) VU ?_
 simp only [VN.sat,UB,UY,GL,UE,UJ,FA];simp only [VM];have h2:=pG HR (c+1) VK;all_goals exact V7
end
def Qe9:UZ
 |[.roI [] 125 f 0]=>some ([0<=f 0/\f 0<=10,∀k,k<=(f 0).toNat->(-1000000000000<=f (k*11+4)/\f (k*11+4)<=1000000000000)/\(-1000000000000<=f (k+4)/\f (k+4)<=1000000000000)],i (dbF f ((f 0).toNat+1)))
 |_=>none
theorem Wq9:VQ VP 218 Qe9:=by
 refine ⟨(UK Tryz.func218),?_⟩;intro avs ns res h hn;unfold Qe9 at h;split at h
 ·rename_i f;cases h;have hk:0<=f 0/\f 0<=10:=hn _ VW;exact Wr0 (f 0).toNat f VK VK (hn _ VW)
 ·cases h
section
variable (c T lo hi:Int)(n:Nat)(a b u v:Nat->Int)
abbrev bX:AV:=t9 c.toNat T lo hi n a b u v
def okB:Bool:=okR c.toNat T lo hi n a b u v
def qI(r:Bool):Int:=if flt c T lo hi n a b u v=0 then (if r then (if okB c T lo hi n a b u v then 0 else 9) else 2) else flt c T lo hi n a b u v
end
section
variable {c T lo hi:Int}{n:Nat}{a b u v:Nat->Int}
theorem kV:flt c T lo hi n a b u v=0↔BY c T lo hi=true/\n<=12/\D7 (λk=>rdB c (a k) (b k) (u k) (v k)) n=true:=by
 unfold flt MV;split
 ·rename_i h1;split
  ·rename_i h2;constructor
   ·intro h;cases h
   ·intro h;omega
  ·rename_i h2;split
   ·rename_i h3;exact ⟨λ_=>⟨h1,VK,h3⟩,λ_=>rfl⟩
   ·rename_i h3;constructor
    ·intro h;cases h
    ·intro h;exact absurd h.2.2 h3
 ·rename_i h1;constructor
  ·intro h;cases h
  ·intro h;exact absurd h.1 h1
theorem gD{r:Bool}:qI c T lo hi n a b u v r=0↔flt c T lo hi n a b u v=0/\r=true/\okB c T lo hi n a b u v=true:=by
 unfold qI;split
 ·rename_i h1;split
  ·rename_i h2;split
   ·rename_i h3;simp [h1,h2,h3]
   ·rename_i h3;simp [h1,h2,h3]
  ·rename_i h2;simp [h1,h2]
 ·rename_i h1;simp [h1]
end
theorem bJ(c T lo hi:Int)(n:Nat)(a b u v:Nat->Int)(r:Bool):UO VP 174 [.agg [i c,i T,i lo,i hi],rds n a b u v,bl r] (.branch (decide (qI c T lo hi n a b u v r=0)) (.leaf (.tup [bX c T lo hi n a b u v,i 0])) (.leaf (.tup [nilP,i (qI c T lo hi n a b u v r)]))):=by
 refine GT (L:=[]) (VL.cons Wr3 (VL.nil _)) (VX.ofC (VR.nil _) (VO.nil _) (UC.cons wW (UC.nil _))) VZ Tryz.func174 (UV Tryz.f174) G8 (t:=need [UF 4 n λk=>[i (a k),i (b k),i (u k),i (v k)]] (branch (flt c T lo hi n a b u v != 0) (leaf (tup [QV,iI (flt c T lo hi n a b u v)])) (branch (!r) (leaf (tup [QV,iI 2])) (need [UF 4 n λk=>[i (a k),i (b k),i (u k),i (v k)],(1:Int)<=c/\c<=10,(1:Int)<=lo/\lo<=hi/\hi<=200/\(1:Int)<=T/\T<=2000,n<=1000,D7 (λk=>rdB c (a k) (b k) (u k) (v k)) n=true] (branch (okR (Int.toNat c) T lo hi n a b u v) (leaf (tup [roI [] 125 (λk=>UD (↑(Int.toNat c):Int) T lo hi (fwM (Int.toNat c) T lo hi n a b u v) k) 0,iI 0])) (leaf (tup [QV,iI 9]))))))) VU ?_
 intro Q hQ;have e:c.toNat=c\/c<0:=VK;simp only [VN.sat,UB,UJ,FT,H6,Bool.not_eq_true'] at hQ ⊢;refine ⟨isRec4 n a b u v,λh1=>?_,λh1=>?_⟩
 ·refine ⟨.tup [nilP,i (flt c T lo hi n a b u v)],⟨rfl,⟨rfl,rfl⟩,True.intro⟩,?_⟩;have h2:qI c T lo hi n a b u v r=flt c T lo hi n a b u v:=by unfold qI;rw [if_neg h1]
  rw [h2] at hQ;exact hQ.2 h1
 ·have hf:=kV.1 h1;have hb:=BI hf.1;refine ⟨λh2=>?_,λh2=>⟨⟨isRec4 n a b u v,hb.1,hb.2.1,by have:=hf.2.1;omega,hf.2.2⟩,λh3=>?_,λh3=>?_⟩⟩
  ·subst h2;have h4:qI c T lo hi n a b u v false=2:=by unfold qI;rw [if_pos h1];rfl
   rw [h4] at hQ;exact ⟨.tup [nilP,i 2],⟨rfl,⟨rfl,rfl⟩,True.intro⟩,hQ.2 VK⟩
  ·have h2:r=true:=by simpa using h2
   subst h2;have h4:qI c T lo hi n a b u v true=0:=gD.2 ⟨h1,rfl,h3⟩;exact ⟨.tup [bX c T lo hi n a b u v,i 0],⟨⟨rfl,rfl,λ_ _=>rfl,rfl⟩,⟨rfl,rfl⟩,True.intro⟩,hQ.1 h4⟩
  ·have h2:r=true:=by simpa using h2
   subst h2;have h4:qI c T lo hi n a b u v true=9:=by unfold qI okB;rw [if_pos h1,h3];rfl
   rw [h4] at hQ;exact ⟨.tup [nilP,i 9],⟨rfl,⟨rfl,rfl⟩,True.intro⟩,hQ.2 VK⟩
def aZ:DG:=λl=>match l with
 |[.agg [.x (.int .i64 c),.x (.int .i64 T),.x (.int .i64 lo),.x (.int .i64 hi)],.lst 4 n f,.x (.bool r)]=>some (.need [UF 4 n f] (.branch (decide (qI c T lo hi n (col 0 f) (col 1 f) (col 2 f) (col 3 f) r=0)) (.leaf (.tup [bX c T lo hi n (col 0 f) (col 1 f) (col 2 f) (col 3 f),i 0])) (.leaf (.tup [nilP,i (qI c T lo hi n (col 0 f) (col 1 f) (col 2 f) (col 3 f) r)]))))
 |[.agg [.x (.int .i64 c),.x (.int .i64 T),.x (.int .i64 lo),.x (.int .i64 hi)],.lst 4 n f,.lit r]=>some (.need [UF 4 n f] (.branch (decide (qI c T lo hi n (col 0 f) (col 1 f) (col 2 f) (col 3 f) r=0)) (.leaf (.tup [bX c T lo hi n (col 0 f) (col 1 f) (col 2 f) (col 3 f),i 0])) (.leaf (.tup [nilP,i (qI c T lo hi n (col 0 f) (col 1 f) (col 2 f) (col 3 f) r)]))))
 |_=>none
theorem U4.lits{e:UL}{w:World}{r:Bool}: ∀{l:List AV} {vs:List Value},U4 e w (l++[.lit r]) vs->U4 e w (l++[.x (.bool r)]) vs
 |[],vs,h=>by
  obtain ⟨v,vs',rfl,hv,hvs⟩:=h.cons_inv;cases hv;exact U4.cons (.x _) hvs
 |a::l,vs,h=>by
  obtain ⟨v,vs',rfl,hv,hvs⟩:=h.cons_inv;exact U4.cons hv (U4.lits hvs)
theorem UO.lits{P:Program}{f:FuncId}{l:List AV}{r:Bool}{t:VN AV}(h:UO P f (l++[.x (.bool r)]) t):UO P f (l++[.lit r]) t:=λQ hQ e w args hro hgl FM hr=>h Q hQ e w args hro hgl (λa ha=>by
 rcases List.mem_append.1 ha with h1|h1
 ·exact FM a (List.mem_append_left _ h1)
 ·cases BE.1 h1;exact .x _) (U4.lits hr)
theorem gV:Enters VP 174/\ ∀avs t,aZ avs=some t->UO VP 174 avs t:=by
 refine ⟨(UK Tryz.func174),?_⟩;intro avs t h;unfold aZ at h;split at h
 ·rename_i c T lo hi n f r;cases h;intro Q hQ;have hr:UF 4 n f:=GD hQ.1 _ VW;exact UO.same (bJ c T lo hi n (col 0 f) (col 1 f) (col 2 f) (col 3 f) r) (.cons (.refl _) (.cons (.lst 4 n _ _ hr) (.cons (.refl _) .nil))) Q hQ.2
 ·rename_i c T lo hi n f r;cases h;intro Q hQ;have hr:UF 4 n f:=GD hQ.1 _ VW;exact UO.lits (l:=[.agg [.x (.int .i64 c),.x (.int .i64 T),.x (.int .i64 lo),.x (.int .i64 hi)],.lst 4 n f]) (UO.same (bJ c T lo hi n (col 0 f) (col 1 f) (col 2 f) (col 3 f) r) (.cons (.refl _) (.cons (.lst 4 n _ _ hr) (.cons (.refl _) .nil)))) Q hQ.2
 ·cases h
section
variable (c T lo hi:Int)(n:Nat)(a b u v:Nat->Int)
def eB:Int:=qI c T lo hi n a b u v true
def fwB:Nat->Nat->Int:=fwM c.toNat T lo hi n a b u v
def sfB:Nat->Int:=UD (c.toNat:Nat) T lo hi (fwB c T lo hi n a b u v)
def dtB:Int:=if eB c T lo hi n a b u v=0 then dbF (sfB c T lo hi n a b u v) (c.toNat+1) else 0
def rK:Nat:=if eB c T lo hi n a b u v=0 then c.toNat+1 else 0
end
theorem Xq7{c a b u v:Int}(h:rdB c a b u v=true):(0<=a/\a<=c-1)/\(a<=b/\b<=c)/\0<=u/\u<=v/\v<=2000:=by
 simp only [rdB,H9,bt_iff,insB_iff] at h;omega
theorem TW{c T lo hi:Int}{n:Nat}{a b u v:Nat->Int}(h:flt c T lo hi n a b u v=0)(x y:Nat): -1000000000000<=fwB c T lo hi n a b u v x y/\fwB c T lo hi n a b u v x y<=2000:=by
 have hf:=kV.1 h;have hb:=BI hf.1;have hl:=nG (c:=c.toNat) (a:=a) (b:=b) hb.2.1 (λj hj=>(Xq7 (GU.1 hf.2.2 j hj)).2.2) n (Nat.le_refl n)
 have h1:=Zo3 (c:=c.toNat) hl (c.toNat+1) x y;have h2:=Ja2 c.toNat VK;rw [Int.pow_succ] at h1;unfold fwB fwM;omega
section
variable (c T lo hi:Int)(n:Nat)(a b u v:Nat->Int)
theorem Xq5:sfB c T lo hi n a b u v 0=c.toNat:=rfl
theorem SI(k:Nat):sfB c T lo hi n a b u v (k*11+4)=fwB c T lo hi n a b u v k 0:=BZ _ _ _ _ _ VK VK
theorem bY{k:Nat}(hk:k<=10):sfB c T lo hi n a b u v (k+4)=fwB c T lo hi n a b u v 0 k:=BZ _ _ _ _ _ VK VK
abbrev YH:Ext:={R:=[],H:=[],C:=[(174,aZ)] }
theorem Xa4:VY VP 182 [.agg [i c,i T,i lo,i hi],rds n a b u v] (.tup [i (dtB c T lo hi n a b u v),i (eB c T lo hi n a b u v)]):=by
 refine GB (L:=[]) (VL.cons Wq9 (VL.nil _)) (VX.ofC (VR.nil _) (VO.nil _) (UC.cons gV (UC.nil _))) VZ Tryz.func182 (UV Tryz.f182) G8 (t:=let z0:=(fwM (Int.toNat c) T lo hi n a b u v);let z1:=qI c T lo hi n a b u v true;(need [UF 4 n λk=>[i (a k),i (b k),i (u k),i (v k)]] (branch (decide (z1=0)) (branch ((0:Int) != 0) (leaf (RV.tup [RV.x (JU),RV.x (JU)])) (need [(0:Int)<=UD (↑(Int.toNat c):Int) T lo hi z0 0/\UD (↑(Int.toNat c):Int) T lo hi z0 0<=10,∀(k:Nat),k<=(UD (↑(Int.toNat c):Int) T lo hi z0 0).toNat->((-1000000000000:Int)<=UD (↑(Int.toNat c):Int) T lo hi z0 (k*11+4)/\UD (↑(Int.toNat c):Int) T lo hi z0 (k*11+4)<=1000000000000)/\(-1000000000000:Int)<=UD (↑(Int.toNat c):Int) T lo hi z0 (k+4)/\UD (↑(Int.toNat c):Int) T lo hi z0 (k+4)<=1000000000000] (leaf (RV.tup [RV.x (.int .i64 (dbF (UD (↑(Int.toNat c):Int) T lo hi z0) ((UD (↑(Int.toNat c):Int) T lo hi z0 0).toNat+1))),RV.x (JU)])))) (branch (z1 != 0) (leaf (RV.tup [RV.x (JU),RV.x (.int .i64 (z1))])) VN.fail)))) VU ?_
 have eq: ∀k,UD (c.toNat:Nat) T lo hi (fwM c.toNat T lo hi n a b u v) k=sfB c T lo hi n a b u v k:=λ_=>rfl
 simp only [VN.sat,UB,UJ,FT,H6,Bool.not_eq_true',not_true_eq_false,false_imp_iff,eq,UY];refine ⟨isRec4 n a b u v,λh1 _=>?_,λh1=>⟨λ_=>?_,λh2=>h1 h2⟩⟩
 ·have hf:=(gD.1 h1).1;have hc:=(BI (kV.1 hf).1).1;have e0:(sfB c T lo hi n a b u v 0).toNat=c.toNat:=by rw [Xq5];omega
  refine ⟨⟨by rw [Xq5];omega,λk hk=>?_⟩,?_⟩
  ·rw [e0] at hk;rw [SI,bY _ _ _ _ _ _ _ _ _ VK];have h2:=TW hf k 0;have h3:=TW hf 0 k;omega
  ·rw [e0];unfold dtB eB;rw [if_pos h1,h1];exact ⟨⟨rfl,rfl⟩,⟨rfl,rfl⟩,True.intro⟩
 ·unfold dtB eB;rw [if_neg h1];exact ⟨⟨rfl,rfl⟩,⟨rfl,rfl⟩,True.intro⟩
end
section
variable {sz k:Nat}{l:List AV}{x:AV}
theorem Qq0(h:x∈U6 sz l k):x∈l:=List.mem_of_mem_drop (List.mem_of_mem_take h)
theorem FQ(hm:x∈U6 sz l k)(h: ∀y∈l,AV.one y=true):AV.one x=true:=h x (Qq0 hm)
end
theorem Ji2{k j:Nat}{a b:Nat->Int}{x y:Int}(h:j<k+1)(hx:x=a k)(hy:y=b k):GI k (λk=>[i (a k),i (b k)]) (U6 2 [i x,i y]) j=[i (a j),i (b j)]:=by
 have e:j-k=0:=VK;show HB (decide (j<k)) [i (a j),i (b j)] (U6 2 [i x,i y] (j-k))=_;rw [e];by_cases hj:j<k
 ·rw [show decide (j<k)=true by simp [hj]]
  rfl
 ·have hk:j=k:=VK;rw [show decide (j<k)=false by simp [hj],hk,hx,hy]
  rfl
section
variable (c T lo hi:Int)(n:Nat)(a b u v:Nat->Int)
def Zq1:St:={σ:=[.agg [i c,i T,i lo,i hi],rds n a b u v,.ptr 0 0,.top,.x (.slice none 0 0),i 0,bX c T lo hi n a b u v,i 0,.top,.top,.top,.top,.top,.top,.top,.top,.top,.top,.top,.top,.top,i (c+1),.top,.top,.top,.top,.top,.top,.top,.top,.top,.top,.top],m:=[(900,.row 70 2 0 (λ_=>[])),(0,.cells 122 [i c,i T,i lo,i hi])],nx:=901}
noncomputable def Jq1:Code:=U9 (VS (U8 Tryz.f134) 0)
def Wh4(k:Nat):St:=(upE [(8,.row 900),(22,i k)] [(900,.row 70 2 (k) (λk=>[i (-(fwB c T lo hi n a b u v k 0)),i (fwB c T lo hi n a b u v 0 k)])),(0,.cells 122 [i c,i T,i lo,i hi])] (Zq1 c T lo hi n a b u v))
def CI(k:Nat):G6->Option St
 | .exit 0=>some (upE [(8,.row 900)] [(900,.row 70 2 (c.toNat+1) (λk=>[i (-(fwB c T lo hi n a b u v k 0)),i (fwB c T lo hi n a b u v 0 k)])),(0,.cells 122 [i c,i T,i lo,i hi])] (Zq1 c T lo hi n a b u v))
 |_=>none
def Jl4:CT:= .leaf (.exit 0,(CI c T lo hi n a b u v 0 (.exit 0)).getD (Zq1 c T lo hi n a b u v))
def Xw0:UG:=GK [(.slot 8,900,70,2)] (HF (Wh4 c T lo hi n a b u v (0)) (Jl4 c T lo hi n a b u v))
abbrev KE:AV:=AV.x (.slice none 0 0)
abbrev Y4:Prop:=(0:Int)=0
theorem Jd5(VT:flt c T lo hi n a b u v=0):G5 VP (.loop Jq1) (Xw0 c T lo hi n a b u v):=by
 refine zC [(.slot 8,900,70,2)] (L:=[]) (VL.cons xL (VL.nil _)) VZ U3 (X:=Nat) (Wh4 c T lo hi n a b u v) (λk=>k<=c.toNat+1) (λk=>c.toNat+1-k) (CI c T lo hi n a b u v) (x0:=0) VW ?_ ?_ ?_
 ·rintro k;kernel_rfl
 ·rintro k y E h;unfold CI at h;split at h
  ·cases h;kernel_rfl
  ·cases h
 ·rintro Q hQ k hx;refine ⟨(k+1),?_⟩;(with_reducible refine D6 (t:=let z0:=(fwM (Int.toNat c) T lo hi n a b u v);let z1:=fwB c T lo hi n a b u v;let z2:=(U0 (roI [] 125 (λk=>UD (↑(Int.toNat c):Int) T lo hi z0 k) 0));let z3:=(UD (↑(Int.toNat c):Int) T lo hi z0 (k+4));(branch (decide ((k:Int)<c+1)) (need [(0:Int)<=(k:Int)/\(k:Int)<=10,(-1000000000000:Int)<=UD (↑(Int.toNat c):Int) T lo hi z0 (k*11+4)/\UD (↑(Int.toNat c):Int) T lo hi z0 (k*11+4)<=1000000000000] (need [(k+1)*16<=140737488355328,RU 1 (U6 2 [iI (-UD (↑(Int.toNat c):Int) T lo hi z0 (k*11+4)),iI z3])] (need [VM ((k:Int)+1)] (need [U0 (agg [iI c,iI T,iI lo,iI hi]),Q4 n a b u v,XP,KE=KE,Y4,z2,Y4,U0 (AV.row 900),U0 (c+1),(k:Int)+1=(↑(k+1):Int),k+1=k+1,GV (k+1) (GI k (λk=>[Bo.i (-z1 k 0),Bo.i (z1 0 k)]) (U6 2 [iI (-UD (↑(Int.toNat c):Int) T lo hi z0 (k*11+4)),iI z3])) (λi=>[Bo.i (-z1 i 0),Bo.i (z1 0 i)]),c=c,T=T,lo=lo,hi=hi] (leaf G6.normal))))) (need [U0 (agg [iI c,iI T,iI lo,iI hi]),Q4 n a b u v,XP,KE=KE,Y4,z2,Y4,U0 (AV.row 900),U0 (c+1),k=Int.toNat c+1,∀(i:Nat),i<Int.toNat c+1->[Bo.i (-z1 i 0),Bo.i (z1 0 i)]=[Bo.i (-z1 i 0),Bo.i (z1 0 i)],c=c,T=T,lo=lo,hi=hi] (leaf (G6.exit 0))))) VU ?_)
  simp only [Jl4,CI,VN.sat,GS] at hQ;have hc:=(BI (kV.1 VT).1).1;have e0:((c.toNat:Nat):Int)=c:=VK;have eq: ∀k,UD c.toNat T lo hi (fwM c.toNat T lo hi n a b u v) k=sfB c T lo hi n a b u v k:=λ_=>rfl
  simp only [VN.sat,UB,UY,GL,UE,VM,UJ,H6,FO,CI,eq]
  refine ⟨λh=>?_,λh=>?_⟩
  ·have h2:=TW VT k 0;have h3:=TW VT 0 k;refine ⟨⟨VK,by rw [SI];omega⟩,⟨VK,λi hi a ha=>FQ ha (by simp [AV.one,Value.oneCell'])⟩,VK,⟨VK,λi hi=>Ji2 hi (by rw [SI]) (by rw [bY _ _ _ _ _ _ _ _ _ VK])⟩,VK,VK⟩
  ·obtain rfl:k=c.toNat+1:=VK;exact ⟨⟨rfl,λ_ _=>True.intro⟩,λE hE=>by cases hE;exact hQ⟩
theorem mG(VT:qI c T lo hi n a b u v true=0)(UI:flt c T lo hi n a b u v=0):VY VP 134 [.agg [i c,i T,i lo,i hi],rds n a b u v] (.tup [.lst 2 (rK c T lo hi n a b u v) (λk=>[i (-(fwB c T lo hi n a b u v k 0)),i (fwB c T lo hi n a b u v 0 k)]),i (eB c T lo hi n a b u v)]):=by
 refine vY (L:=[Xw0 c T lo hi n a b u v]) (Gd.go true (Gd.go false Gd.rest)) (VL.cons xL (VL.nil _)) (VX.ofC (VR.nil _) (VO.nil _) (UC.cons gV (UC.nil _))) VZ Tryz.func134 (UV Tryz.f134) (G7 (lpE (b:= .loop Jq1) VU<|(Jd5 c T lo hi n a b u v UI).N)) (t:=let z0:=fwB c T lo hi n a b u v;(need [UF 4 n λk=>[i (a k),i (b k),i (u k),i (v k)]] (need [decide (qI c T lo hi n a b u v true=0)=true] (need [((0:Int) != 0)=false] (need [VM (c+1)] (need [U0 (agg [iI c,iI T,iI lo,iI hi]),Q4 n a b u v,XP,KE=KE,Y4,U0 (roI [] 125 (λk=>UD (↑(Int.toNat c):Int) T lo hi (fwM (Int.toNat c) T lo hi n a b u v) k) 0),Y4,U0 (AV.row 900),U0 (c+1),(0:Int)=(↑(0:Nat):Int),0=0,∀(i:Nat),i<0->[]=[Bo.i (-z0 i 0),Bo.i (z0 0 i)],c=c,T=T,lo=lo,hi=hi] (leaf (RV.tup [RV.lst 2 (Int.toNat c+1) λk=>[iI (-z0 k 0),iI (z0 0 k)],RV.x (JU)])))))))) VU ?_
 have hc:=(BI (kV.1 UI).1).1;have hl:rK c T lo hi n a b u v=c.toNat+1:=if_pos VT;have he:eB c T lo hi n a b u v=0:=VT;rw [hl,he];simp only [VN.sat,UB,UY,GL,UE,VM,UJ]
 (with_reducible repeat' first|apply And.intro|intro _)
 all_goals first|exact True.intro|with_reducible rfl|omega|exact isRec4 _ _ _ _ _|(simp [*];done)|(rename_i hm;simp only [GN,DU,or_false] at hm;rcases hm with rfl|rfl<;>exact True.intro)
theorem mH(VT:qI c T lo hi n a b u v true≠0):VY VP 134 [.agg [i c,i T,i lo,i hi],rds n a b u v] (.tup [.lst 2 (rK c T lo hi n a b u v) (λk=>[i (-(fwB c T lo hi n a b u v k 0)),i (fwB c T lo hi n a b u v 0 k)]),i (eB c T lo hi n a b u v)]):=by
 refine vY (L:=[]) (Gd.go false (Gd.go true Gd.rest)) (VL.cons xL (VL.nil _)) (VX.ofC (VR.nil _) (VO.nil _) (UC.cons gV (UC.nil _))) VZ Tryz.func134 (UV Tryz.f134) G8 (t:=let z0:=qI c T lo hi n a b u v true;(need [UF 4 n λk=>[i (a k),i (b k),i (u k),i (v k)]] (need [decide (z0=0)=false] (need [(z0 != 0)=true] (leaf (RV.tup [RV.x (.slice none 0 0),RV.x (.int .i64 (z0))])))))) VU ?_
 have hl:rK c T lo hi n a b u v=0:=if_neg VT;have he:eB c T lo hi n a b u v=qI c T lo hi n a b u v true:=rfl;rw [hl,he];simp only [VN.sat,UB,UY,GL,UE,VM,UJ]
 (with_reducible repeat' first|apply And.intro|intro _)
 all_goals first|exact True.intro|with_reducible rfl|omega|exact isRec4 _ _ _ _ _|(simp [*];done)
end
def S_Heights:UZ
 |[.agg [.x (.int .i64 c),.x (.int .i64 T),.x (.int .i64 lo),.x (.int .i64 hi)],.lst 4 n f]=>some ([UF 4 n f],.tup [.lst 2 (rK c T lo hi n (col 0 f) (col 1 f) (col 2 f) (col 3 f)) (λk=>[i (-(fwB c T lo hi n (col 0 f) (col 1 f) (col 2 f) (col 3 f) k 0)),i (fwB c T lo hi n (col 0 f) (col 1 f) (col 2 f) (col 3 f) 0 k)]),i (eB c T lo hi n (col 0 f) (col 1 f) (col 2 f) (col 3 f))])
 |_=>none
theorem vU(c T lo hi:Int)(n:Nat)(a b u v:Nat->Int):VY VP 134 [.agg [i c,i T,i lo,i hi],rds n a b u v] (.tup [.lst 2 (rK c T lo hi n a b u v) (λk=>[i (-(fwB c T lo hi n a b u v k 0)),i (fwB c T lo hi n a b u v 0 k)]),i (eB c T lo hi n a b u v)]):=by
 by_cases h:qI c T lo hi n a b u v true=0
 ·exact mG c T lo hi n a b u v h (gD.1 h).1
 ·exact mH c T lo hi n a b u v h
theorem Heights_ok:VQ VP 134 S_Heights:=by
 refine ⟨(UK Tryz.func134),?_⟩;intro avs ns res h hn;unfold S_Heights at h;split at h
 ·rename_i c T lo hi n f;cases h;have hr:UF 4 n f:=hn _ (GF);exact (vU c T lo hi n (col 0 f) (col 1 f) (col 2 f) (col 3 f)).same (.cons (.refl _) (.cons (.lst 4 n _ _ hr) .nil))
 ·cases h
end Go.Proofs.YtlclobclmfhlmaaGreatDoor.Bo
