/- Contracts, put together. Conditions: those of each. -/
import Derived.Test.YtlclobclmfhlmaaGreatDoorMc
import Derived.Test.YtlclobclmfhlmaaGreatDoorRows
set_option linter.unusedSimpArgs false
set_option linter.unusedVariables false
set_option maxRecDepth 100000
namespace Go.Proofs.YtlclobclmfhlmaaGreatDoor
noncomputable abbrev VT:Go.Program:=Tryz.prog
abbrev Ad:=Go.Sx.U1.of (Go.Sx.VV.nil VT) (Go.Sx.VS.nil VT)
abbrev Aa:=Go.Sx.VP.nil VT
abbrev Ab:=Go.Sx.VV.nil VT
abbrev Ac:=Go.Sx.VS.nil VT
abbrev Ae:=@Go.Sx.VP.cons
abbrev Af:=@Go.Sx.VV.cons
abbrev Ag:=@Go.Sx.VS.cons
abbrev Ah:=@Go.Sx.UG.cons
abbrev Ai:=@Go.Sx.U1.of
abbrev Aj:=@Go.Sx.U1.ofC
end Go.Proofs.YtlclobclmfhlmaaGreatDoor
namespace Go.Proofs.YtlclobclmfhlmaaGreatDoor.Pt
open Go Go.Sx Go.RowKit
open Go.Sx.VR (need branch leaf)
open Go.Sx.AV (lst ptr agg roI tup top)
theorem U3:Tryz.prog.follows .mixedOrders=true:=VY
abbrev i(n:Int):AV:= .x (.int .i64 n)
abbrev iI(n:Int):AV:= .x (.int .i64 n)
abbrev bl(b:Bool):AV:= .x (.bool b)
def bt(U n O:Int):Bool:=decide (U<=n)&&decide (n<=O)
def insB(U a b O:Int):Bool:=decide (U<=a)&&decide (a<=b)&&decide (b<=O)
theorem insB_iff(U a b O:Int):insB U a b O=true↔U<=a/\a<=b/\b<=O:=by simp [insB,and_assoc]
def scB(a b:Int):Bool:=bt (-1000) a 1000&&bt (-1000) b 1000&&(a != b)
def BK:G0
 |[.x (.int .i64 n),.x (.int .i64 U),.x (.int .i64 O)]=>some ([],bl (bt U n O))
 |_=>none
theorem xH(n U O:Int):U2 VT 227 [i n,i U,i O] (bl (bt U n O)):=by
 refine H3 Tryz.func227 (t:=branch (decide (U<=n)) (leaf (RV.x (.bool (decide (n<=O))))) (leaf (RV.x (.bool false)))) VY ?_;simp only [VR.sat,UF,GA,GR,UI,UL];all_goals (simp+contextual [bt,insB,scB,Bool.and_assoc]);all_goals omega
theorem RN:VU VT 227 BK:=by
 refine ⟨(UM Tryz.func227),?_⟩;intro avs ns Z h I;unfold BK at h;split at h
 ·cases h;exact xH _ _ _
 ·cases h
def BL:G0
 |[.agg [.x (.int .i64 a),.x (.int .i64 b)],.x (.int .i64 U),.x (.int .i64 O)]=>some ([],bl (insB U a b O))
 |_=>none
theorem xW(a b U O:Int):U2 VT 204 [.agg [i a,i b],i U,i O] (bl (insB U a b O)):=by
 refine H3 Tryz.func204 (t:=branch (decide (U<=a)) (branch (decide (a<=b)) (leaf (RV.x (.bool (decide (b<=O))))) (leaf (RV.x (.bool false)))) (leaf (RV.x (.bool false)))) VY ?_;simp only [VR.sat,UF,GA,GR,UI,UL];all_goals (simp+contextual [bt,insB,scB,Bool.and_assoc]);all_goals omega
theorem B4:VU VT 204 BL:=by
 refine ⟨(UM Tryz.func204),?_⟩;intro avs ns Z h I;unfold BL at h;split at h
 ·cases h;exact xW _ _ _ _
 ·cases h
theorem mul_bd{x y X Y:Int}(hx: -X<=x/\x<=X)(hy: -Y<=y/\y<=Y): -(X*Y)<=x*y/\x*y<=X*Y:=by
 have h1:x.natAbs<=X.natAbs:=VO;have h2:y.natAbs<=Y.natAbs:=VO;have h3:(x*y).natAbs<=(X*Y).natAbs:=by rw [Int.natAbs_mul,Int.natAbs_mul];exact Nat.mul_le_mul h1 h2
 have h4:0<=X*Y:=Int.mul_nonneg VO VO;omega
abbrev scs(n:Nat)(a b:Nat->Int):AV:= .lst 2 n (λk=>[i (a k),i (b k)])
theorem isRec2(n:Nat)(a b:Nat->Int):UJ 2 n (λk=>[i (a k),i (b k)]):=λ_ _=>rfl
def col(j:Nat)(f:Nat->List AV):Nat->Int:=λk=>Wn9 (f k) j
def C6(p q:Nat->Int)(k:Nat):Bool:=bt 1 (p k) 2000&&(bt 1 (q k) 2000&&(decide (k=0)||(decide (p (k-1)<p k)&&decide (q (k-1)<q k))))
section
variable (n:Nat)
def zO(p q:Nat->Int):Bool:=DF (C6 p q) n
abbrev QT(p:Nat->Int)(q:Nat->Int):AV:=lst 2 n λk=>[iI (p k),iI (q k)]
def Xe2(p q:Nat->Int):St:={σ:=[QT n p q]++HO 10 [QT n p q,iI (n:Int)]++HO 42 [],m:=[],nx:=10}
noncomputable def Jr8:Code:=UE (VX (UB Tryz.f203) 0)
def Wk7(p q:Nat->Int)(k:Nat):St:=(upM [(13,i k)] (Xe2 n p q))
def vY(p q:Nat->Int)(k:Nat):GB->Option St
 | .exit 0=>some (upM [] (Xe2 n p q))
 | .ret=>some (upM [(2,i 1)] (Xe2 n p q))
 |_=>none
def Jn2(p q:Nat->Int):CT:= .branch (zO n p q) (.leaf (.exit 0,(vY n p q 0 (.exit 0)).getD (Xe2 n p q))) (.leaf (.ret,(vY n p q 0 .ret).getD (Xe2 n p q)))
def Xy2(p q:Nat->Int):UN:=(HM (Wk7 n p q (0)) (Jn2 n p q))
abbrev JR(p:Nat->Int)(q:Nat->Int):Prop:=(QT n p q)=QT n p q
theorem Ja0(p q:Nat->Int)(VW:n<=100000):GC VT (.loop Jr8) (Xy2 n p q):=by
 refine HL (L:=[]) (Ae RN Aa) U3 U8 (X:=Nat) (Wk7 n p q) (λk=>k<=n/\ ∀j,j<k->C6 p q j=true) (λk=>n-k) (vY n p q) (x0:=0) ⟨VO,λj hj=>VO⟩ ?_ ?_ ?_
 ·rintro k;kernel_rfl
 ·rintro k y E h;unfold vY at h;split at h
  ·cases h;kernel_rfl
  ·cases h;kernel_rfl
  ·cases h
 ·rintro Q hQ k hx;refine ⟨(k+1),?_⟩;(with_reducible refine DN (t:=let A:=(need [JR n p q,U4 (1:Int),JR n p q,U4 (n:Int)] (leaf GB.ret));let W:=(need [VQ ((k:Int)+1)] (need [JR n p q,JR n p q,U4 (n:Int),(k:Int)+1=(↑(k+1):Int)] (leaf GB.normal)));(branch (decide ((k:Int)<(n:Int))) (need [UO k n] (branch (!bt (1:Int) (p k) (2000:Int)) A (branch (!bt (1:Int) (q k) (2000:Int)) A (branch (decide ((k:Int)>0)) (need [VQ ((k:Int)-1)] (need [UO ((k:Int)-1) n] (branch (decide (p k<=p ((k:Int)-1).toNat)) A (need [VQ ((k:Int)-1)] (need [UO ((k:Int)-1) n] (branch (decide (q k<=q ((k:Int)-1).toNat)) A W)))))) W)))) (need [JR n p q,JR n p q,U4 (n:Int)] (leaf (GB.exit 0))))) VY ?_);simp only [Jn2,vY,VR.sat,GZ] at hQ;have Wr7:k<n->C6 p q k=false->zO n p q=false:=by
   intro h1 h2;rw [←Bool.not_eq_true];intro h3;have:=GY.1 h3 k h1;rw [h2] at this;cases this
  have d6:C6 p q k=true-> ∀j,j<k+1->C6 p q j=true:=by
   intro h1 j hj;rcases (show j<k\/j=k by omega) with h|rfl
   ·exact hx.2 j h
   ·exact h1
  have PL: ¬k<n->zO n p q=true:=λh=>GY.2 (λj hj=>hx.2 j VO)
  have hQ1: ∀E,vY n p q k .ret=some E->zO n p q=false->Q (.ret,E):=by
   intro E hE hf;cases hE;exact hQ.2 hf
  have hQ2: ∀E,vY n p q k (.exit 0)=some E->zO n p q=true->Q (.exit 0,E):=by
   intro E hE hf;cases hE;exact hQ.1 hf
  have t1:((k:Int)-1).toNat=k-1:=VO;have hsb:C6 p q k=(bt 1 (p k) 2000&&(bt 1 (q k) 2000&&(decide (k=0)||(decide (p (k-1)<p k)&&decide (q (k-1)<q k))))):=rfl
  simp only [VR.sat,UF,UL,HD,VQ,DR,t1]
  with_reducible repeat' first|apply Al|intro _
  all_goals first|exact Ak|omega|exact hQ1 _ (by assumption) (Wr7 VO (by rw [hsb];grind))|exact hQ2 _ (by assumption) (PL VO)|exact d6 (by rw [hsb];grind) _ (by assumption)
def tbE(p q:Nat->Int):Int:=if 8<n then 3 else if n<2 then 1 else if zO n p q then 0 else 1
end
def Qi3:G0
 |[.lst 2 n f]=>some ([UJ 2 n f,n<=100000],i (tbE n (col 0 f) (col 1 f)))
 |_=>none
abbrev KB:Value:=Value.int IntKind.i64 (0:Int)
theorem Wc7(n:Nat)(p q:Nat->Int)(VW:n<=100000):U2 VT 203 [scs n p q] (i (tbE n p q)):=by
 refine U6 (L:=[Xy2 n p q]) (Ae RN Aa) U3 Tryz.func203 (UY Tryz.f203) (G4 (lpE (b:= .loop Jr8) VY<|Ja0 n p q VW)) (t:=let A:=(leaf (RV.x (.int .i64 (1:Int))));(branch (decide ((n:Int)>8)) (leaf (RV.x (.int .i64 (3:Int)))) (branch (decide ((n:Int)<2)) A (need [JR n p q,JR n p q,U4 (n:Int),(0:Int)=(↑(0:Nat):Int)] (branch (zO n p q) (leaf (RV.x (KB))) A))))) VY ?_
 simp only [VR.sat,UF,GA,UI,UL,HD,tbE,Int.natCast_zero];refine ⟨λh=>?_,λh=>⟨λh2=>?_,λh2=>⟨λh3=>?_,λh3=>?_⟩⟩⟩
 ·simp [show 8<n by omega]
 ·simp [show ¬8<n by omega,show n<2 by omega]
 ·simp [show ¬8<n by omega,show ¬n<2 by omega,h3]
 ·simp [show ¬8<n by omega,show ¬n<2 by omega,h3]
theorem Wc6:VU VT 203 Qi3:=by
 refine ⟨(UM Tryz.func203),?_⟩;intro avs ns Z h I;unfold Qi3 at h;split at h
 ·rename_i n f;cases h;have hr:UJ 2 n f:=I _ VZ;exact (Wc7 n (col 0 f) (col 1 f) (I _ VZ)).same (.cons (.lst 2 n _ _ hr) .nil)
 ·cases h
def RS(n:Nat)(p:Nat->Int)(x:Int):Nat:=H0 (λk=>decide (x<=p (k+1))) (n-1)
def fP(p q:Nat->Int)(x:Int)(k:Nat):Int:=q k+((q (k+1)-q k)*(x-p k)).tdiv (p (k+1)-p k)
def boilI(n:Nat)(p q:Nat->Int)(x:Int):Int:=fP p q x (RS n p x)
theorem LW{n:Nat}{p q:Nat->Int}(h:zO n p q=true){k:Nat}(hk:k<n):1<=p k/\p k<=2000/\1<=q k/\q k<=2000/\(k=0\/p (k-1)<p k/\q (k-1)<q k):=by
 have:=GY.1 h k hk;simp only [C6,bt,HE,Bl,y6] at this;omega
theorem C5{n:Nat}{p q:Nat->Int}(h:zO n p q=true){j k:Nat}(hjk:j<=k)(hk:k<n):p j<=p k/\q j<=q k:=by
 induction k with
 |zero=>
      have:j=0:=VO;subst this;exact ⟨Int.le_refl _,Int.le_refl _⟩
 |succ k ih=>
  rcases (show j<=k\/j=k+1 by omega) with h1|rfl
  ·have:=ih h1 VO;have h2:=LW h hk;simp only [Bi] at h2;omega
  ·exact ⟨Int.le_refl _,Int.le_refl _⟩
theorem Zg1{n:Nat}{p:Nat->Int}{x:Int}(I:2<=n)(hx:x<=p (n-1)):RS n p x<n-1:=by
 obtain ⟨h1,h2,h3⟩:=F0 (λk=>decide (x<=p (k+1))) (n-1)
 unfold RS;rcases An (H0 (λk=>decide (x<=p (k+1))) (n-1)) (n-1) with h|h
 ·exact h
 ·have:=h2 (n-2) VO;rw [show n-2+1=n-1 by omega] at this
  simp at this;omega
theorem catF1{k j:Nat}{a:Nat->Int}{x:Int}(h:j<k+1)(hx:x=a k):GM k (λk=>[i (a k)]) (UA 1 [i x]) j=[i (a j)]:=by
 have e:j-k=0:=VO;show HG (decide (j<k)) [i (a j)] (UA 1 [i x] (j-k))=_;rw [e];by_cases hj:j<k
 ·rw [show decide (j<k)=true by simp [hj]]
  rfl
 ·have hk:j=k:=VO;rw [show decide (j<k)=false by simp [hj],hk,hx]
  rfl
theorem Jl4(a b:Nat->Int):col 0 (λk=>[i (a k),i (b k)])=a:=rfl
theorem Jl3(a b:Nat->Int):col 1 (λk=>[i (a k),i (b k)])=b:=rfl
theorem CD{n:Nat}{p q:Nat->Int}{x:Int}(I:2<=n)(ht:zO n p q=true)(hx:p 0<=x/\x<=p (n-1)):RS n p x<n-1/\p (RS n p x)<=x/\x<=p (RS n p x+1):=by
 have h1:=Zg1 I hx.2;obtain ⟨f1,f2,f3⟩:=F0 (λk=>decide (x<=p (k+1))) (n-1)
 have h3:=f3 h1;refine ⟨h1,?_,BO h3⟩;rcases Nat.eq_zero_or_pos (RS n p x) with h|h
 ·rw [h];exact hx.1
 ·have:=f2 (RS n p x-1) (by unfold RS at h ⊢;omega)
  rw [show RS n p x-1+1=RS n p x by omega] at this
  simp at this;omega
theorem fO{p q:Nat->Int}{x:Int}{k:Nat}(hp:p k<p (k+1))(hq:q k<q (k+1))(h1:p k<=x)(h2:x<=p (k+1)):fP p q x k=q k+(q (k+1)-q k)*(x-p k) / (p (k+1)-p k)/\q k<=fP p q x k/\fP p q x k<=q (k+1):=by
 have m0:0<=(q (k+1)-q k)*(x-p k):=Int.mul_nonneg VO VO;have e:fP p q x k=q k+(q (k+1)-q k)*(x-p k) / (p (k+1)-p k):=by
  unfold fP;rw [Int.tdiv_eq_ediv_of_nonneg m0]
 have m1:(q (k+1)-q k)*(x-p k)<=(q (k+1)-q k)*(p (k+1)-p k):=Int.mul_le_mul_of_nonneg_left VO VO;have d0:0<=(q (k+1)-q k)*(x-p k) / (p (k+1)-p k):=Int.ediv_nonneg m0 VO;have d1:(q (k+1)-q k)*(x-p k) / (p (k+1)-p k)<=q (k+1)-q k:=Int.ediv_le_of_le_mul VO m1;rw [e];omega
theorem Wd8{n:Nat}{p:Nat->Int}{x y:Int}(h:x<=y):RS n p x<=RS n p y:=by
 obtain ⟨f1,f2,f3⟩:=F0 (λk=>decide (x<=p (k+1))) (n-1)
 obtain ⟨g1,g2,g3⟩:=F0 (λk=>decide (y<=p (k+1))) (n-1)
 unfold RS;rcases An (H0 (λk=>decide (y<=p (k+1))) (n-1)) (H0 (λk=>decide (x<=p (k+1))) (n-1)) with hl|hl
 ·have a1:=f2 _ hl;have a2:=g3 VO;simp at a1 a2;omega
 ·exact hl
theorem boil_spec{n:Nat}{p q:Nat->Int}{x:Int}(I:2<=n)(ht:zO n p q=true)(hx:p 0<=x/\x<=p (n-1)):q 0<=boilI n p q x/\boilI n p q x<=q (n-1)/\1<=boilI n p q x/\boilI n p q x<=2000:=by
 obtain ⟨h1,h2,h3⟩:=CD I ht hx;have s:=LW ht (show RS n p x+1<n by omega)
 simp only [Bi] at s;have b:=fO (p:=p) (q:=q) (x:=x) (k:=RS n p x) VO VO h2 h3;have m1:=C5 ht (show 0<=RS n p x by omega) (show RS n p x<n by omega)
 have m2:=C5 ht (show RS n p x+1<=n-1 by omega) (show n-1<n by omega)
 have z:=LW ht (show 0<n by omega)
 have z2:=LW ht (show n-1<n by omega)
 unfold boilI;omega
theorem boil_mono{n:Nat}{p q:Nat->Int}{x y:Int}(I:2<=n)(ht:zO n p q=true)(hx:p 0<=x)(hxy:x<=y)(hy:y<=p (n-1)):boilI n p q x<=boilI n p q y:=by
 obtain ⟨h1,h2,h3⟩:=CD I ht (x:=x) VO;obtain ⟨g1,g2,g3⟩:=CD I ht (x:=y) VO;have s:=LW ht (show RS n p x+1<n by omega)
 have s':=LW ht (show RS n p y+1<n by omega)
 simp only [Bi] at s s';have b:=fO (p:=p) (q:=q) (x:=x) (k:=RS n p x) VO VO h2 h3;have b':=fO (p:=p) (q:=q) (x:=y) (k:=RS n p y) VO VO g2 g3;have hm:=Wd8 (n:=n) (p:=p) hxy;unfold boilI;rcases An (RS n p x) (RS n p y) with hl|hl
 ·have m:=C5 ht (show RS n p x+1<=RS n p y by omega) (show RS n p y<n by omega)
  omega
 ·have e:RS n p x=RS n p y:=VO;rw [b.1,b'.1,e];rw [e] at s;have:=Int.ediv_le_ediv (show 0<p (RS n p y+1)-p (RS n p y) by omega) (Int.mul_le_mul_of_nonneg_left (show x-p (RS n p y)<=y-p (RS n p y) by omega) (show 0<=q (RS n p y+1)-q (RS n p y) by omega))
  omega
def bN:G0
 |[.lst 2 n f]=>some ([],.fn (.func 241) [] [.ro [.lst 2 n f]])
 |_=>none
theorem Wd3(n:Nat)(f:Nat->List AV):FH VT 228 [.lst 2 n f] (.fn (.func 241) [] [.ro [.lst 2 n f]]):=by
 refine D2 (L:=[]) Aa Ad U3 Tryz.func228 (UY Tryz.f228) G9 (t:=leaf (AV.fn (Fn.func 241) [] [AV.ro [lst 2 n λa=>f a]])) VY ?_
 exact rfl
theorem NT:P7 VT 228 bN:=by
 refine ⟨(UM Tryz.func228),?_⟩;intro avs ns Z h I;unfold bN at h;split at h
 ·cases h;exact Wd3 _ _
 ·cases h
def stV(p q:Nat->Int)(k:Nat):Value:= .agg #[.int .i64 (p k),.int .i64 (q k)]
def spV(p q:Nat->Int)(k:Nat):List Value:=[stV p q k,stV p q (k+1)]
section
variable (l:Nat)
abbrev KZ:AV:=AV.fn (Fn.yield l) [] []
def bY(n:Nat)(p q:Nat->Int):St:={σ:=[KZ l,AV.ro [QT n p q],top,top,top,top,lst 2 (n-(1:Int).toNat) λi=>[iI (p ((1:Int).toNat+i)),iI (q ((1:Int).toNat+i))],iI (↑(n-(1:Int).toNat):Int)]++HO 14 [],m:=[],nx:=4,gh:=some 0}
noncomputable def Qx1:Code:=UE (VX (UB Tryz.f241) 0)
def uD(n:Nat)(p q:Nat->Int)(k:Nat):St:={σ:=H6 [(8,i k)] (bY l n p q).σ,m:=[],nx:=0,gh:=some (k) }
def PH(n:Nat)(p q:Nat->Int)(k:Nat):GB->Option St
 | .exit 0=>some {σ:=H6 [] (bY l n p q).σ,m:=[],nx:=0,gh:=some (n-1) }
 | .ret=>some {σ:=H6 [] (bY l n p q).σ,m:=[],nx:=0,gh:=none}
 |_=>none
def Wz2(n:Nat)(p q:Nat->Int):CT:= .may True (.leaf (.exit 0,(PH l n p q 0 (.exit 0)).getD (bY l n p q))) (.leaf (.ret,(PH l n p q 0 .ret).getD (bY l n p q)))
def nH(n:Nat)(p q:Nat->Int):UN:=GO [] (HM (uD l n p q (0)) (Wz2 l n p q))
theorem Ja4(n:Nat)(p q:Nat->Int)(VW:1<=n/\n<=100000){cx:Cx}(hX:U1 VT {Y:=some (l,(n-1),(spV p q)) } cx):HN VT none cx (.loop Qx1) (nH l n p q):=by
 refine F5 [] (L:=[]) Aa hX U3 G9 (V:=Nat) (uD l n p q) (λk=>k<=n-1) (λk=>n-k) (PH l n p q) (x0:=0) VZ ?_ ?_ ?_
 ·rintro k;kernel_rfl
 ·rintro k y E h;unfold PH at h;split at h
  ·cases h;kernel_rfl
  ·cases h;kernel_rfl
  ·cases h
 ·rintro Q hQ k hx;refine ⟨(k+1),?_⟩;have e:HR VT [] {Y:=some (l,(n-1),(spV p q)) } [] [] Qx1 (uD l n p q k) (uD l n p q ((k+1))) (PH l n p q k)=(let A:=(U4 (lst 2 (n-(1:Int).toNat) λi=>[iI (p ((1:Int).toNat+i)),iI (q ((1:Int).toNat+i))]));let W:=(U4 (↑(n-(1:Int).toNat):Int));(branch (decide ((k:Int)<(↑(n-(1:Int).toNat):Int))) (need [UO k (↑(n-(1:Int).toNat):Int)] (need [UO k n] (need [l=l,k<n-1,[Value.agg {toList:=[Value.int IntKind.i64 (p k),Value.int IntKind.i64 (q k)] },Value.agg {toList:=[Value.int IntKind.i64 (p ((1:Int).toNat+k)),Value.int IntKind.i64 (q ((1:Int).toNat+k))] }]=[Value.agg {toList:=[Value.int IntKind.i64 (p k),Value.int IntKind.i64 (q k)] },Value.agg {toList:=[Value.int IntKind.i64 (p (k+1)),Value.int IntKind.i64 (q (k+1))] }]] (VR.may True (need [VQ ((k:Int)+1)] (need [KZ l=KZ l,U4 (AV.ro [QT n p q]),A,W,(k:Int)+1=(↑(k+1):Int),k+1=k+1] (leaf GB.normal))) (need [KZ l=KZ l,U4 (AV.ro [QT n p q]),A,W] (leaf GB.ret)))))) (need [KZ l=KZ l,U4 (AV.ro [QT n p q]),A,W,k=n-1] (leaf (GB.exit 0))))):=VY
  rw [e];simp only [Wz2,PH,VR.sat,GZ] at hQ;have hQ1: ∀E,PH l n p q k (.exit 0)=some E->Q (.exit 0,E):=λE hE=>by cases hE;exact hQ.1 trivial
  have hQ2: ∀E,PH l n p q k .ret=some E->Q (.ret,E):=λE hE=>by cases hE;exact hQ.2
  have t1:(1:Int).toNat=1:=rfl;have t2:1+k=k+1:=VO;simp only [VR.sat,UF,UL,HD,VQ,DR,t1,t2];clear e hQ;all_goals exact VB
end
section
variable (n:Nat)
theorem o8(p q:Nat->Int)(VW:1<=n/\n<=100000):PQ Tryz.prog 241 [.ro [scs n p q]] ((n-1)) (spV p q):=by
 refine PF (L:=λl=>[nH l n p q]) Aa U3 (UM Tryz.func241) Tryz.func241 (UY Tryz.f241) VY (λl cx hX=>G4 (lpE (b:= .loop Qx1) VY<|Ja4 l n p q VW hX)) (t:=λl=>(need [(0:Int)<=1/\(1:Int)<=(n:Int)/\(n:Int)<=(n:Int)] (need [U4 (AV.fn (Fn.yield l) [] []),U4 (AV.ro [QT n p q]),U4 (lst 2 (n-(1:Int).toNat) λi=>[iI (p ((1:Int).toNat+i)),iI (q ((1:Int).toNat+i))]),U4 (↑(n-(1:Int).toNat):Int),(0:Int)=(↑(0:Nat):Int),0=0] (VR.may True (need [n-1=n-1] (leaf PUnit.unit)) (leaf PUnit.unit))))) (λl=>VY) ?_
 intro l;simp only [VR.sat,UF,GA,GR,UI,VQ,UL,HD,RF];all_goals exact VB
abbrev K5(p:Nat->Int)(q:Nat->Int):AV:=AV.fn (Fn.func 241) [] [AV.ro [QT n p q]]
def Qb0(p q:Nat->Int)(y:Int):St:={σ:=[QT n p q,iI y,top,ptr 0 0,ptr 1 0,top,top,top,K5 n p q]++HO 25 [],m:=[(1,GU.cells 3 [iI 0]),(0,GU.cells 3 [iI y])],nx:=4}
def rfF:Option Code->Operand
 |some (.rangeFunc f _ _ _)=>f
 |_=> .const .nilFunc
def zS:Option Code->Array Nat
 |some (.rangeFunc _ ps _ _)=>ps
 |_=>#[]
def MZ:Option Code->Code
 |some (.rangeFunc _ _ a _)=>a
 |_=> .skip
def MY:Option Code->Code
 |some (.rangeFunc _ _ _ b)=>b
 |_=> .skip
noncomputable def Zv8:Code:=MZ (VX (UB Tryz.f205) 0)
noncomputable def Qx3:Code:=MY (VX (UB Tryz.f205) 0)
def uE(p q:Nat->Int)(y:Int)(k:Nat):St:=(upM [] (Qb0 n p q y))
def B0(p q:Nat->Int)(y:Int)(k:Nat):GB->Option St
 | .ret=>some (upE [] [(1,.cells 3 [i (boilI n p q y)])] (Qb0 n p q y))
 |_=>none
def Wz6(p q:Nat->Int)(y:Int):CT:= .leaf (.ret,(B0 n p q y 0 .ret).getD (Qb0 n p q y))
def nL(p q:Nat->Int)(y:Int):UN:=GO [] (HM (uE n p q y (0)) (Wz6 n p q y))
abbrev V1:Ext:={R:=[(228,bN)],H:=[] }
theorem Jm0(p q:Nat->Int)(y:Int)(VW:2<=n/\n<=100000)(UK:zO n p q=true)(HY: -100000<=y/\y<=p (n-1)):HP VT (.rangeFunc (rfF (VX (UB Tryz.f205) 0)) (zS (VX (UB Tryz.f205) 0)) Zv8 Qx3) (nL n p q y):=by
 refine LI [] (L:=[]) Aa (Ai (Af NT Ab) Ac) U3 U8 (V:=Nat) (uE n p q y) (λk=>k<=n-1/\ ∀j,j<k->decide (y<=p (j+1))=false) (λk=>k) (B0 n p q y) (x0:=0) ⟨VO,λj hj=>VO⟩ rfl ?_ ?_ ?_ ?_ (g:=241) (caps:=[.ro [scs n p q]]) VY VY (o8 n p q VO) (λ_=>rfl) ?_
 ·rintro k;kernel_rfl
 ·rintro k y E h;unfold B0 at h;split at h
  ·cases h;kernel_rfl
  ·cases h
 ·rintro k;rfl
 ·rintro k y E h;unfold B0 at h;split at h
  ·cases h;rfl
  ·cases h
 ·rintro Q hQ k hx;refine ⟨λhlt=>⟨(k+1),rfl,?_⟩,λPL=>?_⟩
  ·have e:CF VT [] V1 [] [] (zS (VX (UB Tryz.f205) 0)).toList ((spV p q) (k)) Zv8 Qx3 (uE n p q y k) (uE n p q y ((k+1))) (B0 n p q y k)=(branch (decide (y<=p (k+1))) (need [VQ (q (k+1)-q k)] (need [VQ (y-p k)] (need [VQ ((q (k+1)-q k)*(y-p k))] (need [VQ (p (k+1)-p k)] (need [p (k+1)-p k≠0,VQ (Int.tdiv ((q (k+1)-q k)*(y-p k)) (p (k+1)-p k))] (need [VQ (q k+Int.tdiv ((q (k+1)-q k)*(y-p k)) (p (k+1)-p k))] (need [JR n p q,y=y,U4 (ptr 0 0),U4 (ptr 1 0),U4 (K5 n p q),q k+Int.tdiv ((q (k+1)-q k)*(y-p k)) (p (k+1)-p k)=boilI n p q y] (leaf GB.ret)))))))) (need [JR n p q,y=y,U4 (ptr 0 0),U4 (ptr 1 0),U4 (K5 n p q),U4 (0:Int),y=y] (leaf GB.normal))):=VY;rw [e];simp only [Wz6,B0,VR.sat,GZ] at hQ;have hQ2: ∀E,B0 n p q y k .ret=some E->Q (.ret,E):=λE hE=>by cases hE;exact hQ
   simp only [VR.sat,UF,UL,HD,VQ];clear e hQ;have sl:=LW UK (show n-1<n by omega)
   have s0:=LW UK (show k<n by omega)
   have s1:=LW UK (show k+1<n by omega)
   simp only [Bi] at s1;have m:=mul_bd (x:=q (k+1)-q k) (y:=y-p k) (X:=2000) (Y:=200000) VO VO;have dv:(((q (k+1)-q k)*(y-p k)).tdiv (p (k+1)-p k)).natAbs<=((q (k+1)-q k)*(y-p k)).natAbs:=by
    rw [Int.natAbs_tdiv];exact Nat.div_le_self _ _
   refine ⟨λh=>?_,λh=>?_⟩
   ·have hf:RS n p y=k:=jD hlt (by simpa using h) hx.2
    have hbo:boilI n p q y=q k+((q (k+1)-q k)*(y-p k)).tdiv (p (k+1)-p k):=by unfold boilI;rw [hf];rfl
    rw [hbo];all_goals exact VB
   ·refine ⟨VO,λj hj=>?_⟩
    rcases (show j<k\/j=k by omega) with h1|rfl
    ·have:=hx.2 j h1;simpa using this
    ·exact h
  ·exfalso;have:=hx.2 (n-2) VO;rw [show n-2+1=n-1 by omega] at this
   simp at this;omega
theorem Xo3(p q:Nat->Int)(y:Int)(VW:2<=n/\n<=100000)(UK:zO n p q=true)(HY: -100000<=y/\y<=p (n-1)):U2 VT 205 [scs n p q,i y] (i (boilI n p q y)):=by
 refine GF (L:=[nL n p q y]) Aa (Ai (Af NT Ab) Ac) U3 Tryz.func205 (UY Tryz.f205) (G4 (lpE (b:= .rangeFunc (rfF (VX (UB Tryz.f205) 0)) (zS (VX (UB Tryz.f205) 0)) Zv8 Qx3) VY<|Jm0 n p q y VW UK HY)) (t:=need [JR n p q,y=y,U4 (ptr 0 0),U4 (ptr 1 0),U4 (K5 n p q),U4 (0:Int),y=y] (leaf (RV.x (.int .i64 (boilI n p q y))))) VY ?_
 simp only [VR.sat,UF,GA,GR,UI,VQ,UL];all_goals first|omega|grind
end
def Xa3:G0
 |[.lst 2 n f,.x (.int .i64 y)]=>some ([UJ 2 n f,2<=n/\n<=100000,zO n (col 0 f) (col 1 f)=true,-100000<=y/\y<=col 0 f (n-1)],i (boilI n (col 0 f) (col 1 f) y))
 |_=>none
theorem Xo2:VU VT 205 Xa3:=by
 refine ⟨(UM Tryz.func205),?_⟩;intro avs ns Z h I;unfold Xa3 at h;split at h
 ·rename_i n f y;cases h;have hr:UJ 2 n f:=I _ VZ;exact (Xo3 n (col 0 f) (col 1 f) y (I _ VZ) (I _ VZ) (I _ VZ)).same (.cons (.lst 2 n _ _ hr) (.cons (.refl _) .nil))
 ·cases h
section
variable (n:Nat)(p q:Nat->Int)(U O:Int)
def blE:Int:=if tbE n p q=0 then (if insB (p 0) U O (p (n-1)) then 0 else 2) else tbE n p q
def blLo:Int:=if blE n p q U O=0 then boilI n p q U else 0
def blHi:Int:=if blE n p q U O=0 then boilI n p q O else 0
end
theorem Wc5{n:Nat}{p q:Nat->Int}(h:tbE n p q=0):2<=n/\n<=8/\zO n p q=true:=by
 unfold tbE at h;split at h
 ·omega
 ·split at h
  ·omega
  ·split at h
   ·rename_i h3;exact ⟨VO,VO,h3⟩
   ·omega
theorem Xf2(n:Nat)(p q:Nat->Int)(U O:Int)(VW:n<=100000):U2 VT 172 [scs n p q,.agg [i U,i O]] (.tup [.agg [i (blLo n p q U O),i (blHi n p q U O)],i (blE n p q U O)]):=by
 refine U6 (L:=[]) (Ae Wc6 (Ae B4 (Ae Xo2 Aa))) U3 Tryz.func172 (UY Tryz.f172) U8 (t:=need [UJ 2 n λk=>[i (p k),i (q k)],n<=100000] (branch (tbE n p q != 0) (leaf (RV.tup [RV.agg [RV.x (KB),RV.x (KB)],RV.x (.int .i64 (tbE n p q))])) (need [UO 0 n] (need [VQ ((n:Int)-1)] (need [UO ((n:Int)-1) n] (branch (!insB (p (0:Int).toNat) U O (p ((n:Int)-1).toNat)) (leaf (RV.tup [RV.agg [RV.x (KB),RV.x (KB)],RV.x (.int .i64 (2:Int))])) (need [UJ 2 n λk=>[i (p k),i (q k)],2<=n/\n<=100000,zO n p q=true,(-100000:Int)<=U/\U<=p (n-1)] (need [UJ 2 n λk=>[i (p k),i (q k)],2<=n/\n<=100000,zO n p q=true,(-100000:Int)<=O/\O<=p (n-1)] (leaf (RV.tup [RV.agg [RV.x (.int .i64 (boilI n p q U)),RV.x (.int .i64 (boilI n p q O))],RV.x (KB)])))))))))) VY ?_
 simp only [VR.sat,UF,GA,GR,UI,UL,Jl4,Jl3,VQ,show (0:Int).toNat=0 from rfl];refine ⟨⟨isRec2 n p q,VW⟩,λh=>?_,λh=>?_⟩
 ·have h':tbE n p q≠0:=by simpa using h
  simp [blLo,blHi,blE,h']
 ·have h':tbE n p q=0:=by simpa using h
  obtain ⟨t1,t2,t3⟩:=Wc5 h';have e1:((n:Int)-1).toNat=n-1:=VO;have s0:=LW t3 (show 0<n by omega)
  simp only [e1];refine ⟨VO,VO,VO,λh2=>?_,λh2=>?_⟩
  ·have h2':insB (p 0) U O (p (n-1))=false:=by simpa using h2
   simp [blLo,blHi,blE,h',h2']
  ·have h2':insB (p 0) U O (p (n-1))=true:=by simpa using h2
   have b:=(insB_iff _ _ _ _).1 h2';refine ⟨⟨isRec2 n p q,VO,t3,VO⟩,⟨isRec2 n p q,VO,t3,VO⟩,?_⟩;simp [blLo,blHi,blE,h',h2']
def Qk4:G0
 |[.lst 2 n f,.agg [.x (.int .i64 U),.x (.int .i64 O)]]=>some ([UJ 2 n f,n<=100000],.tup [.agg [i (blLo n (col 0 f) (col 1 f) U O),i (blHi n (col 0 f) (col 1 f) U O)],i (blE n (col 0 f) (col 1 f) U O)])
 |_=>none
theorem blE_ok{n:Nat}{p q:Nat->Int}{U O:Int}(h:blE n p q U O=0):2<=n/\n<=8/\zO n p q=true/\p 0<=U/\U<=O/\O<=p (n-1):=by
 unfold blE at h;split at h
 ·rename_i h1;obtain ⟨t1,t2,t3⟩:=Wc5 h1;split at h
  ·rename_i h2;have:=(insB_iff _ _ _ _).1 h2;exact ⟨t1,t2,t3,this⟩
  ·omega
 ·contradiction
theorem Boils_ok:VU VT 172 Qk4:=by
 refine ⟨(UM Tryz.func172),?_⟩;intro avs ns Z h I;unfold Qk4 at h;split at h
 ·rename_i n f U O;cases h;have hr:UJ 2 n f:=I _ VZ;exact (Xf2 n (col 0 f) (col 1 f) U O (I _ VZ)).same (.cons (.lst 2 n _ _ hr) (.cons (.refl _) .nil))
 ·cases h
end Go.Proofs.YtlclobclmfhlmaaGreatDoor.Pt
namespace Go.Proofs.YtlclobclmfhlmaaGreatDoor.Bo
open Go Go.Sx Go.RowKit Go.ChangeShapes Go.WideShapes Go.ChangeAt
open Go.Sx.VR (need branch leaf)
open Go.Sx.AV (lst ptr agg roI tup top)
theorem U3:Tryz.prog.follows .mixedOrders=true:=VY
abbrev i(n:Int):AV:= .x (.int .i64 n)
abbrev iI(n:Int):AV:= .x (.int .i64 n)
abbrev bl(b:Bool):AV:= .x (.bool b)
def bt(U n O:Int):Bool:=decide (U<=n)&&decide (n<=O)
theorem bt_iff(U n O:Int):bt U n O=true↔U<=n/\n<=O:=by simp [bt]
def insB(U a b O:Int):Bool:=decide (U<=a)&&decide (a<=b)&&decide (b<=O)
theorem insB_iff(U a b O:Int):insB U a b O=true↔U<=a/\a<=b/\b<=O:=by simp [insB,and_assoc]
def qL(c T U O:Int):Bool:=bt 1 c 10&&insB 1 U O 200&&bt 1 T 2000&&bt (c*U) T (c*O)
def rdB(c a b u v:Int):Bool:=bt 0 a (c-1)&&bt a b c&&insB 0 u v 2000
def BK:G0
 |[.x (.int .i64 n),.x (.int .i64 U),.x (.int .i64 O)]=>some ([],bl (bt U n O))
 |_=>none
abbrev YG:Value:=Value.bool false
theorem xH(n U O:Int):U2 VT 206 [i n,i U,i O] (bl (bt U n O)):=by
 refine H3 Tryz.func206 (t:=branch (decide (U<=n)) (leaf (RV.x (.bool (decide (n<=O))))) (leaf (RV.x (YG)))) VY ?_;simp only [VR.sat,UF,GA,GR,UI,UL];all_goals (simp+contextual [bt,insB,Bool.and_assoc]);all_goals omega
theorem RN:VU VT 206 BK:=by
 refine ⟨(UM Tryz.func206),?_⟩;intro avs ns Z h I;unfold BK at h;split at h
 ·cases h;exact xH _ _ _
 ·cases h
def BL:G0
 |[.agg [.x (.int .i64 a),.x (.int .i64 b)],.x (.int .i64 U),.x (.int .i64 O)]=>some ([],bl (insB U a b O))
 |_=>none
theorem xW(a b U O:Int):U2 VT 207 [.agg [i a,i b],i U,i O] (bl (insB U a b O)):=by
 refine H3 Tryz.func207 (t:=branch (decide (U<=a)) (branch (decide (a<=b)) (leaf (RV.x (.bool (decide (b<=O))))) (leaf (RV.x (YG)))) (leaf (RV.x (YG)))) VY ?_;simp only [VR.sat,UF,GA,GR,UI,UL];all_goals (simp+contextual [bt,insB,Bool.and_assoc]);all_goals omega
theorem B4:VU VT 207 BL:=by
 refine ⟨(UM Tryz.func207),?_⟩;intro avs ns Z h I;unfold BL at h;split at h
 ·cases h;exact xW _ _ _ _
 ·cases h
theorem mul_bd{x y X Y:Int}(hx: -X<=x/\x<=X)(hy: -Y<=y/\y<=Y): -(X*Y)<=x*y/\x*y<=X*Y:=by
 have h1:=Int.mul_nonneg (show 0<=X-x by omega) (show 0<=Y-y by omega)
 have h2:=Int.mul_nonneg (show 0<=X+x by omega) (show 0<=Y+y by omega)
 have h3:=Int.mul_nonneg (show 0<=X-x by omega) (show 0<=Y+y by omega)
 have h4:=Int.mul_nonneg (show 0<=X+x by omega) (show 0<=Y-y by omega)
 rw [Int.sub_mul,Int.mul_sub,Int.mul_sub] at h1;rw [Int.add_mul,Int.mul_add,Int.mul_add] at h2;rw [Int.sub_mul,Int.mul_add,Int.mul_add] at h3;rw [Int.add_mul,Int.mul_sub,Int.mul_sub] at h4;omega
def rZ:G0
 |[.agg [.x (.int .i64 c),.x (.int .i64 T),.x (.int .i64 U),.x (.int .i64 O)]]=>some ([],i (if qL c T U O then 0 else 1))
 |_=>none
abbrev JX:Value:=Value.int IntKind.i64 (0:Int)
abbrev YH:Value:=Value.int IntKind.i64 (1:Int)
theorem c7(c T U O:Int):U2 VT 173 [.agg [i c,i T,i U,i O]] (i (if qL c T U O then 0 else 1)):=by
 refine U6 (L:=[]) (Ae RN (Ae B4 Aa)) U3 Tryz.func173 (UY Tryz.f173) U8 (t:=branch (!bt (1:Int) c (10:Int)) (leaf (RV.x (YH))) (branch (!insB (1:Int) U O (200:Int)) (leaf (RV.x (YH))) (branch (!bt (1:Int) T (2000:Int)) (leaf (RV.x (YH))) (need [VQ (c*U)] (need [VQ (c*O)] (branch (!bt (c*U) T (c*O)) (leaf (RV.x (YH))) (leaf (RV.x (JX))))))))) VY ?_;simp only [VR.sat,UF,GA,UI,UL,VQ,qL];rcases Bool.eq_false_or_eq_true (bt 1 c 10) with h1|h1
 rotate_left
 ·simp [h1]
 rcases Bool.eq_false_or_eq_true (insB 1 U O 200) with h2|h2
 rotate_left
 ·simp [h1,h2]
 rcases Bool.eq_false_or_eq_true (bt 1 T 2000) with h3|h3
 rotate_left
 ·simp [h1,h2,h3]
 have e1:=(bt_iff _ _ _).1 h1;have e2:=(insB_iff _ _ _ _).1 h2;have m1:=mul_bd (x:=c) (y:=U) (X:=10) (Y:=200) VO VO;have m2:=mul_bd (x:=c) (y:=O) (X:=10) (Y:=200) VO VO;rcases Bool.eq_false_or_eq_true (bt (c*U) T (c*O)) with h4|h4<;>simp [h1,h2,h3,h4]<;>omega
theorem CheckTube_ok:VU VT 173 rZ:=by
 refine ⟨(UM Tryz.func173),?_⟩;intro avs ns Z h I;unfold rZ at h;split at h
 ·cases h;exact c7 _ _ _ _
 ·cases h
def SL:G0
 |[.agg [.x (.int .i64 c),.x (.int .i64 T),.x (.int .i64 U),.x (.int .i64 O)],.agg [.x (.int .i64 a),.x (.int .i64 b),.x (.int .i64 u),.x (.int .i64 v)]]=>some ([1<=c/\c<=10],bl (rdB c a b u v))
 |_=>none
theorem oN(c T U O a b u v:Int)(VW:1<=c/\c<=10):U2 VT 229 [.agg [i c,i T,i U,i O],.agg [i a,i b,i u,i v]] (bl (rdB c a b u v)):=by
 refine U6 (L:=[]) (Ae RN (Ae B4 Aa)) U3 Tryz.func229 (UY Tryz.f229) U8 (t:=need [VQ (c-1)] (branch (bt (0:Int) a (c-1)) (branch (bt a b c) (leaf (RV.x (.bool (insB (0:Int) u v (2000:Int))))) (leaf (RV.x (YG)))) (leaf (RV.x (YG))))) VY ?_;simp only [VR.sat,UF,GA,UI,UL,VQ,rdB];refine ⟨VO,?_⟩;cases h1:bt 0 a (c-1)<;>cases h2:bt a b c<;>cases h3:insB 0 u v 2000<;>simp
theorem oM:VU VT 229 SL:=by
 refine ⟨(UM Tryz.func229),?_⟩;intro avs ns Z h I;unfold SL at h;split at h
 ·cases h;exact oN _ _ _ _ _ _ _ _ (I _ VZ)
 ·cases h
end Go.Proofs.YtlclobclmfhlmaaGreatDoor.Bo
namespace Go.Proofs.YtlclobclmfhlmaaGreatDoor.Bo
open Go Go.Sx Go.RowKit
open Go.Sx.VR (need branch leaf)
open Go.Sx.AV (lst ptr agg roI tup top)
theorem Xh0(a b:Int):U2 VT 83 [.lst 1 2 (λk=>[i (if k=0 then a else b)])] (i (min a b)):=by
 refine U6 (L:=[λs=>some (zN Tryz.prog [] [] (UE (VX (UB Tryz.f83) 0)) 3 s)]) Aa U3 Tryz.func83 (UY Tryz.f83) (G4 (lpE (b:= .loop (UE (VX (UB Tryz.f83) 0))) VY<|LF Aa U3 U8 _)) (t:=let A:=(min (if (0:Int).toNat=0 then a else b) (if (1:Int).toNat=0 then a else b));(branch (decide ((↑(2:Nat):Int)<1)) VR.fail (need [UO 0 2] (branch (decide ((1:Int)<(↑(2:Nat):Int))) (need [UO 1 2] (need [VQ ((1:Int)+1)] (branch (decide ((1:Int)+1<(↑(2:Nat):Int))) (need [(0:Int)<=1+1/\(1:Int)+1<(↑(2:Nat):Int)] (need [VQ ((1:Int)+1+1)] (branch (decide ((1:Int)+1+1<(↑(2:Nat):Int))) (need [(0:Int)<=1+1+1/\(1:Int)+1+1<(↑(2:Nat):Int)] (need [VQ ((1:Int)+1+1+1)] VR.fail)) (leaf (RV.x (.int .i64 (min A (if ((1:Int)+1).toNat=0 then a else b)))))))) (leaf (RV.x (.int .i64 A)))))) (leaf (RV.x (.int .i64 (if (0:Int).toNat=0 then a else b)))))))) VY ?_
 simp [VR.sat,UF,GA,GR,UI,VQ]
theorem Xh1(a b:Int):U2 VT 84 [.lst 1 2 (λk=>[i (if k=0 then a else b)])] (i (max a b)):=by
 refine U6 (L:=[λs=>some (zN Tryz.prog [] [] (UE (VX (UB Tryz.f84) 0)) 3 s)]) Aa U3 Tryz.func84 (UY Tryz.f84) (G4 (lpE (b:= .loop (UE (VX (UB Tryz.f84) 0))) VY<|LF Aa U3 U8 _)) (t:=let A:=(max (if (0:Int).toNat=0 then a else b) (if (1:Int).toNat=0 then a else b));(branch (decide ((↑(2:Nat):Int)<1)) VR.fail (need [UO 0 2] (branch (decide ((1:Int)<(↑(2:Nat):Int))) (need [UO 1 2] (need [VQ ((1:Int)+1)] (branch (decide ((1:Int)+1<(↑(2:Nat):Int))) (need [(0:Int)<=1+1/\(1:Int)+1<(↑(2:Nat):Int)] (need [VQ ((1:Int)+1+1)] (branch (decide ((1:Int)+1+1<(↑(2:Nat):Int))) (need [(0:Int)<=1+1+1/\(1:Int)+1+1<(↑(2:Nat):Int)] (need [VQ ((1:Int)+1+1+1)] VR.fail)) (leaf (RV.x (.int .i64 (max A (if ((1:Int)+1).toNat=0 then a else b)))))))) (leaf (RV.x (.int .i64 A)))))) (leaf (RV.x (.int .i64 (if (0:Int).toNat=0 then a else b)))))))) VY ?_
 simp [VR.sat,UF,GA,GR,UI,VQ]
def y7:G0
 |[.lst 1 2 f]=>(match f 0,f 1 with
  |[.x (.int .i64 a)],[.x (.int .i64 b)]=>some ([],i (min a b))
  |_,_=>none)
 |_=>none
theorem TF:VU VT 83 y7:=by
 refine ⟨(UM Tryz.func83),?_⟩;intro avs ns Z h I;unfold y7 at h;split at h
 ·rename_i f;split at h
  ·rename_i a b h0 h1;cases h;refine (Xh0 a b).same (.cons (.lst 1 2 _ _ ?_) .nil);intro k hk;rcases (show k=0\/k=1 by omega) with rfl|rfl
   ·exact h0
   ·exact h1
  ·cases h
 ·cases h
def fU:G0
 |[.lst 1 2 f]=>(match f 0,f 1 with
  |[.x (.int .i64 a)],[.x (.int .i64 b)]=>some ([],i (max a b))
  |_,_=>none)
 |_=>none
theorem Qb8:VU VT 84 fU:=by
 refine ⟨(UM Tryz.func84),?_⟩;intro avs ns Z h I;unfold fU at h;split at h
 ·rename_i f;split at h
  ·rename_i a b h0 h1;cases h;refine (Xh1 a b).same (.cons (.lst 1 2 _ _ ?_) .nil);intro k hk;rcases (show k=0\/k=1 by omega) with rfl|rfl
   ·exact h0
   ·exact h1
  ·cases h
 ·cases h
theorem Wj3(a b:Int):U2 VT 244 [.lst 1 2 (λk=>[i (if k=0 then a else b)])] (i (min a b)):=by
 refine U6 (L:=[]) (Ae TF Aa) U3 Tryz.func244 (UY Tryz.f244) U8 (t:=leaf (RV.x (.int .i64 (min (if 0=0 then a else b) (if 1=0 then a else b))))) VY ?_
 simp [VR.sat,GA,UI]
def AP:G0:=y7
theorem P0:VU VT 244 AP:=by
 refine ⟨(UM Tryz.func244),?_⟩;intro avs ns Z h I;unfold AP y7 at h;split at h
 ·rename_i f;split at h
  ·rename_i a b h0 h1;cases h;refine (Wj3 a b).same (.cons (.lst 1 2 _ _ ?_) .nil);intro k hk;rcases (show k=0\/k=1 by omega) with rfl|rfl
   ·exact h0
   ·exact h1
  ·cases h
 ·cases h
theorem lM(a b:Int):U2 VT 239 [.lst 1 2 (λk=>[i (if k=0 then a else b)])] (i (max a b)):=by
 refine U6 (L:=[]) (Ae Qb8 Aa) U3 Tryz.func239 (UY Tryz.f239) U8 (t:=leaf (RV.x (.int .i64 (max (if 0=0 then a else b) (if 1=0 then a else b))))) VY ?_
 simp [VR.sat,GA,UI]
def ML:G0:=fU
theorem rR:VU VT 239 ML:=by
 refine ⟨(UM Tryz.func239),?_⟩;intro avs ns Z h I;unfold ML fU at h;split at h
 ·rename_i f;split at h
  ·rename_i a b h0 h1;cases h;refine (lM a b).same (.cons (.lst 1 2 _ _ ?_) .nil);intro k hk;rcases (show k=0\/k=1 by omega) with rfl|rfl
   ·exact h0
   ·exact h1
  ·cases h
 ·cases h
noncomputable def Qm2:D7:=AC Tryz.prog [(244,AP)] {} [] Tryz.f231 (UB Tryz.f231)
abbrev JA:List (Nat×G0):=[(244,AP)]
theorem LP:GG VT 231 Qm2:=
 RP (G:=JA) (X:={}) (L:=[]) (Ae P0 Aa) Ad U3 (UM Tryz.func231) Tryz.func231 (UY Tryz.f231) U8
def UH(c T U O:Int)(M:Nat->Nat->Int)(k:Nat):Int:=if k=0 then c else if k=1 then T else if k=2 then U else if k=3 then O else M ((k-4) / 11) ((k-4)%11)
section
variable (M:Nat->Nat->Int)(a b:Nat)(v:Int)
def xN:Nat->Nat->Int:=λx y=>if x=a/\y=b then v else M x y
def bnd:Nat->Nat->Int:=xN M a b (min (M a b) v)
end
def ini(c:Nat)(k j:Nat):Nat->Nat->Int:=λx y=>if ((x<k/\y<=c)\/(x=k/\y<j))/\x≠y then 2000 else 0
theorem Wd6(c T U O:Int)(cc:Nat): ∀k,UD (c::T::U::O::List.replicate 121 0) k=UH c T U O (ini cc 0 0) k:=by
 intro k;rcases k with _|_|_|_|k
 ·rfl
 ·rfl
 ·rfl
 ·rfl
 ·have h:UD (c::T::U::O::List.replicate 121 0) (k+4)=UD (List.replicate 121 0) k:=rfl;rw [h,dG (by decide)]
  simp [UH,ini]
theorem GT(q:Nat)(v:Int)(f:Nat->Int):jV q [v] f=UV q v f:=rfl
section
variable (c T U O:Int)
theorem qN(M:Nat->Nat->Int){a b q:Nat}(hq:q=4+a*11+b)(hb:b<11):UH c T U O M q=M a b:=by
 unfold UH;rw [if_neg VO,if_neg VO,if_neg VO,if_neg VO,show (q-4) / 11=a by omega,show (q-4)%11=b by omega]
theorem vN{M M':Nat->Nat->Int}(h: ∀x y,x<11->y<11->M x y=M' x y){k:Nat}(hk:k<125):UH c T U O M k=UH c T U O M' k:=by
 unfold UH;split
 ·rfl
 split
 ·rfl
 split
 ·rfl
 split
 ·rfl
 exact h _ _ VO VO
theorem e8(M:Nat->Nat->Int){a b q:Nat}(hq:q=4+a*11+b)(hb:b<11)(v:Int)(k:Nat):UV q v (UH c T U O M) k=UH c T U O (xN M a b v) k:=by
 unfold UV;by_cases hk:k=q
 ·rw [if_pos hk,qN _ _ _ _ _ (hk.trans hq) hb];simp [xN]
 ·rw [if_neg hk];unfold UH;by_cases h0:k=0
  ·rw [if_pos h0,if_pos h0]
  by_cases h1:k=1
  ·rw [if_neg h0,if_neg h0,if_pos h1,if_pos h1]
  by_cases h2:k=2
  ·rw [if_neg h0,if_neg h0,if_neg h1,if_neg h1,if_pos h2,if_pos h2]
  by_cases h3:k=3
  ·rw [if_neg h0,if_neg h0,if_neg h1,if_neg h1,if_neg h2,if_neg h2,if_pos h3,if_pos h3]
  rw [if_neg h0,if_neg h0,if_neg h1,if_neg h1,if_neg h2,if_neg h2,if_neg h3,if_neg h3];unfold xN;rw [if_neg VO]
end
theorem Wo1(c k j:Nat)(hj:j<=c)(h:k≠j)(x y:Nat):xN (ini c k j) k j 2000 x y=ini c k (j+1) x y:=by
 unfold xN ini;split
 ·rename_i hxy;rw [if_pos ⟨.inr VO,VO⟩]
 ·rename_i hxy;by_cases h1:((x<k/\y<=c)\/(x=k/\y<j))/\x≠y
  ·rw [if_pos h1,if_pos VO]
  ·rw [if_neg h1,if_neg VO]
theorem Wo2(c k:Nat)(x y:Nat):ini c k k x y=ini c k (k+1) x y:=by
 unfold ini;by_cases h1:((x<k/\y<=c)\/(x=k/\y<k))/\x≠y
 ·rw [if_pos h1,if_pos VO]
 ·rw [if_neg h1,if_neg VO]
theorem Xk1(c k:Nat)(x y:Nat):ini c k (c+1) x y=ini c (k+1) 0 x y:=by
 unfold ini;by_cases h1:((x<k/\y<=c)\/(x=k/\y<c+1))/\x≠y
 ·rw [if_pos h1,if_pos VO]
 ·rw [if_neg h1,if_neg VO]
abbrev rds(n:Nat)(a b u v:Nat->Int):AV:= .lst 4 n (λk=>[i (a k),i (b k),i (u k),i (v k)])
abbrev QV:AV:=AV.x (.pointer none)
abbrev X8(n:Nat)(a:Nat->Int)(b:Nat->Int)(u:Nat->Int)(v:Nat->Int):AV:=lst 4 n λk=>[iI (a k),iI (b k),iI (u k),iI (v k)]
section
variable (c:Nat)(T U O:Int)(n:Nat)(a b u v:Nat->Int)
def Zt2:St:={σ:=[agg [iI (c:Int),iI T,iI U,iI O],X8 n a b u v,ptr 0 0,top,QV,AV.lit false,ptr 5 0]++HO 15 [iI ((c:Int)+1)]++HO 155 [],m:=[(5,GU.ints 343 [] 125 λa=>UD ([(c:Int),T,U,O]++cC 121) a),(0,GU.cells 122 [iI (c:Int),iI T,iI U,iI O])],nx:=11}
noncomputable def Zv2:Code:=UE (VX (UB Tryz.f209) 0)
def Wl5(k:Nat):St:=(upE [(23,i k)] [(5,.ints 343 [] 125 (UH c T U O (ini c k 0))),(0,.cells 122 [i c,i T,i U,i O])] (Zt2 c T U O n a b u v))
def E0(k:Nat):GB->Option St
 | .exit 0=>some (upE [(23,i ((c:Int)+1))] [(5,.ints 343 [] 125 (UH c T U O (ini c (c+1) 0))),(0,.cells 122 [i c,i T,i U,i O])] (Zt2 c T U O n a b u v))
 |_=>none
def Jo0:CT:= .leaf (.exit 0,(E0 c T U O n a b u v 0 (.exit 0)).getD (Zt2 c T U O n a b u v))
def Xz1:UN:=GO [] (HM (Wl5 c T U O n a b u v (0)) (Jo0 c T U O n a b u v))
def Zt1(k:Nat):St:={σ:=[agg [iI (c:Int),iI T,iI U,iI O],X8 n a b u v,ptr 0 0,top,QV,AV.lit false,ptr 5 0,iI (k:Int)]++HO 14 [iI ((c:Int)+1),iI (k:Int),top,top,top,top,iI ((c:Int)+1)]++HO 149 [],m:=[(5,GU.ints 343 [] 125 λk_1=>UH (c:Int) T U O (ini c k 0) k_1),(0,GU.cells 122 [iI (c:Int),iI T,iI U,iI O])],nx:=18}
noncomputable def Js5:Code:=(UE (VX (UE (VX (UB Tryz.f209) 0)) 0))
def Wl4(k:Nat)(j:Nat):St:=(upE [(29,i j)] [(5,.ints 343 [] 125 (UH c T U O (ini c k j))),(0,.cells 122 [i c,i T,i U,i O])] (Zt1 c T U O n a b u v k))
def CZ(k:Nat)(j:Nat):GB->Option St
 | .exit 2=>some (upE [(29,i ((c:Int)+1))] [(5,.ints 343 [] 125 (UH c T U O (ini c k (c+1)))),(0,.cells 122 [i c,i T,i U,i O])] (Zt1 c T U O n a b u v k))
 |_=>none
def Jn9(k:Nat):CT:= .leaf (.exit 2,(CZ c T U O n a b u v k 0 (.exit 2)).getD (Zt1 c T U O n a b u v k))
def Xz0(k:Nat):UN:=GO [] (HM (Wl4 c T U O n a b u v k (0)) (Jn9 c T U O n a b u v k))
end
abbrev Q4(n:Nat)(a:Nat->Int)(b:Nat->Int)(u:Nat->Int)(v:Nat->Int):Prop:=(X8 n a b u v)=lst 4 n λk=>[iI (a k),iI (b k),iI (u k),iI (v k)]
abbrev X6:Prop:=AV.lit false=AV.lit false
noncomputable abbrev XH:Ext:={R:=[],H:=[(231,Qm2)] }
abbrev XK:Prop:=ptr 0 0=ptr 0 0
abbrev XX:Prop:=ptr 5 0=ptr 5 0
section
variable (c:Nat)(T U O:Int)(n:Nat)(a b u v:Nat->Int)
theorem Jd8(k:Nat)(VW:1<=c/\c<=10)(UK:1<=U/\U<=O/\O<=200/\1<=T/\T<=2000)(HY:k<=c):GC VT (.loop Js5) (Xz0 c T U O n a b u v k):=by
 refine G7 [] (L:=[]) (Ae P0 Aa) (Ai Ab (Ag LP Ac)) U3 U8 (X:=Nat) (Wl4 c T U O n a b u v k) (λj=>j<=c+1) (λj=>c+1-j) (CZ c T U O n a b u v k) (x0:=0) VZ ?_ ?_ ?_
 ·rintro j;kernel_rfl
 ·rintro j y E h;unfold CZ at h;split at h
  ·cases h;kernel_rfl
  ·cases h
 ·rintro Q hQ j hx;refine ⟨(j+1),?_⟩;(with_reducible refine DN (t:=let A:=(U4 ((c:Int)+1));let W:=(U4 (agg [iI (c:Int),iI T,iI U,iI O]));(branch (decide ((j:Int)<(c:Int)+1)) (branch ((k:Int) != (j:Int)) (need [UO k 11] (need [UO j 11] (need [j*1+(k*11+4)+1<=125] (need [VQ ((j:Int)+1)] (need [W,Q4 n a b u v,XK,QV=QV,X6,XX,U4 (k:Int),A,U4 (k:Int),A,(j:Int)+1=(↑(j+1):Int),125=125,H2 125 (UV (j*1+(k*11+4)) (2000:Int) (UH (c:Int) T U O (ini c k j))) (UH (c:Int) T U O (ini c k (j+1))),U4 (c:Int),T=T,U=U,O=O] (leaf GB.normal)))))) (need [VQ ((j:Int)+1)] (need [W,Q4 n a b u v,XK,QV=QV,X6,XX,U4 (k:Int),A,U4 (k:Int),A,(j:Int)+1=(↑(j+1):Int),125=125,H2 125 (UH (c:Int) T U O (ini c k j)) (UH (c:Int) T U O (ini c k (j+1))),U4 (c:Int),T=T,U=U,O=O] (leaf GB.normal)))) (need [W,Q4 n a b u v,XK,QV=QV,X6,XX,U4 (k:Int),A,U4 (k:Int),A,(j:Int)=(c:Int)+1,125=125,H2 125 (UH (c:Int) T U O (ini c k j)) (UH (c:Int) T U O (ini c k (c+1))),U4 (c:Int),T=T,U=U,O=O] (leaf (GB.exit 2))))) VY ?_);simp only [Jn9,CZ,VR.sat,GZ] at hQ;simp only [VR.sat,UF,GA,GR,UI,VQ,UL,HD,RF,RG,L9,GT,CZ]
  refine ⟨λh=>⟨λhne=>?_,λheq=>?_⟩,λh=>?_⟩
  ·(with_reducible repeat' first|apply Al|intro _)
   all_goals first|exact PU|(exact (e8 c T U O _ VO VO _ _).trans (vN c T U O (λx y _ _=>Wo1 c k j VO VO x y) (by assumption)))
  ·obtain rfl:k=j:=VO
   (with_reducible repeat' first|apply Al|intro _)
   all_goals first|exact PU|(exact vN c T U O (λx y _ _=>Wo2 c k x y) (by assumption))
  ·obtain rfl:j=c+1:=VO
   (with_reducible repeat' first|apply Al|intro _)
   all_goals first|exact Ak|omega|with_reducible rfl|(rename_i E hE;cases hE;exact hQ)|rfl
theorem Jd9(VW:1<=c/\c<=10)(UK:1<=U/\U<=O/\O<=200/\1<=T/\T<=2000):GC VT (.loop Zv2) (Xz1 c T U O n a b u v):=by
 refine G7 [] (L:=[BS 7 (λk=>FV [k<=c] (Xz0 c T U O n a b u v k))]) (Ae P0 Aa) (Ai Ab (Ag LP Ac)) U3 (G4 (λcj hcj=>by
  have e:VX Zv2 0=some (.loop Js5):=VY;rw [e] at hcj;cases hcj;exact PA (λk=>D9 (λh=>Jd8 c T U O n a b u v k VW UK h)))) (X:=Nat) (Wl5 c T U O n a b u v) (λk=>k<=c+1) (λk=>c+1-k) (E0 c T U O n a b u v) (x0:=0) VZ ?_ ?_ ?_
 ·rintro k;kernel_rfl
 ·rintro k y E h;unfold E0 at h;split at h
  ·cases h;kernel_rfl
  ·cases h
 ·rintro Q hQ k hx;refine ⟨(k+1),?_⟩;(with_reducible refine DN (t:=let A:=(U4 (agg [iI (c:Int),iI T,iI U,iI O]));let W:=(U4 ((c:Int)+1));(branch (decide ((k:Int)<(c:Int)+1)) (need [VQ ((c:Int)+1)] (need [k<=c] (need [A,Q4 n a b u v,XK,QV=QV,X6,XX,U4 (k:Int),W,U4 (k:Int),W,(0:Int)=(↑(0:Nat):Int),125=125,GV 125 (UH (c:Int) T U O (ini c k 0)),U4 (c:Int),T=T,U=U,O=O] (need [VQ ((k:Int)+1)] (need [A,Q4 n a b u v,XK,QV=QV,X6,XX,W,(k:Int)+1=(↑(k+1):Int),125=125,H2 125 (UH (c:Int) T U O (ini c k (c+1))) (UH (c:Int) T U O (ini c (k+1) 0)),U4 (c:Int),T=T,U=U,O=O] (leaf GB.normal)))))) (need [A,Q4 n a b u v,XK,QV=QV,X6,XX,W,(k:Int)=(c:Int)+1,125=125,H2 125 (UH (c:Int) T U O (ini c k 0)) (UH (c:Int) T U O (ini c (c+1) 0)),U4 (c:Int),T=T,U=U,O=O] (leaf (GB.exit 0))))) VY ?_);simp only [Jo0,E0,VR.sat,GZ] at hQ;simp only [VR.sat,UF,GA,GR,UI,VQ,UL,HD,RF,RG,L9,GT,E0]
  refine ⟨λh=>?_,λh=>?_⟩
  ·(with_reducible repeat' first|apply Al|intro _)
   all_goals first|exact PU|(exact vN c T U O (λx y _ _=>Xk1 c k x y) (by assumption))
  ·obtain rfl:k=c+1:=VO
   (with_reducible repeat' first|apply Al|intro _)
   all_goals first|exact Ak|omega|with_reducible rfl|(rename_i E hE;cases hE;exact hQ)|rfl
end
def cel(c:Nat)(U O:Int):Nat->Nat->Nat->Int
 | 0=>ini c (c+1) 0
 |k+1=>bnd (bnd (cel c U O k) k (k+1) O) (k+1) k (-U)
theorem jK{c T U O:Int}{M:Nat->Nat->Int}{a b q:Nat}{v:Int}(hq:q=4+a*11+b)(hb:b<11):UV q (min (UH c T U O M q) v) (UH c T U O M)=UH c T U O (bnd M a b v):=by
 funext k;rw [e8 c T U O M hq hb,qN c T U O M hq hb];rfl
section
variable (c:Nat)(T U O:Int)(n:Nat)(a b u v:Nat->Int)
def MU:St:={σ:=[agg [iI (c:Int),iI T,iI U,iI O],X8 n a b u v,ptr 0 0,top,QV,AV.lit false,ptr 5 0]++HO 15 [iI ((c:Int)+1),iI ((c:Int)+1)]++HO 21 [iI (c:Int)]++HO 132 [],m:=[(5,GU.ints 343 [] 125 λk=>UH (c:Int) T U O (ini c (c+1) 0) k),(0,GU.cells 122 [iI (c:Int),iI T,iI U,iI O])],nx:=14}
noncomputable def c9:Code:=UE (VX (UB Tryz.f209) 1)
def B2(k:Nat):St:=(upE [(46,i k)] [(5,.ints 343 [] 125 (UH c T U O (cel c U O k))),(0,.cells 122 [i c,i T,i U,i O])] (MU c T U O n a b u v))
def xB(k:Nat):GB->Option St
 | .exit 4=>some (upE [(46,i c)] [(5,.ints 343 [] 125 (UH c T U O (cel c U O c))),(0,.cells 122 [i c,i T,i U,i O])] (MU c T U O n a b u v))
 |_=>none
def Qw7:CT:= .leaf (.exit 4,(xB c T U O n a b u v 0 (.exit 4)).getD (MU c T U O n a b u v))
def nK:UN:=GO [] (HM (B2 c T U O n a b u v (0)) (Qw7 c T U O n a b u v))
theorem Jd5(VW:1<=c/\c<=10)(UK:1<=U/\U<=O/\O<=200/\1<=T/\T<=2000):GC VT (.loop c9) (nK c T U O n a b u v):=by
 refine G7 [] (L:=[]) (Ae P0 Aa) (Ai Ab (Ag LP Ac)) U3 U8 (X:=Nat) (B2 c T U O n a b u v) (λk=>k<=c) (λk=>c-k) (xB c T U O n a b u v) (x0:=0) VZ ?_ ?_ ?_
 ·rintro k;kernel_rfl
 ·rintro k y E h;unfold xB at h;split at h
  ·cases h;kernel_rfl
  ·cases h
 ·rintro Q hQ k hx;refine ⟨(k+1),?_⟩;(with_reducible refine DN (t:=let A:=(UH (c:Int) T U O (cel c U O k) (((k:Int)+1).toNat*1+(k*11+4)));let W:=(UV (((k:Int)+1).toNat*1+(k*11+4)) (min A O) (UH (c:Int) T U O (cel c U O k)) (k*1+(((k:Int)+1).toNat*11+4)));let z2:=(U4 ((c:Int)+1));(branch (decide ((k:Int)<(c:Int))) (need [VQ ((k:Int)+1)] (need [UO k 11] (need [UO ((k:Int)+1) 11] (need [((k:Int)+1).toNat*1+(k*11+4)<125] (need [UO k 11] (need [UO ((k:Int)+1) 11] (need [((k:Int)+1).toNat*1+(k*11+4)+List.length [min A O]<=125] (need [VQ ((k:Int)+1)] (need [VQ (-U)] (need [UO ((k:Int)+1) 11] (need [UO k 11] (need [k*1+(((k:Int)+1).toNat*11+4)<125] (need [UO ((k:Int)+1) 11] (need [UO k 11] (need [k*1+(((k:Int)+1).toNat*11+4)+List.length [min W (-U)]<=125] (need [VQ ((k:Int)+1)] (need [U4 (agg [iI (c:Int),iI T,iI U,iI O]),Q4 n a b u v,XK,QV=QV,X6,XX,z2,z2,U4 (c:Int),(k:Int)+1=(↑(k+1):Int),125=125,H2 125 (UV (k*1+(((k:Int)+1).toNat*11+4)) (min W (-U)) (jV (((k:Int)+1).toNat*1+(k*11+4)) [min A O] (UH (c:Int) T U O (cel c U O k)))) (UH (c:Int) T U O (cel c U O (k+1))),U4 (c:Int),T=T,U=U,O=O] (leaf GB.normal)))))))))))))))))) (need [U4 (agg [iI (c:Int),iI T,iI U,iI O]),Q4 n a b u v,XK,QV=QV,X6,XX,z2,z2,U4 (c:Int),(k:Int)=(c:Int),125=125,H2 125 (UH (c:Int) T U O (cel c U O k)) (UH (c:Int) T U O (cel c U O c)),U4 (c:Int),T=T,U=U,O=O] (leaf (GB.exit 4))))) VY ?_);simp only [Qw7,xB,VR.sat,GZ] at hQ;simp only [VR.sat,UF,GA,GR,UI,VQ,UL,HD,RF,RG,L9,GT,xB]
  refine ⟨λh=>?_,λh=>?_⟩
  ·have h1: ∀M v,UV (((k:Int)+1).toNat*1+(k*11+4)) (min (UH c T U O M (((k:Int)+1).toNat*1+(k*11+4))) v) (UH c T U O M)=UH c T U O (bnd M k (k+1) v):=λM v=>jK VO VO
   have h2: ∀M v,UV (k*1+(((k:Int)+1).toNat*11+4)) (min (UH c T U O M (k*1+(((k:Int)+1).toNat*11+4))) v) (UH c T U O M)=UH c T U O (bnd M (k+1) k v):=λM v=>jK VO VO
   simp only [h1,h2]
   (with_reducible repeat' first|apply Al|intro _)
   all_goals first|exact Ak|omega|with_reducible rfl|(rename_i E hE;cases hE;exact hQ)|rfl
  ·obtain rfl:k=c:=VO
   (with_reducible repeat' first|apply Al|intro _)
   all_goals first|exact Ak|omega|with_reducible rfl|(rename_i E hE;cases hE;exact hQ)|rfl
end
def rdS(c:Nat)(M:Nat->Nat->Int)(a b u v:Int):Nat->Nat->Int:=if b<(c:Int) then bnd (bnd M a.toNat b.toNat v) (b+1).toNat a.toNat (-u-1) else bnd M a.toNat b.toNat v
def rdM(c:Nat)(T U O:Int)(a b u v:Nat->Int):Nat->Nat->Nat->Int
 | 0=>bnd (bnd (cel c U O c) 0 c T) c 0 (-T)
 |j+1=>rdS c (rdM c T U O a b u v j) (a j) (b j) (u j) (v j)
def rdV(a b u v:Int):Value:= .agg #[.int .i64 a,.int .i64 b,.int .i64 u,.int .i64 v]
def sn(a b u v:Nat->Int)(k:Nat)(x:Value):Prop:= ∃j,j<k/\x=rdV (a j) (b j) (u j) (v j)
def Jg1(x:Value):Prop:= ∃a b u v,x=rdV a b u v
theorem We8(a b u v:Int)(e:UP)(w:World):Rep e w (.agg [i a,i b,i u,i v]) (rdV a b u v):=
 Rep.aggL (U7.cons (.x _) (U7.cons (.x _) (U7.cons (.x _) (U7.one (.x _)))))
theorem Qq0(a b u v:Int):FI Tryz.prog 345 Jg1 (rdV a b u v) (.bool false):=by
 refine ⟨⟨72,4,(match Tryz.prog.underlying 72 with|some (.struct fs)=>fs|_=>#[]),VY,VY,?_,?_,?_⟩,by simp [Instr.sameBits,rdV]⟩
 ·intro b' w;kernel_rfl
 ·rintro k' ⟨a',b',u',v',rfl⟩ w;refine ⟨a==a'&&(b==b'&&(u==u'&&(v==v'&&true)&&true)),z9 (P:=Tryz.prog) (e:=PM w w) Op.maxDepth 72 (.agg [i a,i b,i u,i v]) (.agg [i a',i b',i u',i v']) _ _ _ VY (We8 ..) (We8 ..),λh=>?_⟩
  simp only [Bool.and_true,HE,beq_iff_eq] at h;obtain ⟨rfl,rfl,rfl,rfl⟩:=h;rfl
 ·intro w;kernel_rfl
theorem Xu8{a b u v:Nat->Int}{k:Nat}{x:Value}(h:sn a b u v k x):Jg1 x:=by
 obtain ⟨j,_,h⟩:=h;exact ⟨_,_,_,_,h⟩
section
variable (M:Nat->Nat->Int)(a b:Nat)(v:Int)
theorem xE(x y:Nat):bnd M a b v x y<=M x y:=by
 unfold bnd xN;split
 ·rename_i h;rw [h.1,h.2];omega
 ·omega
theorem bF:bnd M a b v a b<=v:=by
 unfold bnd xN;rw [if_pos ⟨rfl,rfl⟩];omega
end
theorem Wx1{M:Nat->Nat->Int}{a b:Nat}{v:Int}(h:M a b<=v):bnd M a b v=M:=by
 funext x y;unfold bnd xN;split
 ·rename_i h';rw [h'.1,h'.2];omega
 ·rfl
section
variable (c:Nat)(M:Nat->Nat->Int)(a b u v:Int)
theorem Zj5(x y:Nat):rdS c M a b u v x y<=M x y:=by
 unfold rdS;split
 ·exact Int.le_trans (xE _ _ _ _ _ _) (xE _ _ _ _ _ _)
 ·exact xE _ _ _ _ _ _
theorem Zj7:rdS c M a b u v a.toNat b.toNat<=v/\(b<c->rdS c M a b u v (b+1).toNat a.toNat<= -u-1):=by
 unfold rdS;split
 ·exact ⟨Int.le_trans (xE _ _ _ _ _ _) (bF _ _ _ _),λ_=>bF _ _ _ _⟩
 ·exact ⟨bF _ _ _ _,λh=>VO⟩
end
theorem Zj6{c:Nat}{M:Nat->Nat->Int}{a b u v:Int}(h:M a.toNat b.toNat<=v)(h2:b<c->M (b+1).toNat a.toNat<= -u-1):rdS c M a b u v=M:=by
 unfold rdS;rw [Wx1 h];split
 ·rename_i hb;exact Wx1 (h2 hb)
 ·rfl
theorem CL(c:Nat)(T U O:Int)(a b u v:Nat->Int)(j:Nat): ∀(k:Nat),j<=k-> ∀x y,rdM c T U O a b u v k x y<=rdM c T U O a b u v j x y
 | 0,h,x,y=>by
           obtain rfl:j=0:=VO;exact Int.le_refl _
 |k+1,h,x,y=>by
  rcases (show j=k+1\/j<=k by omega) with rfl|h
  ·exact Int.le_refl _
  ·exact Int.le_trans (Zj5 _ _ _ _ _ _ _ _) (CL c T U O a b u v j k h x y)
theorem Wf4{c:Nat}{T U O:Int}{a b u v:Nat->Int}{k:Nat}(h:sn a b u v k (rdV (a k) (b k) (u k) (v k))):rdM c T U O a b u v (k+1)=rdM c T U O a b u v k:=by
 obtain ⟨j,hj,he⟩:=h;unfold rdV at he;injection he with he
 injection he with he
 have e:a k=a j/\b k=b j/\u k=u j/\v k=v j:=by simpa using he
 have h1:=Zj7 c (rdM c T U O a b u v j) (a j) (b j) (u j) (v j);have m:=CL c T U O a b u v (j+1) k VO;refine Zj6 ?_ (λhb=>?_)
 ·rw [e.1,e.2.1,e.2.2.2];exact Int.le_trans (m _ _) h1.1
 ·rw [e.1,e.2.1,e.2.2.1];exact Int.le_trans (m _ _) (h1.2 (by rw [←e.2.1];exact hb))
section
variable (c:Nat)(T U O:Int)(n:Nat)(a b u v:Nat->Int)
def Zt0:St:={σ:=[agg [iI (c:Int),iI T,iI U,iI O],X8 n a b u v,ptr 0 0,top,QV,AV.lit false,ptr 5 0,top,top,top,AV.mp 63]++HO 11 [iI ((c:Int)+1),iI ((c:Int)+1)]++HO 21 [iI (c:Int),iI (c:Int)]++HO 34 [X8 n a b u v,iI (n:Int)]++HO 95 [],m:=[(63,GU.memo (λx=>False) λv=>v),(56,GU.row 3 1 2 (UA 1 [iI (UV (c*1+4) (min (UH (c:Int) T U O (cel c U O c) (c*1+4)) T) (UH (c:Int) T U O (cel c U O c)) (0+(c*11+4))),iI (-T)])),(31,GU.row 3 1 2 (UA 1 [iI (UH (c:Int) T U O (cel c U O c) (c*1+4)),iI T])),(5,GU.ints 343 [] 125 λa=>UV (0+(c*11+4)) (min (UV (c*1+4) (min (UH (c:Int) T U O (cel c U O c) (c*1+4)) T) (UH (c:Int) T U O (cel c U O c)) (0+(c*11+4))) (-T)) (jV (c*1+4) [min (UH (c:Int) T U O (cel c U O c) (c*1+4)) T] (UH (c:Int) T U O (cel c U O c))) a),(0,GU.cells 122 [iI (c:Int),iI T,iI U,iI O])],nx:=68}
noncomputable def Js4:Code:=UE (VX (UB Tryz.f209) 2)
def Wl3(k:Nat):St:=(upE [(83,i k)] [(5,.ints 343 [] 125 (UH c T U O (rdM c T U O a b u v k))),(0,.cells 122 [i c,i T,i U,i O]),(63,.memo (sn a b u v k) (λ_=> .bool true))] (Zt0 c T U O n a b u v))
def CY(k:Nat):GB->Option St
 | .exit 6=>some (upE [(83,i n)] [(5,.ints 343 [] 125 (UH c T U O (rdM c T U O a b u v n))),(0,.cells 122 [i c,i T,i U,i O]),(63,.memo (sn a b u v n) (λ_=> .bool true))] (Zt0 c T U O n a b u v))
 |_=>none
def Jn8:CT:= .leaf (.exit 6,(CY c T U O n a b u v 0 (.exit 6)).getD (Zt0 c T U O n a b u v))
def Xy9:UN:=GO [] (HM (Wl3 c T U O n a b u v (0)) (Jn8 c T U O n a b u v))
abbrev ZJ:Prop:=AV.mp 63=AV.mp 63
theorem Jd0(VW:1<=c/\c<=10)(UK:1<=U/\U<=O/\O<=200/\1<=T/\T<=2000)(HY:n<=1000)(F8:DF (λk=>rdB c (a k) (b k) (u k) (v k)) n=true):GC VT (.loop Js4) (Xy9 c T U O n a b u v):=by
 refine G7 [] (L:=[]) (Ae P0 Aa) (Ai Ab (Ag LP Ac)) U3 U8 (X:=Nat) (Wl3 c T U O n a b u v) (λk=>k<=n) (λk=>n-k) (CY c T U O n a b u v) (x0:=0) VZ ?_ ?_ ?_
 ·rintro k;kernel_rfl
 ·rintro k y E h;unfold CY at h;split at h
  ·cases h;kernel_rfl
  ·cases h
 ·rintro Q hQ k hx;refine ⟨(k+1),?_⟩;(with_reducible refine DN (t:=let z9:=sn a b u v k;let z3:=(Value.agg #[Value.int IntKind.i64 (a k),Value.int IntKind.i64 (b k),Value.int IntKind.i64 (u k),Value.int IntKind.i64 (v k)]);let z7:=(rdM c T U O a b u v k);let z2:=(UH (c:Int) T U O z7 ((b k).toNat*1+((a k).toNat*11+4)));let z10:=(UH (c:Int) T U O z7);let z5:=(UV ((b k).toNat*1+((a k).toNat*11+4)) (min z2 (v k)) z10 ((a k).toNat*1+((b k+1).toNat*11+4)));let z6:=(U4 (agg [iI (c:Int),iI T,iI U,iI O]));let z8:=Q4 n a b u v;let z4:=(U4 ((c:Int)+1));let z11:=(rdM c T U O a b u v (k+1));let A:=(need [∀(u_1:Value),z9 u_1->Value.bool true=Value.bool true,FI Tryz.prog 345 (λu_1=>z9 u_1\/u_1=Value.agg #[Value.int IntKind.i64 (a k),Value.int IntKind.i64 (b k),Value.int IntKind.i64 (u k),Value.int IntKind.i64 (v k)]) z3 (YG)] (need [UO (a k) 11] (need [UO (b k) 11] (need [(b k).toNat*1+((a k).toNat*11+4)<125] (need [UO (a k) 11] (need [UO (b k) 11] (need [(b k).toNat*1+((a k).toNat*11+4)+List.length [min z2 (v k)]<=125] (branch (decide (b k<(c:Int))) (need [VQ (b k+1)] (need [VQ (-u k)] (need [VQ (-u k-1)] (need [UO (b k+1) 11] (need [UO (a k) 11] (need [(a k).toNat*1+((b k+1).toNat*11+4)<125] (need [UO (b k+1) 11] (need [UO (a k) 11] (need [(a k).toNat*1+((b k+1).toNat*11+4)+List.length [min z5 (-u k-1)]<=125] (need [VQ ((k:Int)+1)] (need [z6,z8,XK,QV=QV,X6,XX,ZJ,z4,z4,U4 (c:Int),U4 (c:Int),z8,U4 (n:Int),(k:Int)+1=(↑(k+1):Int),125=125,H2 125 (UV ((a k).toNat*1+((b k+1).toNat*11+4)) (min z5 (-u k-1)) (jV ((b k).toNat*1+((a k).toNat*11+4)) [min z2 (v k)] z10)) (UH (c:Int) T U O z11),U4 (c:Int),T=T,U=U,O=O,∀(k_1:Value),z9 k_1\/k_1=Value.agg #[Value.int IntKind.i64 (a k),Value.int IntKind.i64 (b k),Value.int IntKind.i64 (u k),Value.int IntKind.i64 (v k)]->sn a b u v (k+1) k_1/\Value.bool true=Value.bool true] (leaf GB.normal)))))))))))) (need [VQ ((k:Int)+1)] (need [z6,z8,XK,QV=QV,X6,XX,ZJ,z4,z4,U4 (c:Int),U4 (c:Int),z8,U4 (n:Int),(k:Int)+1=(↑(k+1):Int),125=125,H2 125 (UV ((b k).toNat*1+((a k).toNat*11+4)) (min z2 (v k)) z10) (UH (c:Int) T U O z11),U4 (c:Int),T=T,U=U,O=O,∀(k_1:Value),z9 k_1\/k_1=Value.agg #[Value.int IntKind.i64 (a k),Value.int IntKind.i64 (b k),Value.int IntKind.i64 (u k),Value.int IntKind.i64 (v k)]->sn a b u v (k+1) k_1/\Value.bool true=Value.bool true] (leaf GB.normal)))))))))));let W:=(need [VQ ((k:Int)+1)] (need [z6,z8,XK,QV=QV,X6,XX,ZJ,z4,z4,U4 (c:Int),U4 (c:Int),z8,U4 (n:Int),(k:Int)+1=(↑(k+1):Int),125=125,H2 125 (UH (c:Int) T U O z7) (UH (c:Int) T U O z11),U4 (c:Int),T=T,U=U,O=O,∀(k_1:Value),z9 k_1->sn a b u v (k+1) k_1/\Value.bool true=Value.bool true] (leaf GB.normal)));(branch (decide ((k:Int)<(n:Int))) (need [UO k n] (need [FI Tryz.prog 345 (z9) z3 (YG)] (VR.may (z9 z3) (branch true W A) (branch false W A)))) (need [z6,z8,XK,QV=QV,X6,XX,ZJ,z4,z4,U4 (c:Int),U4 (c:Int),z8,U4 (n:Int),(k:Int)=(n:Int),125=125,H2 125 (UH (c:Int) T U O z7) (UH (c:Int) T U O (rdM c T U O a b u v n)),U4 (c:Int),T=T,U=U,O=O,∀(k_1:Value),z9 k_1->sn a b u v n k_1/\Value.bool true=Value.bool true] (leaf (GB.exit 6))))) VY ?_)
  simp only [Jn8,CY,VR.sat,GZ] at hQ;simp only [VR.sat,UF,GA,GR,UI,VQ,UL,HD,RF,RG,L9,GT,CY]
  have hv: ∀j,j<n->(0<=a j/\a j<=c-1)/\(a j<=b j/\b j<=c)/\0<=u j/\u j<=v j/\v j<=2000:=by
   intro j hj;have:=GY.1 F8 j hj;simp only [rdB,HE,bt_iff,insB_iff] at this;omega
  refine ⟨λh=>?_,λh=>?_⟩
  ·have hk:=hv k VO;have mk:=Qq0 (a k) (b k) (u k) (v k);have q1:FI Tryz.prog 345 (sn a b u v k) (rdV (a k) (b k) (u k) (v k)) (.bool false):=mk.mono (λx hx=>Xu8 hx)
   have q2:FI Tryz.prog 345 (λx=>sn a b u v k x\/x=rdV (a k) (b k) (u k) (v k)) (rdV (a k) (b k) (u k) (v k)) (.bool false):=mk.mono (λx hx=>hx.elim Xu8 (λhe=>⟨_,_,_,_,he⟩))
   have sn1: ∀x,sn a b u v k x->sn a b u v (k+1) x:=λx ⟨j,hj,he⟩=>⟨j,VO,he⟩
   have sn2:sn a b u v (k+1) (rdV (a k) (b k) (u k) (v k)):=⟨k,VO,rfl⟩;refine ⟨VO,q1,λhs=>⟨λ_=>?_,λhc=>absurd hc (by decide)⟩,λhc=>absurd hc (by decide),λ_=>?_⟩
   ·rw [Wf4 hs]
    (with_reducible repeat' first|apply Al|intro _)
    all_goals first|exact PU|(exact sn1 _ (by assumption))
   ·have h1: ∀M w,UV ((b k).toNat*1+((a k).toNat*11+4)) (min (UH c T U O M ((b k).toNat*1+((a k).toNat*11+4))) w) (UH c T U O M)=UH c T U O (bnd M (a k).toNat (b k).toNat w):=λM w=>jK VO VO
    refine ⟨⟨λ_ _=>trivial,q2⟩,?_⟩
    simp only [h1];refine ⟨VO,VO,VO,VO,VO,VO,λhb=>?_,λhb=>?_⟩
    ·have h2: ∀M w,UV ((a k).toNat*1+((b k+1).toNat*11+4)) (min (UH c T U O M ((a k).toNat*1+((b k+1).toNat*11+4))) w) (UH c T U O M)=UH c T U O (bnd M (b k+1).toNat (a k).toNat w):=λM w=>jK VO VO
     have e3:rdM c T U O a b u v (k+1)=bnd (bnd (rdM c T U O a b u v k) (a k).toNat (b k).toNat (v k)) (b k+1).toNat (a k).toNat (-u k-1):=by
      show rdS _ _ _ _ _ _=_;unfold rdS;rw [if_pos hb]
     simp only [h2,e3];exact VL
    ·have e3:rdM c T U O a b u v (k+1)=bnd (rdM c T U O a b u v k) (a k).toNat (b k).toNat (v k):=by
      show rdS _ _ _ _ _ _=_;unfold rdS;rw [if_neg hb]
     simp only [e3];exact VL
  ·obtain rfl:k=n:=VO
   (with_reducible repeat' first|apply Al|intro _)
   all_goals first|exact PU|(assumption)
end
def fwS(M:Nat->Nat->Int)(o f t:Nat):Nat->Nat->Int:=bnd M f t (M f o+M o t)
def fwT(M:Nat->Nat->Int)(o f:Nat):Nat->Nat->Nat->Int
 | 0=>M
 |t+1=>fwS (fwT M o f t) o f t
def fwF(c:Nat)(M:Nat->Nat->Int)(o:Nat):Nat->Nat->Nat->Int
 | 0=>M
 |f+1=>fwT (fwF c M o f) o f (c+1)
def fwO(c:Nat)(M:Nat->Nat->Int):Nat->Nat->Nat->Int
 | 0=>M
 |o+1=>fwF c (fwO c M o) o (c+1)
def LB(B:Int)(M:Nat->Nat->Int):Prop:= ∀x y,-B<=M x y/\M x y<=2000
def JB(B:Int)(o f t:Nat)(M:Nat->Nat->Int):Prop:= ∀x y,M x y<=2000/\ -(6*B)<=M x y/\(x=o-> -(3*B)<=M x y)/\(y=o-> -(3*B)<=M x y)/\(x=o->y=o-> -(2*B)<=M x y)/\(¬(x<f\/(x=f/\y<t))-> -B<=M x y)
theorem Xd1{B:Int}{o:Nat}{M:Nat->Nat->Int}(hB:0<=B)(h:LB B M):JB B o 0 0 M:=by
 intro x y;have:=h x y;refine ⟨VO,VO,λ_=>VO,λ_=>VO,λ_ _=>VO,λ_=>VO⟩
theorem Xr0{B:Int}{o f t:Nat}{M:Nat->Nat->Int}(hB:0<=B)(h:JB B o f t M):JB B o f (t+1) (fwS M o f t):=by
 have hft:=h f t;have hfo:=h f o;have hot:=h o t;have hoo:=h o o;have I:=hft.2.2.2.2.2 VO;intro x y;have hxy:=h x y;unfold fwS bnd xN;by_cases hc:x=f/\y=t
 ·exact V7
 ·rw [if_neg hc];exact ⟨hxy.1,hxy.2.1,hxy.2.2.1,hxy.2.2.2.1,hxy.2.2.2.2.1,λhv=>hxy.2.2.2.2.2 VO⟩
theorem Zs2{B:Int}{o f:Nat}{M:Nat->Nat->Int}(hB:0<=B)(h:JB B o f 0 M): ∀t,JB B o f t (fwT M o f t)
 | 0=>h
 |t+1=>Xr0 hB (Zs2 hB h t)
theorem Zs1{B:Int}{o f t:Nat}{M:Nat->Nat->Int}(h:JB B o f t M):JB B o (f+1) 0 M:=by
 intro x y;have hxy:=h x y;exact ⟨hxy.1,hxy.2.1,hxy.2.2.1,hxy.2.2.2.1,hxy.2.2.2.2.1,λhv=>hxy.2.2.2.2.2 VO⟩
theorem Zs3{B:Int}{c o:Nat}{M:Nat->Nat->Int}(hB:0<=B)(h:LB B M): ∀f,JB B o f 0 (fwF c M o f)
 | 0=>Xd1 hB h
 |f+1=>Zs1 (Zs2 hB (Zs3 hB h f) (c+1))
theorem Zs0{c:Nat}{M:Nat->Nat->Int}(h:LB 2001 M): ∀o,LB (2001*6^o) (fwO c M o)
 | 0=>by
  rw [show (2001:Int)*6^0=2001 by decide]
  exact h
 |o+1=>by
  have ih:=Zs0 (c:=c) h o;have hp:(0:Int)<=2001*6^o:=Int.mul_nonneg VO (Int.pow_nonneg VO);have hj:=Zs3 (c:=c) (o:=o) hp ih (c+1);intro x y;have:=hj x y;have e:(2001:Int)*6^(o+1)=6*(2001*6^o):=by rw [Int.pow_succ];omega
  rw [e];exact ⟨this.2.1,this.1⟩
theorem Je2: ∀o:Nat,o<=10->(6:Int)^o<=60466176:=by
 intro o ho;rcases (show o=0\/o=1\/o=2\/o=3\/o=4\/o=5\/o=6\/o=7\/o=8\/o=9\/o=10 by omega) with rfl|rfl|rfl|rfl|rfl|rfl|rfl|rfl|rfl|rfl|rfl<;>decide
theorem Jj5{c:Nat}{M:Nat->Nat->Int}(h:LB 2001 M){o f t:Nat}(ho:o<=10)(x y:Nat): -800000000000<=fwT (fwF c (fwO c M o) o f) o f t x y/\fwT (fwF c (fwO c M o) o f) o f t x y<=2000:=by
 have ih:=Zs0 (c:=c) h o;have hp:(0:Int)<=2001*6^o:=Int.mul_nonneg VO (Int.pow_nonneg VO);have hj:=Zs2 hp (Zs3 (c:=c) (o:=o) hp ih f) t x y;have:=Je2 o ho;omega
theorem uM{B:Int}{M:Nat->Nat->Int}(h:LB B M){a b:Nat}{v:Int}(hv: -B<=v):LB B (bnd M a b v):=by
 intro x y;have h1:=h a b;have h2:=h x y;unfold bnd xN;split<;>omega
theorem Ww3{c:Nat}{U O:Int}(h:1<=U/\U<=O/\O<=200): ∀k,LB 2001 (cel c U O k)
 | 0=>by
  intro x y;unfold cel ini;split<;>omega
 |k+1=>uM (uM (Ww3 h k) VO) VO
theorem oQ{c:Nat}{T U O:Int}{a b u v:Nat->Int}{n:Nat}(h:1<=U/\U<=O/\O<=200/\1<=T/\T<=2000)(hv: ∀j,j<n->0<=u j/\u j<=v j/\v j<=2000): ∀k,k<=n->LB 2001 (rdM c T U O a b u v k)
 | 0,_=>uM (uM (Ww3 VO c) VO) VO
 |k+1,hk=>by
  have ih:=oQ (c:=c) (a:=a) (b:=b) h hv k VO;have:=hv k VO;show LB 2001 (rdS _ _ _ _ _ _);unfold rdS;split
  ·exact uM (uM ih VO) VO
  ·exact uM ih VO
section
variable (c:Nat)(T U O:Int)(n:Nat)(a b u v:Nat->Int)
def Qa9:St:={σ:=[agg [iI (c:Int),iI T,iI U,iI O],X8 n a b u v,ptr 0 0,top,QV,AV.lit false,ptr 5 0,top,top,top,AV.mp 63]++HO 11 [iI ((c:Int)+1),iI ((c:Int)+1)]++HO 21 [iI (c:Int),iI (c:Int)]++HO 34 [X8 n a b u v,iI (n:Int),iI (n:Int)]++HO 37 [iI ((c:Int)+1)]++HO 56 [],m:=[(5,GU.ints 343 [] 125 λk=>UH (c:Int) T U O (rdM c T U O a b u v n) k),(0,GU.cells 122 [iI (c:Int),iI T,iI U,iI O]),(63,GU.memo (λx=>sn a b u v n x) λx=>Value.bool true)],nx:=72}
noncomputable def Qx2:Code:=UE (VX (UB Tryz.f209) 3)
def I3(o:Nat):St:=(upE [(122,i o)] [(5,.ints 343 [] 125 (UH c T U O (fwO c (rdM c T U O a b u v n) o))),(0,.cells 122 [i c,i T,i U,i O])] (Qa9 c T U O n a b u v))
def qR(o:Nat):GB->Option St
 | .exit 8=>some (upE [(122,i ((c:Int)+1))] [(5,.ints 343 [] 125 (UH c T U O (fwO c (rdM c T U O a b u v n) (c+1)))),(0,.cells 122 [i c,i T,i U,i O])] (Qa9 c T U O n a b u v))
 |_=>none
def Wz5:CT:= .leaf (.exit 8,(qR c T U O n a b u v 0 (.exit 8)).getD (Qa9 c T U O n a b u v))
def nJ:UN:=GO [] (HM (I3 c T U O n a b u v (0)) (Wz5 c T U O n a b u v))
def Zs9(o:Nat):St:={σ:=[agg [iI (c:Int),iI T,iI U,iI O],X8 n a b u v,ptr 0 0,top,QV,AV.lit false,ptr 5 0,top,top,top,AV.mp 63,top,top,iI (o:Int)]++HO 8 [iI ((c:Int)+1),iI ((c:Int)+1)]++HO 21 [iI (c:Int),iI (c:Int)]++HO 34 [X8 n a b u v,iI (n:Int),iI (n:Int)]++HO 37 [iI ((c:Int)+1),iI (o:Int),top,top,top,top,iI ((c:Int)+1)]++HO 50 [],m:=[(5,GU.ints 343 [] 125 λk=>UH (c:Int) T U O (fwO c (rdM c T U O a b u v n) o) k),(0,GU.cells 122 [iI (c:Int),iI T,iI U,iI O])],nx:=79}
noncomputable def Zv1:Code:=(UE (VX (UE (VX (UB Tryz.f209) 3)) 0))
def Wl2(o:Nat)(f:Nat):St:=(upE [(128,i f)] [(5,.ints 343 [] 125 (UH c T U O (fwF c (fwO c (rdM c T U O a b u v n) o) o f))),(0,.cells 122 [i c,i T,i U,i O])] (Zs9 c T U O n a b u v o))
def CX(o:Nat)(f:Nat):GB->Option St
 | .exit 10=>some (upE [(128,i ((c:Int)+1))] [(5,.ints 343 [] 125 (UH c T U O (fwF c (fwO c (rdM c T U O a b u v n) o) o (c+1)))),(0,.cells 122 [i c,i T,i U,i O])] (Zs9 c T U O n a b u v o))
 |_=>none
def Jn7(o:Nat):CT:= .leaf (.exit 10,(CX c T U O n a b u v o 0 (.exit 10)).getD (Zs9 c T U O n a b u v o))
def Xy8(o:Nat):UN:=GO [] (HM (Wl2 c T U O n a b u v o (0)) (Jn7 c T U O n a b u v o))
def bZ(o:Nat)(f:Nat):St:={σ:=[agg [iI (c:Int),iI T,iI U,iI O],X8 n a b u v,ptr 0 0,top,QV,AV.lit false,ptr 5 0,top,top,top,AV.mp 63,top,top,iI (o:Int),iI (f:Int)]++HO 7 [iI ((c:Int)+1),iI ((c:Int)+1)]++HO 21 [iI (c:Int),iI (c:Int)]++HO 34 [X8 n a b u v,iI (n:Int),iI (n:Int)]++HO 37 [iI ((c:Int)+1),iI (o:Int),top,top,top,top,iI ((c:Int)+1),iI (f:Int),top,top,top,top,iI ((c:Int)+1)]++HO 44 [],m:=[(5,GU.ints 343 [] 125 λk=>UH (c:Int) T U O (fwF c (fwO c (rdM c T U O a b u v n) o) o f) k),(0,GU.cells 122 [iI (c:Int),iI T,iI U,iI O])],nx:=86}
noncomputable def Xf4:Code:=(UE (VX (UE (VX (UE (VX (UB Tryz.f209) 3)) 0)) 0))
def I2(o:Nat)(f:Nat)(t:Nat):St:=(upE [(134,i t)] [(5,.ints 343 [] 125 (UH c T U O (fwT (fwF c (fwO c (rdM c T U O a b u v n) o) o f) o f t))),(0,.cells 122 [i c,i T,i U,i O])] (bZ c T U O n a b u v o f))
def PZ(o:Nat)(f:Nat)(t:Nat):GB->Option St
 | .exit 12=>some (upE [(134,i ((c:Int)+1))] [(5,.ints 343 [] 125 (UH c T U O (fwT (fwF c (fwO c (rdM c T U O a b u v n) o) o f) o f (c+1)))),(0,.cells 122 [i c,i T,i U,i O])] (bZ c T U O n a b u v o f))
 |_=>none
def Wz4(o:Nat)(f:Nat):CT:= .leaf (.exit 12,(PZ c T U O n a b u v o f 0 (.exit 12)).getD (bZ c T U O n a b u v o f))
def nI(o:Nat)(f:Nat):UN:=GO [] (HM (I2 c T U O n a b u v o f (0)) (Wz4 c T U O n a b u v o f))
theorem We7(o:Nat)(f:Nat)(VW:1<=c/\c<=10)(UK:1<=U/\U<=O/\O<=200/\1<=T/\T<=2000)(HY:n<=1000)(F8:DF (λk=>rdB c (a k) (b k) (u k) (v k)) n=true)(BX:o<=c)(zV:f<=c):GC VT (.loop Xf4) (nI c T U O n a b u v o f):=by
 refine G7 [] (L:=[]) (Ae P0 Aa) (Ai Ab (Ag LP Ac)) U3 U8 (X:=Nat) (I2 c T U O n a b u v o f) (λt=>t<=c+1) (λt=>c+1-t) (PZ c T U O n a b u v o f) (x0:=0) VZ ?_ ?_ ?_
 ·rintro t;kernel_rfl
 ·rintro t y E h;unfold PZ at h;split at h
  ·cases h;kernel_rfl
  ·cases h
 ·rintro Q hQ t hx;refine ⟨(t+1),?_⟩;(with_reducible refine DN (t:=let z2:=(fwF c (fwO c (rdM c T U O a b u v n) o) o f);let A:=(fwT z2 o f t);let W:=(U4 ((c:Int)+1));let z3:=(UH (c:Int) T U O A (t*1+(f*11+4)));(branch (decide ((t:Int)<(c:Int)+1)) (need [UO f 11] (need [UO o 11] (need [o*1+(f*11+4)<125] (need [UO o 11] (need [UO t 11] (need [t*1+(o*11+4)<125] (need [VQ (UH (c:Int) T U O A (o*1+(f*11+4))+UH (c:Int) T U O A (t*1+(o*11+4)))] (need [UO f 11] (need [UO t 11] (need [t*1+(f*11+4)<125] (need [UO f 11] (need [UO t 11] (need [t*1+(f*11+4)+List.length [min z3 (UH (c:Int) T U O A (o*1+(f*11+4))+UH (c:Int) T U O A (t*1+(o*11+4)))]<=125] (need [VQ ((t:Int)+1)] (need [U4 (agg [iI (c:Int),iI T,iI U,iI O]),Q4 n a b u v,XK,QV=QV,X6,XX,ZJ,U4 (o:Int),U4 (f:Int),W,W,U4 (c:Int),U4 (c:Int),Q4 n a b u v,U4 (n:Int),U4 (n:Int),W,U4 (o:Int),W,U4 (f:Int),W,(t:Int)+1=(↑(t+1):Int),125=125,H2 125 (UV (t*1+(f*11+4)) (min z3 (UH (c:Int) T U O A (o*1+(f*11+4))+UH (c:Int) T U O A (t*1+(o*11+4)))) (UH (c:Int) T U O A)) (UH (c:Int) T U O (fwT z2 o f (t+1))),U4 (c:Int),T=T,U=U,O=O] (leaf GB.normal)))))))))))))))) (need [U4 (agg [iI (c:Int),iI T,iI U,iI O]),Q4 n a b u v,XK,QV=QV,X6,XX,ZJ,U4 (o:Int),U4 (f:Int),W,W,U4 (c:Int),U4 (c:Int),Q4 n a b u v,U4 (n:Int),U4 (n:Int),W,U4 (o:Int),W,U4 (f:Int),W,(t:Int)=(c:Int)+1,125=125,H2 125 (UH (c:Int) T U O A) (UH (c:Int) T U O (fwT z2 o f (c+1))),U4 (c:Int),T=T,U=U,O=O] (leaf (GB.exit 12))))) VY ?_);simp only [Wz4,PZ,VR.sat,GZ] at hQ;simp only [VR.sat,UF,GA,GR,UI,VQ,UL,HD,RF,RG,L9,GT,PZ]
  have hv: ∀j,j<n->0<=u j/\u j<=v j/\v j<=2000:=by
   intro j hj;have:=GY.1 F8 j hj;simp only [rdB,HE,bt_iff,insB_iff] at this;omega
  have hl:=λx y=>Jj5 (c:=c) (oQ (c:=c) (a:=a) (b:=b) UK hv n (Am _)) (o:=o) (f:=f) (t:=t) VO x y
  have hfo:=hl f o;have hot:=hl o t;refine ⟨λh=>?_,λh=>?_⟩
  ·have h1: ∀M,UH c T U O M (o*1+(f*11+4))=M f o:=λM=>qN _ _ _ _ _ VO VO
   have h2: ∀M,UH c T U O M (t*1+(o*11+4))=M o t:=λM=>qN _ _ _ _ _ VO VO
   have h3: ∀M v,UV (t*1+(f*11+4)) (min (UH c T U O M (t*1+(f*11+4))) v) (UH c T U O M)=UH c T U O (bnd M f t v):=λM v=>jK VO VO
   simp only [h3];simp only [h1,h2]
   (with_reducible repeat' first|apply Al|intro _)
   all_goals first|exact Ak|omega|with_reducible rfl|(rename_i E hE;cases hE;exact hQ)|rfl
  ·obtain rfl:t=c+1:=VO
   (with_reducible repeat' first|apply Al|intro _)
   all_goals first|exact Ak|omega|with_reducible rfl|(rename_i E hE;cases hE;exact hQ)|rfl
theorem Jc6(o:Nat)(VW:1<=c/\c<=10)(UK:1<=U/\U<=O/\O<=200/\1<=T/\T<=2000)(HY:n<=1000)(F8:DF (λk=>rdB c (a k) (b k) (u k) (v k)) n=true)(BX:o<=c):GC VT (.loop Zv1) (Xy8 c T U O n a b u v o):=by
 refine G7 [] (L:=[BS 14 (λk=>FV [k<=c] (nI c T U O n a b u v o k))]) (Ae P0 Aa) (Ai Ab (Ag LP Ac)) U3 (G4 (λcj hcj=>by
  have e:VX Zv1 0=some (.loop Xf4):=VY;rw [e] at hcj;cases hcj;exact PA (λk=>D9 (λh=>We7 c T U O n a b u v o k VW UK HY F8 BX h)))) (X:=Nat) (Wl2 c T U O n a b u v o) (λf=>f<=c+1) (λf=>c+1-f) (CX c T U O n a b u v o) (x0:=0) VZ ?_ ?_ ?_
 ·rintro f;kernel_rfl
 ·rintro f y E h;unfold CX at h;split at h
  ·cases h;kernel_rfl
  ·cases h
 ·rintro Q hQ f hx;refine ⟨(f+1),?_⟩;(with_reducible refine DN (t:=let A:=(U4 ((c:Int)+1));let W:=(fwO c (rdM c T U O a b u v n) o);let z2:=(U4 (agg [iI (c:Int),iI T,iI U,iI O]));let z3:=Q4 n a b u v;(branch (decide ((f:Int)<(c:Int)+1)) (need [VQ ((c:Int)+1)] (need [f<=c] (need [z2,z3,XK,QV=QV,X6,XX,ZJ,U4 (o:Int),U4 (f:Int),A,A,U4 (c:Int),U4 (c:Int),z3,U4 (n:Int),U4 (n:Int),A,U4 (o:Int),A,U4 (f:Int),A,(0:Int)=(↑(0:Nat):Int),125=125,H2 125 (UH (c:Int) T U O (fwF c W o f)) (UH (c:Int) T U O (fwT (fwF c W o f) o f 0)),U4 (c:Int),T=T,U=U,O=O] (need [VQ ((f:Int)+1)] (need [z2,z3,XK,QV=QV,X6,XX,ZJ,U4 (o:Int),A,A,U4 (c:Int),U4 (c:Int),z3,U4 (n:Int),U4 (n:Int),A,U4 (o:Int),A,(f:Int)+1=(↑(f+1):Int),125=125,H2 125 (UH (c:Int) T U O (fwT (fwF c W o f) o f (c+1))) (UH (c:Int) T U O (fwF c W o (f+1))),U4 (c:Int),T=T,U=U,O=O] (leaf GB.normal)))))) (need [z2,z3,XK,QV=QV,X6,XX,ZJ,U4 (o:Int),A,A,U4 (c:Int),U4 (c:Int),z3,U4 (n:Int),U4 (n:Int),A,U4 (o:Int),A,(f:Int)=(c:Int)+1,125=125,H2 125 (UH (c:Int) T U O (fwF c W o f)) (UH (c:Int) T U O (fwF c W o (c+1))),U4 (c:Int),T=T,U=U,O=O] (leaf (GB.exit 10))))) VY ?_);simp only [Jn7,CX,VR.sat,GZ] at hQ;simp only [VR.sat,UF,GA,GR,UI,VQ,UL,HD,RF,RG,L9,GT,CX]
  refine ⟨λh=>?_,λh=>?_⟩
  ·(with_reducible repeat' first|apply Al|intro _)
   all_goals first|exact Ak|omega|with_reducible rfl|(rename_i E hE;cases hE;exact hQ)|rfl
  ·obtain rfl:f=c+1:=VO
   (with_reducible repeat' first|apply Al|intro _)
   all_goals first|exact Ak|omega|with_reducible rfl|(rename_i E hE;cases hE;exact hQ)|rfl
theorem Wf2(VW:1<=c/\c<=10)(UK:1<=U/\U<=O/\O<=200/\1<=T/\T<=2000)(HY:n<=1000)(F8:DF (λk=>rdB c (a k) (b k) (u k) (v k)) n=true):GC VT (.loop Qx2) (nJ c T U O n a b u v):=by
 refine G7 [] (L:=[BS 13 (λk=>FV [k<=c] (Xy8 c T U O n a b u v k))]) (Ae P0 Aa) (Ai Ab (Ag LP Ac)) U3 (G4 (λcj hcj=>by
  have e:VX Qx2 0=some (.loop Zv1):=VY;rw [e] at hcj;cases hcj;exact PA (λk=>D9 (λh=>Jc6 c T U O n a b u v k VW UK HY F8 h)))) (X:=Nat) (I3 c T U O n a b u v) (λo=>o<=c+1) (λo=>c+1-o) (qR c T U O n a b u v) (x0:=0) VZ ?_ ?_ ?_
 ·rintro o;kernel_rfl
 ·rintro o y E h;unfold qR at h;split at h
  ·cases h;kernel_rfl
  ·cases h
 ·rintro Q hQ o hx;refine ⟨(o+1),?_⟩;(with_reducible refine DN (t:=let A:=(U4 ((c:Int)+1));let W:=(rdM c T U O a b u v n);let z2:=(U4 (agg [iI (c:Int),iI T,iI U,iI O]));let z3:=Q4 n a b u v;(branch (decide ((o:Int)<(c:Int)+1)) (need [VQ ((c:Int)+1)] (need [o<=c] (need [z2,z3,XK,QV=QV,X6,XX,ZJ,U4 (o:Int),A,A,U4 (c:Int),U4 (c:Int),z3,U4 (n:Int),U4 (n:Int),A,U4 (o:Int),A,(0:Int)=(↑(0:Nat):Int),125=125,H2 125 (UH (c:Int) T U O (fwO c W o)) (UH (c:Int) T U O (fwF c (fwO c W o) o 0)),U4 (c:Int),T=T,U=U,O=O] (need [VQ ((o:Int)+1)] (need [z2,z3,XK,QV=QV,X6,XX,ZJ,A,A,U4 (c:Int),U4 (c:Int),z3,U4 (n:Int),U4 (n:Int),A,(o:Int)+1=(↑(o+1):Int),125=125,H2 125 (UH (c:Int) T U O (fwF c (fwO c W o) o (c+1))) (UH (c:Int) T U O (fwO c W (o+1))),U4 (c:Int),T=T,U=U,O=O] (leaf GB.normal)))))) (need [z2,z3,XK,QV=QV,X6,XX,ZJ,A,A,U4 (c:Int),U4 (c:Int),z3,U4 (n:Int),U4 (n:Int),A,(o:Int)=(c:Int)+1,125=125,H2 125 (UH (c:Int) T U O (fwO c W o)) (UH (c:Int) T U O (fwO c W (c+1))),U4 (c:Int),T=T,U=U,O=O] (leaf (GB.exit 8))))) VY ?_);simp only [Wz5,qR,VR.sat,GZ] at hQ;simp only [VR.sat,UF,GA,GR,UI,VQ,UL,HD,RF,RG,L9,GT,qR]
  refine ⟨λh=>?_,λh=>?_⟩
  ·(with_reducible repeat' first|apply Al|intro _)
   all_goals first|exact Ak|omega|with_reducible rfl|(rename_i E hE;cases hE;exact hQ)|rfl
  ·obtain rfl:o=c+1:=VO
   (with_reducible repeat' first|apply Al|intro _)
   all_goals first|exact Ak|omega|with_reducible rfl|(rename_i E hE;cases hE;exact hQ)|rfl
def fwM:Nat->Nat->Int:=fwO c (rdM c T U O a b u v n) (c+1)
def okR:Bool:=DF (λk=>decide (0<=fwM c T U O n a b u v k k)) (c+1)
def Xe3:St:={σ:=[agg [iI (c:Int),iI T,iI U,iI O],X8 n a b u v,ptr 0 0,top,top,top,ptr 5 0,top,top,top,AV.mp 63]++HO 11 [iI ((c:Int)+1),iI ((c:Int)+1)]++HO 21 [iI (c:Int),iI (c:Int)]++HO 34 [X8 n a b u v,iI (n:Int),iI (n:Int)]++HO 37 [iI ((c:Int)+1),iI ((c:Int)+1)]++HO 40 [iI ((c:Int)+1)]++HO 14 [],m:=[(5,GU.ints 343 [] 125 λk=>UH (c:Int) T U O (fwO c (rdM c T U O a b u v n) (c+1)) k),(0,GU.cells 122 [iI (c:Int),iI T,iI U,iI O])],nx:=76}
noncomputable def Js3:Code:=UE (VX (UB Tryz.f209) 4)
def Wl1(k:Nat):St:=(upE [(164,i k)] [(5,.ints 343 [] 125 (UH c T U O (fwM c T U O n a b u v))),(0,.cells 122 [i c,i T,i U,i O])] (Xe3 c T U O n a b u v))
def dV(k:Nat):GB->Option St
 | .ret=>some (upE [(4,.x (.pointer none)),(5,.lit false),(164,.top)] [(5,.ints 343 [] 125 (UH c T U O (fwM c T U O n a b u v))),(0,.cells 122 [i c,i T,i U,i O])] (Xe3 c T U O n a b u v))
 | .exit 14=>some (upE [(164,.top)] [(5,.ints 343 [] 125 (UH c T U O (fwM c T U O n a b u v))),(0,.cells 122 [i c,i T,i U,i O])] (Xe3 c T U O n a b u v))
 |_=>none
def Jn6:CT:= .branch (okR c T U O n a b u v) (.leaf (.exit 14,(dV c T U O n a b u v 0 (.exit 14)).getD (Xe3 c T U O n a b u v))) (.leaf (.ret,(dV c T U O n a b u v 0 .ret).getD (Xe3 c T U O n a b u v)))
def Xy7:UN:=GO [] (HM (Wl1 c T U O n a b u v (0)) (Jn6 c T U O n a b u v))
theorem Jc5(VW:1<=c/\c<=10)(UK:1<=U/\U<=O/\O<=200/\1<=T/\T<=2000)(HY:n<=1000)(F8:DF (λk=>rdB c (a k) (b k) (u k) (v k)) n=true):GC VT (.loop Js3) (Xy7 c T U O n a b u v):=by
 refine G7 [] (L:=[]) (Ae P0 Aa) (Ai Ab (Ag LP Ac)) U3 U8 (X:=Nat) (Wl1 c T U O n a b u v) (λk=>k<=c+1/\ ∀j,j<k->0<=fwM c T U O n a b u v j j) (λk=>c+1-k) (dV c T U O n a b u v) (x0:=0) VZ ?_ ?_ ?_
 ·rintro k;kernel_rfl
 ·rintro k y E h;unfold dV at h;split at h
  ·cases h;kernel_rfl
  ·cases h;kernel_rfl
  ·cases h
 ·rintro Q hQ k hx;refine ⟨(k+1),?_⟩;(with_reducible refine DN (t:=let A:=(U4 ((c:Int)+1));let W:=(fwM c T U O n a b u v);let z2:=(U4 (agg [iI (c:Int),iI T,iI U,iI O]));let z3:=Q4 n a b u v;(branch (decide ((k:Int)<(c:Int)+1)) (need [UO k 11] (need [UO k 11] (need [k*1+(k*11+4)<125] (branch (decide (UH (c:Int) T U O W (k*1+(k*11+4))<0)) (need [z2,z3,XK,QV=QV,X6,XX,ZJ,A,A,U4 (c:Int),U4 (c:Int),z3,U4 (n:Int),U4 (n:Int),A,A,A,125=125,GV 125 (UH (c:Int) T U O W),U4 (c:Int),T=T,U=U,O=O] (leaf GB.ret)) (need [VQ ((k:Int)+1)] (need [z2,z3,XK,XX,ZJ,A,A,U4 (c:Int),U4 (c:Int),z3,U4 (n:Int),U4 (n:Int),A,A,A,(k:Int)+1=(↑(k+1):Int),125=125,GV 125 (UH (c:Int) T U O W),U4 (c:Int),T=T,U=U,O=O] (leaf GB.normal))))))) (need [z2,z3,XK,XX,ZJ,A,A,U4 (c:Int),U4 (c:Int),z3,U4 (n:Int),U4 (n:Int),A,A,A,125=125,GV 125 (UH (c:Int) T U O W),U4 (c:Int),T=T,U=U,O=O] (leaf (GB.exit 14))))) VY ?_);simp only [Jn6,dV,VR.sat,GZ] at hQ;simp only [VR.sat,UF,GA,GR,UI,VQ,UL,HD,RF,RG,L9,GT,dV]
  have h1:UH c T U O (fwM c T U O n a b u v) (k*1+(k*11+4))=fwM c T U O n a b u v k k\/11<=k:=by
   rcases An k 11 with h|h
   ·exact .inl (qN _ _ _ _ _ VO h)
   ·exact .inr h
  refine ⟨λh=>?_,λh=>?_⟩
  ·have h2:=h1.resolve_right VO;rw [h2];refine ⟨VO,VO,VO,λhneg=>?_,λWp8=>?_⟩
   ·have hno:okR c T U O n a b u v=false:=by
     cases ho:okR c T U O n a b u v
     ·rfl
     ·have:=GY.1 ho k VO;simp at this;omega
    (with_reducible repeat' first|apply Al|intro _)
    all_goals first|exact PU|(rename_i E hE;cases hE;exact hQ.2 hno)
   ·exact VJ
  ·obtain ⟨hx1,hx2⟩:=hx;obtain rfl:k=c+1:=VO;have Wo5:okR c T U O n a b u v=true:=GY.2 (λj hj=>by simpa using hx2 j hj)
   (with_reducible repeat' first|apply Al|intro _)
   all_goals first|exact PU|(rename_i E hE;cases hE;exact hQ.1 Wo5)
end
theorem uK{S:Code->UN->Prop}{c:Code}{s0 s1 s2 s3 s4:UN}(h0: ∀cj,VX c 0=some cj->S cj s0)(h1: ∀cj,VX c 1=some cj->S cj s1)(h2: ∀cj,VX c 2=some cj->S cj s2)(h3: ∀cj,VX c 3=some cj->S cj s3)(h4: ∀cj,VX c 4=some cj->S cj s4):
  ∀j cj,VX c j=some cj-> ∀sp,[s0,s1,s2,s3,s4][j]? =some sp->S cj sp:=by
 intro j cj hj sp hsp
 match j with
 | 0=>simp at hsp;subst hsp;exact h0 cj hj
 | 1=>simp at hsp;subst hsp;exact h1 cj hj
 | 2=>simp at hsp;subst hsp;exact h2 cj hj
 | 3=>simp at hsp;subst hsp;exact h3 cj hj
 | 4=>simp at hsp;subst hsp;exact h4 cj hj
 |j+5=>simp at hsp
theorem US.same{P:Program}{f:FuncId}{avs avs':List AV}{t:VR AV}(h:US P f avs' t)(k:P3 avs avs'):US P f avs t:=λQ hQ e w args hro hgl FS hr=>h Q hQ e w args hro hgl (k.idf FS) (k.rep hr)
section
variable (c:Nat)(T U O:Int)(n:Nat)(a b u v:Nat->Int)
abbrev Qb6:AV:= .roI [] 125 (UH c T U O (fwM c T U O n a b u v)) 0
abbrev nilP:AV:= .x (.pointer none)
theorem TI(VW:1<=c/\c<=10)(UK:1<=U/\U<=O/\O<=200/\1<=T/\T<=2000)(HY:n<=1000)(F8:DF (λk=>rdB c (a k) (b k) (u k) (v k)) n=true):US VT 209 [.agg [i c,i T,i U,i O],rds n a b u v] (.branch (okR c T U O n a b u v) (.leaf (.tup [Qb6 c T U O n a b u v,.lit true])) (.leaf (.tup [nilP,.lit false]))):=by
 refine GX (L:=[Xz1 c T U O n a b u v,nK c T U O n a b u v,Xy9 c T U O n a b u v,nJ c T U O n a b u v,Xy7 c T U O n a b u v]) (Ae P0 Aa) (Ai Ab (Ag LP Ac)) U3 Tryz.func209 (UY Tryz.f209) (uK (lpE (b:= .loop Zv2) VY<|(Jd9 c T U O n a b u v VW UK).N) (lpE (b:= .loop c9) VY<|(Jd5 c T U O n a b u v VW UK).N) (lpE (b:= .loop Js4) VY<|(Jd0 c T U O n a b u v VW UK HY F8).N) (lpE (b:= .loop Qx2) VY<|(Wf2 c T U O n a b u v VW UK HY F8).N) (lpE (b:= .loop Js3) VY<|(Jc5 c T U O n a b u v VW UK HY F8).N)) (t:=let A:=(U4 ((c:Int)+1));let W:=(U4 (agg [iI (c:Int),iI T,iI U,iI O]));let z2:=(UH (c:Int) T U O (cel c U O c) (c*1+4));let z3:=(UV (c*1+4) (min z2 T) (UH (c:Int) T U O (cel c U O c)) (0+(c*11+4)));let z4:=Q4 n a b u v;(need [VQ ((c:Int)+1)] (need [W,z4,XK,QV=QV,X6,XX,A,(0:Int)=(↑(0:Nat):Int),List.length ([(c:Int),T,U,O]++cC 121)=125,H2 125 (UD ([(c:Int),T,U,O]++cC 121)) (UH (c:Int) T U O (ini c 0 0)),U4 (c:Int),T=T,U=U,O=O] (need [W,z4,XK,QV=QV,X6,XX,A,A,U4 (c:Int),(0:Int)=(↑(0:Nat):Int),125=125,H2 125 (UH (c:Int) T U O (ini c (c+1) 0)) (UH (c:Int) T U O (cel c U O 0)),U4 (c:Int),T=T,U=U,O=O] (need [UO 0 11] (need [UO c 11] (need [c*1+4<125] (need [UO 0 11] (need [UO c 11] (need [c*1+4+List.length [min z2 T]<=125] (need [VQ (-T)] (need [UO c 11] (need [UO 0 11] (need [0+(c*11+4)<125] (need [UO c 11] (need [UO 0 11] (need [0+(c*11+4)+List.length [min z3 (-T)]<=125] (need [W,z4,XK,QV=QV,X6,XX,ZJ,A,A,U4 (c:Int),U4 (c:Int),z4,U4 (n:Int),(0:Int)=(↑(0:Nat):Int),125=125,H2 125 (UV (0+(c*11+4)) (min z3 (-T)) (jV (c*1+4) [min z2 T] (UH (c:Int) T U O (cel c U O c)))) (UH (c:Int) T U O (rdM c T U O a b u v 0)),U4 (c:Int),T=T,U=U,O=O,∀(k:Value),False->sn a b u v 0 k/\k=Value.bool true] (need [VQ ((c:Int)+1)] (need [W,z4,XK,QV=QV,X6,XX,ZJ,A,A,U4 (c:Int),U4 (c:Int),z4,U4 (n:Int),U4 (n:Int),A,(0:Int)=(↑(0:Nat):Int),125=125,H2 125 (UH (c:Int) T U O (rdM c T U O a b u v n)) (UH (c:Int) T U O (fwO c (rdM c T U O a b u v n) 0)),U4 (c:Int),T=T,U=U,O=O] (need [VQ ((c:Int)+1)] (need [W,z4,XK,XX,ZJ,A,A,U4 (c:Int),U4 (c:Int),z4,U4 (n:Int),U4 (n:Int),A,A,A,(0:Int)=(↑(0:Nat):Int),125=125,H2 125 (UH (c:Int) T U O (fwO c (rdM c T U O a b u v n) (c+1))) (UH (c:Int) T U O (fwM c T U O n a b u v)),U4 (c:Int),T=T,U=U,O=O] (branch (okR c T U O n a b u v) (leaf (tup [roI [] 125 (λk=>UH (c:Int) T U O (fwM c T U O n a b u v) k) 0,AV.lit true])) (leaf (tup [QV,AV.lit false]))))))))))))))))))))))))) VY ?_
 intro Q hQ;have h1: ∀M w,UV (c*1+4) (min (UH c T U O M (c*1+4)) w) (UH c T U O M)=UH c T U O (bnd M 0 c w):=λM w=>jK VO VO
 have h2: ∀M w,UV (0+(c*11+4)) (min (UH c T U O M (0+(c*11+4))) w) (UH c T U O M)=UH c T U O (bnd M c 0 w):=λM w=>jK VO VO
 simp only [VR.sat,UF,UL,VQ,L9,GT,h1,h2] at hQ ⊢
 (with_reducible repeat' first|apply Al|intro _)
 all_goals first|exact Ak|omega|with_reducible rfl|rfl|exact Wd6 _ _ _ _ _ _|(rename_i h;exact h.elim)|(rename_i h;exact ⟨.tup [Qb6 c T U O n a b u v,.lit true],⟨⟨rfl,rfl,λ_ _=>rfl,rfl⟩,rfl,Ak⟩,hQ.1 h⟩)|(rename_i h;exact ⟨.tup [nilP,.lit false],⟨rfl,rfl,Ak⟩,hQ.2 h⟩)
end
def col(j:Nat)(f:Nat->List AV):Nat->Int:=λk=>Wn9 (f k) j
def rC:DM:=λl=>match l with
 |[.agg [.x (.int .i64 c),.x (.int .i64 T),.x (.int .i64 U),.x (.int .i64 O)],.lst 4 n f]=>some (.need [UJ 4 n f,1<=c/\c<=10,1<=U/\U<=O/\O<=200/\1<=T/\T<=2000,n<=1000,DF (λk=>rdB c (col 0 f k) (col 1 f k) (col 2 f k) (col 3 f k)) n=true]
   (.branch (okR c.toNat T U O n (col 0 f) (col 1 f) (col 2 f) (col 3 f)) (.leaf (.tup [Qb6 c.toNat T U O n (col 0 f) (col 1 f) (col 2 f) (col 3 f),.lit true])) (.leaf (.tup [nilP,.lit false]))))
 |_=>none
theorem xQ:Enters VT 209/\ ∀avs t,rC avs=some t->US VT 209 avs t:=by
 refine ⟨(UM Tryz.func209),?_⟩;intro avs t h;unfold rC at h;split at h
 ·rename_i c T U O n f;cases h;intro Q hQ;have I:=GH hQ.1;have hr:UJ 4 n f:=I _ VZ;have hc:1<=c/\c<=10:=I _ VZ;have D4:DF (λk=>rdB c (col 0 f k) (col 1 f k) (col 2 f k) (col 3 f k)) n=true:=I _ VZ
  have e:((c.toNat:Nat):Int)=c:=VO;have h0:=TI c.toNat T U O n (col 0 f) (col 1 f) (col 2 f) (col 3 f) VO (I _ VZ) (I _ VZ) (by rw [e];exact D4)
  rw [e] at h0;exact US.same h0 (.cons (.refl _) (.cons (.lst 4 n _ _ hr) .nil)) Q hQ.2
 ·cases h
theorem PR.same{P:Program}{f:FuncId}{avs avs':List AV}{t:VR AV}(h:PR P f avs' t)(k:P3 avs avs'):PR P f avs t:=λQ hQ e w args hro hgl FS hr=>h Q hQ e w args hro hgl (k.idf FS) (k.rep hr)
def Qk1:G0
 |[.agg [.x (.int .i64 a),.x (.int .i64 b),.x (.int .i64 u),.x (.int .i64 v)],.ro [.fn (.func 229) [.agg [.x (.int .i64 c),.x (.int .i64 T),.x (.int .i64 U),.x (.int .i64 O)]] []]]=>some ([1<=c/\c<=10],bl (!rdB c a b u v))
 |_=>none
theorem Wy6(c T U O a b u v:Int)(VW:1<=c/\c<=10):U2 VT 243 [.agg [i a,i b,i u,i v],.ro [.fn (.func 229) [.agg [i c,i T,i U,i O]] []]] (bl (!rdB c a b u v)):=by
 refine U6 (L:=[]) (Ae oM Aa) U3 Tryz.func243 (UY Tryz.f243) U8 (t:=need [(1:Int)<=c/\c<=10] (leaf (RV.x (.bool !rdB c a b u v)))) VY ?_;simp [VR.sat,UF,GA,UI];exact VW
theorem mJ:VU VT 243 Qk1:=by
 refine ⟨(UM Tryz.func243),?_⟩;intro avs ns Z h I;unfold Qk1 at h;split at h
 ·cases h;exact Wy6 _ _ _ _ _ _ _ _ (I _ VZ)
 ·cases h
def yW(c:Int)(a b u v:Nat->Int)(k:Nat):Bool:= !rdB c (a k) (b k) (u k) (v k)
def NJ(c:Int)(n:Nat)(a b u v:Nat->Int):Bool:=DF (λk=>rdB c (a k) (b k) (u k) (v k)) n
abbrev X4(c:Int)(T:Int)(U:Int)(O:Int):AV:=AV.fn (Fn.func 243) [] [AV.ro [AV.fn (Fn.func 229) [agg [iI c,iI T,iI U,iI O]] []]]
section
variable (c T U O:Int)(n:Nat)(a b u v:Nat->Int)
def nS:St:={σ:=[X8 n a b u v,X4 c T U O]++HO 5 [iI (n:Int)]++HO 11 [],m:=[],nx:=4}
noncomputable def Zb9:Code:=UE (VX (UB Tryz.f247) 0)
def Qe4(k:Nat):St:=(upM [(8,i k)] (nS c T U O n a b u v))
def yH(k:Nat):GB->Option St
 | .ret=>some (upM [(4,i (H0 (yW c a b u v) n))] (nS c T U O n a b u v))
 | .exit 0=>some (upM [] (nS c T U O n a b u v))
 |_=>none
def Xw5:CT:= .branch (decide (H0 (yW c a b u v) n<n)) (.leaf (.ret,(yH c T U O n a b u v 0 .ret).getD (nS c T U O n a b u v))) (.leaf (.exit 0,(yH c T U O n a b u v 0 (.exit 0)).getD (nS c T U O n a b u v)))
def Xc3:UN:=(HM (Qe4 c T U O n a b u v (0)) (Xw5 c T U O n a b u v))
theorem Zc2(VW:n<=100000)(UK:1<=c/\c<=10):GC VT (.loop Zb9) (Xc3 c T U O n a b u v):=by
 refine HL (L:=[]) (Ae mJ Aa) U3 U8 (X:=Nat) (Qe4 c T U O n a b u v) (λk=>k<=n/\ ∀j,j<k->yW c a b u v j=false) (λk=>n-k) (yH c T U O n a b u v) (x0:=0) VZ ?_ ?_ ?_
 ·rintro k;kernel_rfl
 ·rintro k y E h;unfold yH at h;split at h
  ·cases h;kernel_rfl
  ·cases h;kernel_rfl
  ·cases h
 ·rintro Q hQ k hx;refine ⟨(k+1),?_⟩;(with_reducible refine DN (t:=branch (decide ((k:Int)<(n:Int))) (need [UO k n] (need [(1:Int)<=c/\c<=10] (branch (!rdB c (a k) (b k) (u k) (v k)) (need [Q4 n a b u v,U4 (X4 c T U O),(k:Int)=(↑(H0 (yW c a b u v) n):Int),U4 (n:Int)] (leaf GB.ret)) (need [VQ ((k:Int)+1)] (need [Q4 n a b u v,U4 (X4 c T U O),U4 (n:Int),(k:Int)+1=(↑(k+1):Int)] (leaf GB.normal)))))) (need [Q4 n a b u v,U4 (X4 c T U O),U4 (n:Int)] (leaf (GB.exit 0)))) VY ?_);simp only [Xw5,yH,VR.sat,GZ,HD] at hQ;simp only [VR.sat,UF,UL,HD,VQ,yH,DR];refine ⟨λh=>⟨VO,UK,λhb=>?_,λhb=>?_⟩,λh=>?_⟩
  ·have hf:H0 (yW c a b u v) n=k:=jD VO hb hx.2;refine ⟨VO,λE hE=>?_⟩
   cases hE;exact hQ.1 VO
  ·refine ⟨VO,VO,⟨VO,λj hj=>?_⟩,VO⟩
   rcases (show j<k\/j=k by omega) with h1|rfl
   ·exact hx.2 j h1
   ·exact hb
  ·have hf:H0 (yW c a b u v) n=n:=qJ (λj hj=>hx.2 j VO)
   intro E hE;cases hE;exact hQ.2 VO
theorem Zc3(VW:n<=100000)(UK:1<=c/\c<=10):U2 VT 247 [rds n a b u v,.fn (.func 243) [] [.ro [.fn (.func 229) [.agg [i c,i T,i U,i O]] []]]] (i (if H0 (yW c a b u v) n<n then (H0 (yW c a b u v) n:Int) else -1)):=by
 refine U6 (L:=[Xc3 c T U O n a b u v]) (Ae mJ Aa) U3 Tryz.func247 (UY Tryz.f247) (G4 (lpE (b:= .loop Zb9) VY<|Zc2 c T U O n a b u v VW UK)) (t:=need [Q4 n a b u v,U4 (X4 c T U O),U4 (n:Int),(0:Int)=(↑(0:Nat):Int)] (branch (decide (H0 (yW c a b u v) n<n)) (leaf (RV.x (.int .i64 (↑(H0 (yW c a b u v) n):Int)))) (leaf (RV.x (.int .i64 (-1:Int)))))) VY ?_
 exact VG
end
theorem isRec4(n:Nat)(a b u v:Nat->Int):UJ 4 n (λk=>[i (a k),i (b k),i (u k),i (v k)]):=λ_ _=>rfl
def Xw8:G0
 |[.lst 4 n f,.fn (.func 243) [] [.ro [.fn (.func 229) [.agg [.x (.int .i64 c),.x (.int .i64 T),.x (.int .i64 U),.x (.int .i64 O)]] []]]]=>some ([UJ 4 n f,n<=100000,1<=c/\c<=10],i (if H0 (yW c (col 0 f) (col 1 f) (col 2 f) (col 3 f)) n<n then (H0 (yW c (col 0 f) (col 1 f) (col 2 f) (col 3 f)) n:Int) else -1))
 |_=>none
def Xx3:G0
 |[.lst 4 n f,.fn (.func 243) [] [.ro [.fn (.func 229) [.agg [.x (.int .i64 c),.x (.int .i64 T),.x (.int .i64 U),.x (.int .i64 O)]] []]]]=>some ([UJ 4 n f,n<=100000,1<=c/\c<=10],bl (!NJ c n (col 0 f) (col 1 f) (col 2 f) (col 3 f)))
 |_=>none
def Xa7:G0
 |[.lst 4 n f,.fn (.func 229) [.agg [.x (.int .i64 c),.x (.int .i64 T),.x (.int .i64 U),.x (.int .i64 O)]] []]=>some ([UJ 4 n f,n<=100000,1<=c/\c<=10],bl (NJ c n (col 0 f) (col 1 f) (col 2 f) (col 3 f)))
 |_=>none
def flt(c T U O:Int)(n:Nat)(a b u v:Nat->Int):Int:=if qL c T U O then (if 12<n then 3 else if NJ c n a b u v then 0 else 2) else 1
def Qj5:G0
 |[.agg [.x (.int .i64 c),.x (.int .i64 T),.x (.int .i64 U),.x (.int .i64 O)],.lst 4 n f]=>some ([UJ 4 n f],i (flt c T U O n (col 0 f) (col 1 f) (col 2 f) (col 3 f)))
 |_=>none
theorem Zc1:VU VT 247 Xw8:=by
 refine ⟨(UM Tryz.func247),?_⟩;intro avs ns Z h I;unfold Xw8 at h;split at h
 ·cases h;have hr:UJ 4 _ _:=I _ (GK);exact (Zc3 _ _ _ _ _ (col 0 _) (col 1 _) (col 2 _) (col 3 _) (I _ VZ) (I _ VZ)).same (.cons (.lst 4 _ _ _ hr) (.cons (.refl _) .nil))
 ·cases h
section
variable (c T U O:Int)(n:Nat)(a b u v:Nat->Int)
theorem Zp9(VW:n<=100000)(UK:1<=c/\c<=10):U2 VT 242 [rds n a b u v,.fn (.func 243) [] [.ro [.fn (.func 229) [.agg [i c,i T,i U,i O]] []]]] (bl (!NJ c n a b u v)):=by
 refine U6 (L:=[]) (Ae Zc1 Aa) U3 Tryz.func242 (UY Tryz.f242) U8 (t:=need [UJ 4 n λk=>[i (a k),i (b k),i (u k),i (v k)],n<=100000,(1:Int)<=c/\c<=10] (leaf (RV.x (.bool (decide ((if H0 (yW c a b u v) n<n then (↑(H0 (yW c a b u v) n):Int) else (-1:Int))>=(0:Int))))))) VY ?_
 simp only [VR.sat,UF,GA,UI,UL];refine ⟨⟨isRec4 n _ _ _ _,VW,UK⟩,?_⟩;unfold NJ;rw [kZ];have:=F0 (yW c a b u v) n;have e:(λk=> !(λk=>rdB c (a k) (b k) (u k) (v k)) k)=yW c a b u v:=rfl
 rw [e];split<;>simp<;>omega
theorem Zp8:VU VT 242 Xx3:=by
 refine ⟨(UM Tryz.func242),?_⟩;intro avs ns Z h I;unfold Xx3 at h;split at h
 ·cases h;have hr:UJ 4 _ _:=I _ (GK);exact (Zp9 _ _ _ _ _ (col 0 _) (col 1 _) (col 2 _) (col 3 _) (I _ VZ) (I _ VZ)).same (.cons (.lst 4 _ _ _ hr) (.cons (.refl _) .nil))
 ·cases h
theorem Xp7(VW:n<=100000)(UK:1<=c/\c<=10):U2 VT 230 [rds n a b u v,.fn (.func 229) [.agg [i c,i T,i U,i O]] []] (bl (NJ c n a b u v)):=by
 refine U6 (L:=[]) (Ae Zp8 Aa) U3 Tryz.func230 (UY Tryz.f230) U8 (t:=need [UJ 4 n λk=>[i (a k),i (b k),i (u k),i (v k)],n<=100000,(1:Int)<=c/\c<=10] (leaf (RV.x (.bool !!NJ c n a b u v)))) VY ?_
 simp only [VR.sat,UF,GA,UI,UL];refine ⟨⟨isRec4 n _ _ _ _,VW,UK⟩,?_⟩;simp
end
theorem Xp6:VU VT 230 Xa7:=by
 refine ⟨(UM Tryz.func230),?_⟩;intro avs ns Z h I;unfold Xa7 at h;split at h
 ·cases h;have hr:UJ 4 _ _:=I _ (GK);exact (Xp7 _ _ _ _ _ (col 0 _) (col 1 _) (col 2 _) (col 3 _) (I _ VZ) (I _ VZ)).same (.cons (.lst 4 _ _ _ hr) (.cons (.refl _) .nil))
 ·cases h
theorem BU{c T U O:Int}(h:qL c T U O=true):(1<=c/\c<=10)/\(1<=U/\U<=O/\O<=200/\1<=T/\T<=2000)/\c*U<=T/\T<=c*O:=by
 simp only [qL,HE,bt_iff,insB_iff] at h;omega
theorem Ww1(c T U O:Int)(n:Nat)(a b u v:Nat->Int):U2 VT 208 [.agg [i c,i T,i U,i O],rds n a b u v] (i (flt c T U O n a b u v)):=by
 refine U6 (L:=[]) (Ae CheckTube_ok (Ae Xp6 Aa)) U3 Tryz.func208 (UY Tryz.f208) U8 (t:=branch ((if qL c T U O=true then (0:Int) else (1:Int)) != 0) (leaf (RV.x (.int .i64 (if qL c T U O=true then (0:Int) else (1:Int))))) (branch (decide ((n:Int)>12)) (leaf (RV.x (.int .i64 (3:Int)))) (need [UJ 4 n λk=>[i (a k),i (b k),i (u k),i (v k)],n<=100000,(1:Int)<=c/\c<=10] (branch (!NJ c n a b u v) (leaf (RV.x (.int .i64 (2:Int)))) (leaf (RV.x (JX))))))) VY ?_
 simp only [VR.sat,UF,GA,UI,UL,flt];by_cases ht:qL c T U O=true
 ·have hb:=BU ht;by_cases I:12<n
  ·simp [ht,I];omega
  ·cases ha:NJ c n a b u v<;>simp [ht,I,ha,isRec4 n a b u v]<;>omega
 ·simp [ht]
theorem Ww0:VU VT 208 Qj5:=by
 refine ⟨(UM Tryz.func208),?_⟩;intro avs ns Z h I;unfold Qj5 at h;split at h
 ·cases h;have hr:UJ 4 _ _:=I _ (GK);exact (Ww1 _ _ _ _ _ (col 0 _) (col 1 _) (col 2 _) (col 3 _)).same (.cons (.refl _) (.cons (.lst 4 _ _ _ hr) .nil))
 ·cases h
theorem pL(f:Nat->Int)(k:Nat)(VW:k<=10)(UK: -1000000000000<=f (k*11+4)/\f (k*11+4)<=1000000000000):U2 VT 232 [.roI [] 125 f 0,i k] (i (-(f (k*11+4)))):=by
 refine H3 Tryz.func232 (t:=need [UO k 11] (need [UO 0 11] (need [0+(k*11+4)<125] (need [VQ (-f (0+(k*11+4)))] (leaf (RV.x (.int .i64 (-f (0+(k*11+4)))))))))) VY ?_;simp only [VR.sat,UF,GA,GR,UI,UL,DR];rw [show 0+(k*11+4)=k*11+4 by omega]
 simp only [VQ];simp;omega
def mQ:G0
 |[.roI [] 125 f 0,.x (.int .i64 k)]=>some ([0<=k/\k<=10,-1000000000000<=f (k.toNat*11+4)/\f (k.toNat*11+4)<=1000000000000],i (-(f (k.toNat*11+4))))
 |_=>none
theorem pK:VU VT 232 mQ:=by
 refine ⟨(UM Tryz.func232),?_⟩;intro avs ns Z h I;unfold mQ at h;split at h
 ·rename_i f k;cases h;have hk:0<=k/\k<=10:=I _ VZ;have e:((k.toNat:Nat):Int)=k:=VO;have h0:=pL f k.toNat VO (I _ VZ);rw [e] at h0;exact h0
 ·cases h
theorem aM(f:Nat->Int)(k:Nat)(VW:k<=10)(UK: -1000000000000<=f (k*11+4)/\f (k*11+4)<=1000000000000):U2 VT 233 [.roI [] 125 f 0,i k] (i (f (k+4))):=by
 refine H3 Tryz.func233 (t:=need [UO 0 11] (need [UO k 11] (need [k*1+4<125] (leaf (RV.x (.int .i64 (f (k*1+4)))))))) VY ?_;simp only [VR.sat,UF,GA,GR,UI,UL,DR];rw [show k*1+4=k+4 by omega]
 simp only [VQ];simp;omega
def MH:G0
 |[.roI [] 125 f 0,.x (.int .i64 k)]=>some ([0<=k/\k<=10,-1000000000000<=f (k.toNat*11+4)/\f (k.toNat*11+4)<=1000000000000],i (f (k.toNat+4)))
 |_=>none
theorem aL:VU VT 233 MH:=by
 refine ⟨(UM Tryz.func233),?_⟩;intro avs ns Z h I;unfold MH at h;split at h
 ·rename_i f k;cases h;have hk:0<=k/\k<=10:=I _ VZ;have e:((k.toNat:Nat):Int)=k:=VO;have h0:=aM f k.toNat VO (I _ VZ);rw [e] at h0;exact h0
 ·cases h
def mP:G0
 |[]=>some ([],.agg [.fn (.func 232) [] []])
 |_=>none
theorem Qq2:U2 VT 210 [] (.agg [.fn (.func 232) [] []]):=by
 refine H3 Tryz.func210 (t:=leaf (RV.agg [RV.fn (Fn.func 232)])) VY ?_;exact V5
theorem Qq1:VU VT 210 mP:=by
 refine ⟨(UM Tryz.func210),?_⟩;intro avs ns Z h I;unfold mP at h;split at h
 ·cases h;exact Qq2
 ·cases h
def SO:G0
 |[]=>some ([],.agg [.fn (.func 233) [] []])
 |_=>none
theorem sC:U2 VT 211 [] (.agg [.fn (.func 233) [] []]):=by
 refine H3 Tryz.func211 (t:=leaf (RV.agg [RV.fn (Fn.func 233)])) VY ?_;exact V5
theorem sB:VU VT 211 SO:=by
 refine ⟨(UM Tryz.func211),?_⟩;intro avs ns Z h I;unfold SO at h;split at h
 ·cases h;exact sC
 ·cases h
theorem Qv2(f:Nat->Int)(k:Nat)(VW:k<=10)(UK: -1000000000000<=f (k*11+4)/\f (k*11+4)<=1000000000000):U2 VT 175 [.roI [] 125 f 0,i k] (.agg [i (-(f (k*11+4))),i (f (k+4))]):=by
 refine U6 (L:=[]) (Ae pK (Ae aL (Ae Qq1 (Ae sB Aa)))) U3 Tryz.func175 (UY Tryz.f175) U8 (t:=need [(0:Int)<=(k:Int)/\(k:Int)<=10,(-1000000000000:Int)<=f (k*11+4)/\f (k*11+4)<=1000000000000] (need [(0:Int)<=(k:Int)/\(k:Int)<=10,(-1000000000000:Int)<=f (k*11+4)/\f (k*11+4)<=1000000000000] (leaf (RV.agg [RV.x (.int .i64 (-f (k*11+4))),RV.x (.int .i64 (f (k+4)))])))) VY ?_;exact V5
def mV:G0
 |[.roI [] 125 f 0,.x (.int .i64 k)]=>some ([0<=k/\k<=10,-1000000000000<=f (k.toNat*11+4)/\f (k.toNat*11+4)<=1000000000000],.agg [i (-(f (k.toNat*11+4))),i (f (k.toNat+4))])
 |_=>none
theorem zH:VU VT 175 mV:=by
 refine ⟨(UM Tryz.func175),?_⟩;intro avs ns Z h I;unfold mV at h;split at h
 ·rename_i f k;cases h;have hk:0<=k/\k<=10:=I _ VZ;have e:((k.toNat:Nat):Int)=k:=VO;have h0:=Qv2 f k.toNat VO (I _ VZ);rw [e] at h0;exact h0
 ·cases h
def dbF(f:Nat->Int):Nat->Int
 | 0=>0
 |k+1=>max (dbF f k) (f (k+4)- -(f (k*11+4)))
theorem sP{f:Nat->Int}{c:Nat}(h: ∀k,k<=c->(-1000000000000<=f (k*11+4)/\f (k*11+4)<=1000000000000)/\(-1000000000000<=f (k+4)/\f (k+4)<=1000000000000)): ∀k,k<=c+1->0<=dbF f k/\dbF f k<=2000000000000
 | 0,_=>by simp [dbF]
 |k+1,hk=>by
  have:=sP h k VO;have:=h k VO;simp only [dbF];omega
abbrev KJ(f:Nat->Int):AV:=roI [] 125 (λa=>f a) 0
def Zu8(c:Nat)(f:Nat->Int):St:={σ:=[KJ f]++HO 9 [iI (f 0+1)]++HO 16 [],m:=[],nx:=8}
noncomputable def Ju2:Code:=UE (VX (UB Tryz.f218) 0)
section
variable (c:Nat)(f:Nat->Int)
def Wn5(k:Nat):St:=(upM [(2,i (dbF f k)),(11,i k)] (Zu8 c f))
def EH(k:Nat):GB->Option St
 | .exit 0=>some (upM [(2,i (dbF f (c+1))),(11,i ((c+1:Nat):Int))] (Zu8 c f))
 |_=>none
def Jq1:CT:= .leaf (.exit 0,(EH c f 0 (.exit 0)).getD (Zu8 c f))
def Zb5:UN:=(HM (Wn5 c f (0)) (Jq1 c f))
theorem Jk9(VW:c<=10)(UK:f 0=c)(HY: ∀k,k<=c->(-1000000000000<=f (k*11+4)/\f (k*11+4)<=1000000000000)/\(-1000000000000<=f (k+4)/\f (k+4)<=1000000000000)):GC VT (.loop Ju2) (Zb5 c f):=by
 refine HL (L:=[]) (Ae zH (Ae rR Aa)) U3 U8 (X:=Nat) (Wn5 c f) (λk=>k<=c+1) (λk=>c+1-k) (EH c f) (x0:=0) VZ ?_ ?_ ?_
 ·rintro k;kernel_rfl
 ·rintro k y E h;unfold EH at h;split at h
  ·cases h;kernel_rfl
  ·cases h
 ·rintro Q hQ k hx;refine ⟨(k+1),?_⟩;(with_reducible refine DN (t:=branch (decide ((k:Int)<f 0+1)) (need [(0:Int)<=(k:Int)/\(k:Int)<=10,(-1000000000000:Int)<=f (k*11+4)/\f (k*11+4)<=1000000000000] (need [VQ (f (k+4)- -f (k*11+4))] (need [VQ ((k:Int)+1)] (need [KJ f=KJ f,max (dbF f k) (f (k+4)- -f (k*11+4))=dbF f (k+1),U4 (f 0+1),(k:Int)+1=(↑(k+1):Int)] (leaf GB.normal))))) (need [KJ f=KJ f,dbF f k=dbF f (c+1),U4 (f 0+1),(k:Int)=(↑(c+1):Int)] (leaf (GB.exit 0)))) VY ?_);simp only [Jq1,EH,VR.sat,GZ] at hQ;simp only [VR.sat,UF,UL,HD,VQ,EH,DR];refine ⟨λh=>?_,λh=>?_⟩
  ·have h1:=HY k VO;have h2:=sP HY k VO;refine ⟨⟨VO,h1.1⟩,VO,VO,⟨rfl,VO⟩,VO,VO⟩
  ·obtain rfl:k=c+1:=VO;exact ⟨⟨rfl,rfl⟩,λE hE=>by cases hE;exact hQ⟩
theorem Wv6(VW:c<=10)(UK:f 0=c)(HY: ∀k,k<=c->(-1000000000000<=f (k*11+4)/\f (k*11+4)<=1000000000000)/\(-1000000000000<=f (k+4)/\f (k+4)<=1000000000000)):U2 VT 218 [.roI [] 125 f 0] (i (dbF f (c+1))):=by
 refine U6 (L:=[Zb5 c f]) (Ae zH (Ae rR Aa)) U3 Tryz.func218 (UY Tryz.f218) (G4 (lpE (b:= .loop Ju2) VY<|Jk9 c f VW UK HY)) (t:=need [0<125] (need [VQ (f 0+1)] (need [KJ f=KJ f,(0:Int)=dbF f 0,U4 (f 0+1),(0:Int)=(↑(0:Nat):Int)] (leaf (RV.x (.int .i64 (dbF f (c+1)))))))) VY ?_
 simp only [VR.sat,UF,GA,GR,UI,UL,DR];simp only [VQ];have h2:=sP HY (c+1) VO;all_goals exact VB
end
def Qj4:G0
 |[.roI [] 125 f 0]=>some ([0<=f 0/\f 0<=10,∀k,k<=(f 0).toNat->(-1000000000000<=f (k*11+4)/\f (k*11+4)<=1000000000000)/\(-1000000000000<=f (k+4)/\f (k+4)<=1000000000000)],i (dbF f ((f 0).toNat+1)))
 |_=>none
theorem Wv5:VU VT 218 Qj4:=by
 refine ⟨(UM Tryz.func218),?_⟩;intro avs ns Z h I;unfold Qj4 at h;split at h
 ·rename_i f;cases h;have hk:0<=f 0/\f 0<=10:=I _ VZ;exact Wv6 (f 0).toNat f VO VO (I _ VZ)
 ·cases h
section
variable (c T U O:Int)(n:Nat)(a b u v:Nat->Int)
abbrev e9:AV:=Qb6 c.toNat T U O n a b u v
def okB:Bool:=okR c.toNat T U O n a b u v
def qX(r:Bool):Int:=if flt c T U O n a b u v=0 then (if r then (if okB c T U O n a b u v then 0 else 9) else 2) else flt c T U O n a b u v
end
section
variable {c T U O:Int}{n:Nat}{a b u v:Nat->Int}
theorem yP:flt c T U O n a b u v=0↔qL c T U O=true/\n<=12/\DF (λk=>rdB c (a k) (b k) (u k) (v k)) n=true:=by
 unfold flt NJ;split
 ·rename_i h1;split
  ·rename_i h2;constructor
   ·intro h;cases h
   ·intro h;omega
  ·rename_i h2;split
   ·rename_i h3;exact ⟨λ_=>⟨h1,VO,h3⟩,λ_=>rfl⟩
   ·rename_i h3;constructor
    ·intro h;cases h
    ·intro h;exact absurd h.2.2 h3
 ·rename_i h1;constructor
  ·intro h;cases h
  ·intro h;exact absurd h.1 h1
theorem d8{r:Bool}:qX c T U O n a b u v r=0↔flt c T U O n a b u v=0/\r=true/\okB c T U O n a b u v=true:=by
 unfold qX;split
 ·rename_i h1;split
  ·rename_i h2;split
   ·rename_i h3;simp [h1,h2,h3]
   ·rename_i h3;simp [h1,h2,h3]
  ·rename_i h2;simp [h1,h2]
 ·rename_i h1;simp [h1]
end
theorem cO(c T U O:Int)(n:Nat)(a b u v:Nat->Int)(r:Bool):US VT 174 [.agg [i c,i T,i U,i O],rds n a b u v,bl r] (.branch (decide (qX c T U O n a b u v r=0)) (.leaf (.tup [e9 c T U O n a b u v,i 0])) (.leaf (.tup [nilP,i (qX c T U O n a b u v r)]))):=by
 refine GX (L:=[]) (Ae Ww0 Aa) (Aj Ab Ac (Ah xQ (UG.nil _))) U3 Tryz.func174 (UY Tryz.f174) G9 (t:=need [UJ 4 n λk=>[i (a k),i (b k),i (u k),i (v k)]] (branch (flt c T U O n a b u v != 0) (leaf (tup [QV,iI (flt c T U O n a b u v)])) (branch (!r) (leaf (tup [QV,iI 2])) (need [UJ 4 n λk=>[i (a k),i (b k),i (u k),i (v k)],(1:Int)<=c/\c<=10,(1:Int)<=U/\U<=O/\O<=200/\(1:Int)<=T/\T<=2000,n<=1000,DF (λk=>rdB c (a k) (b k) (u k) (v k)) n=true] (branch (okR (Int.toNat c) T U O n a b u v) (leaf (tup [roI [] 125 (λk=>UH (↑(Int.toNat c):Int) T U O (fwM (Int.toNat c) T U O n a b u v) k) 0,iI 0])) (leaf (tup [QV,iI 9]))))))) VY ?_
 intro Q hQ;have e:c.toNat=c\/c<0:=VO;simp only [VR.sat,UF,UL,RG,HD,Ax] at hQ ⊢;refine ⟨isRec4 n a b u v,λh1=>?_,λh1=>?_⟩
 ·refine ⟨.tup [nilP,i (flt c T U O n a b u v)],⟨rfl,⟨rfl,rfl⟩,Ak⟩,?_⟩;have h2:qX c T U O n a b u v r=flt c T U O n a b u v:=by unfold qX;rw [if_neg h1]
  rw [h2] at hQ;exact hQ.2 h1
 ·have hf:=yP.1 h1;have hb:=BU hf.1;refine ⟨λh2=>?_,λh2=>⟨⟨isRec4 n a b u v,hb.1,hb.2.1,by have:=hf.2.1;omega,hf.2.2⟩,λh3=>?_,λh3=>?_⟩⟩
  ·subst h2;have h4:qX c T U O n a b u v false=2:=by unfold qX;rw [if_pos h1];rfl
   rw [h4] at hQ;exact ⟨.tup [nilP,i 2],⟨rfl,⟨rfl,rfl⟩,Ak⟩,hQ.2 VO⟩
  ·have h2:r=true:=by simpa using h2
   subst h2;have h4:qX c T U O n a b u v true=0:=d8.2 ⟨h1,rfl,h3⟩;exact ⟨.tup [e9 c T U O n a b u v,i 0],⟨⟨rfl,rfl,λ_ _=>rfl,rfl⟩,⟨rfl,rfl⟩,Ak⟩,hQ.1 h4⟩
  ·have h2:r=true:=by simpa using h2
   subst h2;have h4:qX c T U O n a b u v true=9:=by unfold qX okB;rw [if_pos h1,h3];rfl
   rw [h4] at hQ;exact ⟨.tup [nilP,i 9],⟨rfl,⟨rfl,rfl⟩,Ak⟩,hQ.2 VO⟩
def c8:DM:=λl=>match l with
 |[.agg [.x (.int .i64 c),.x (.int .i64 T),.x (.int .i64 U),.x (.int .i64 O)],.lst 4 n f,.x (.bool r)]=>some (.need [UJ 4 n f] (.branch (decide (qX c T U O n (col 0 f) (col 1 f) (col 2 f) (col 3 f) r=0)) (.leaf (.tup [e9 c T U O n (col 0 f) (col 1 f) (col 2 f) (col 3 f),i 0])) (.leaf (.tup [nilP,i (qX c T U O n (col 0 f) (col 1 f) (col 2 f) (col 3 f) r)]))))
 |[.agg [.x (.int .i64 c),.x (.int .i64 T),.x (.int .i64 U),.x (.int .i64 O)],.lst 4 n f,.lit r]=>some (.need [UJ 4 n f] (.branch (decide (qX c T U O n (col 0 f) (col 1 f) (col 2 f) (col 3 f) r=0)) (.leaf (.tup [e9 c T U O n (col 0 f) (col 1 f) (col 2 f) (col 3 f),i 0])) (.leaf (.tup [nilP,i (qX c T U O n (col 0 f) (col 1 f) (col 2 f) (col 3 f) r)]))))
 |_=>none
theorem U7.lits{e:UP}{w:World}{r:Bool}: ∀{l:List AV} {vs:List Value},U7 e w (l++[.lit r]) vs->U7 e w (l++[.x (.bool r)]) vs
 |[],vs,h=>by
  obtain ⟨v,vs',rfl,hv,hvs⟩:=h.cons_inv;cases hv;exact U7.cons (.x _) hvs
 |a::l,vs,h=>by
  obtain ⟨v,vs',rfl,hv,hvs⟩:=h.cons_inv;exact U7.cons hv (U7.lits hvs)
theorem US.lits{P:Program}{f:FuncId}{l:List AV}{r:Bool}{t:VR AV}(h:US P f (l++[.x (.bool r)]) t):US P f (l++[.lit r]) t:=λQ hQ e w args hro hgl FS hr=>h Q hQ e w args hro hgl (λa ha=>by
 rcases List.mem_append.1 ha with h1|h1
 ·exact FS a (Bd _ h1)
 ·cases B9.1 h1;exact .x _) (U7.lits hr)
theorem dN:Enters VT 174/\ ∀avs t,c8 avs=some t->US VT 174 avs t:=by
 refine ⟨(UM Tryz.func174),?_⟩;intro avs t h;unfold c8 at h;split at h
 ·rename_i c T U O n f r;cases h;intro Q hQ;have hr:UJ 4 n f:=GH hQ.1 _ VZ;exact US.same (cO c T U O n (col 0 f) (col 1 f) (col 2 f) (col 3 f) r) (.cons (.refl _) (.cons (.lst 4 n _ _ hr) (.cons (.refl _) .nil))) Q hQ.2
 ·rename_i c T U O n f r;cases h;intro Q hQ;have hr:UJ 4 n f:=GH hQ.1 _ VZ;exact US.lits (l:=[.agg [.x (.int .i64 c),.x (.int .i64 T),.x (.int .i64 U),.x (.int .i64 O)],.lst 4 n f]) (US.same (cO c T U O n (col 0 f) (col 1 f) (col 2 f) (col 3 f) r) (.cons (.refl _) (.cons (.lst 4 n _ _ hr) (.cons (.refl _) .nil)))) Q hQ.2
 ·cases h
section
variable (c T U O:Int)(n:Nat)(a b u v:Nat->Int)
def eB:Int:=qX c T U O n a b u v true
def fwB:Nat->Nat->Int:=fwM c.toNat T U O n a b u v
def sfB:Nat->Int:=UH (c.toNat:Nat) T U O (fwB c T U O n a b u v)
def dtB:Int:=if eB c T U O n a b u v=0 then dbF (sfB c T U O n a b u v) (c.toNat+1) else 0
def A9:Nat:=if eB c T U O n a b u v=0 then c.toNat+1 else 0
end
theorem Xv1{c a b u v:Int}(h:rdB c a b u v=true):(0<=a/\a<=c-1)/\(a<=b/\b<=c)/\0<=u/\u<=v/\v<=2000:=by
 simp only [rdB,HE,bt_iff,insB_iff] at h;omega
theorem aT{c T U O:Int}{n:Nat}{a b u v:Nat->Int}(h:flt c T U O n a b u v=0)(x y:Nat): -1000000000000<=fwB c T U O n a b u v x y/\fwB c T U O n a b u v x y<=2000:=by
 have hf:=yP.1 h;have hb:=BU hf.1;have hl:=oQ (c:=c.toNat) (a:=a) (b:=b) hb.2.1 (λj hj=>(Xv1 (GY.1 hf.2.2 j hj)).2.2) n (Am n)
 have h1:=Zs0 (c:=c.toNat) hl (c.toNat+1) x y;have h2:=Je2 c.toNat VO;rw [Int.pow_succ] at h1;unfold fwB fwM;omega
section
variable (c T U O:Int)(n:Nat)(a b u v:Nat->Int)
theorem Xu9:sfB c T U O n a b u v 0=c.toNat:=rfl
theorem TE(k:Nat):sfB c T U O n a b u v (k*11+4)=fwB c T U O n a b u v k 0:=qN _ _ _ _ _ VO VO
theorem eA{k:Nat}(hk:k<=10):sfB c T U O n a b u v (k+4)=fwB c T U O n a b u v 0 k:=qN _ _ _ _ _ VO VO
abbrev YK:Ext:={R:=[],H:=[],C:=[(174,c8)] }
theorem Xf0:U2 VT 182 [.agg [i c,i T,i U,i O],rds n a b u v] (.tup [i (dtB c T U O n a b u v),i (eB c T U O n a b u v)]):=by
 refine GF (L:=[]) (Ae Wv5 Aa) (Aj Ab Ac (Ah dN (UG.nil _))) U3 Tryz.func182 (UY Tryz.f182) G9 (t:=let A:=(fwM (Int.toNat c) T U O n a b u v);let W:=qX c T U O n a b u v true;(need [UJ 4 n λk=>[i (a k),i (b k),i (u k),i (v k)]] (branch (decide (W=0)) (branch ((0:Int) != 0) (leaf (RV.tup [RV.x (JX),RV.x (JX)])) (need [(0:Int)<=UH (↑(Int.toNat c):Int) T U O A 0/\UH (↑(Int.toNat c):Int) T U O A 0<=10,∀(k:Nat),k<=(UH (↑(Int.toNat c):Int) T U O A 0).toNat->((-1000000000000:Int)<=UH (↑(Int.toNat c):Int) T U O A (k*11+4)/\UH (↑(Int.toNat c):Int) T U O A (k*11+4)<=1000000000000)/\(-1000000000000:Int)<=UH (↑(Int.toNat c):Int) T U O A (k+4)/\UH (↑(Int.toNat c):Int) T U O A (k+4)<=1000000000000] (leaf (RV.tup [RV.x (.int .i64 (dbF (UH (↑(Int.toNat c):Int) T U O A) ((UH (↑(Int.toNat c):Int) T U O A 0).toNat+1))),RV.x (JX)])))) (branch (W != 0) (leaf (RV.tup [RV.x (JX),RV.x (.int .i64 (W))])) VR.fail)))) VY ?_
 have eq: ∀k,UH (c.toNat:Nat) T U O (fwM c.toNat T U O n a b u v) k=sfB c T U O n a b u v k:=λ_=>rfl
 simp only [VR.sat,UF,UL,RG,HD,Ax,not_true_eq_false,false_imp_iff,eq,GA];refine ⟨isRec4 n a b u v,λh1 _=>?_,λh1=>⟨λ_=>?_,λh2=>h1 h2⟩⟩
 ·have hf:=(d8.1 h1).1;have hc:=(BU (yP.1 hf).1).1;have e0:(sfB c T U O n a b u v 0).toNat=c.toNat:=by rw [Xu9];omega
  refine ⟨⟨by rw [Xu9];omega,λk hk=>?_⟩,?_⟩
  ·rw [e0] at hk;rw [TE,eA _ _ _ _ _ _ _ _ _ VO];have h2:=aT hf k 0;have h3:=aT hf 0 k;omega
  ·rw [e0];unfold dtB eB;rw [if_pos h1,h1];exact ⟨⟨rfl,rfl⟩,⟨rfl,rfl⟩,Ak⟩
 ·unfold dtB eB;rw [if_neg h1];exact ⟨⟨rfl,rfl⟩,⟨rfl,rfl⟩,Ak⟩
end
section
variable {sz k:Nat}{l:List AV}{x:AV}
theorem Qu7(h:x∈UA sz l k):x∈l:=List.mem_of_mem_drop (List.mem_of_mem_take h)
theorem FU(hm:x∈UA sz l k)(h: ∀y∈l,AV.one y=true):AV.one x=true:=h x (Qu7 hm)
end
theorem Jl8{k j:Nat}{a b:Nat->Int}{x y:Int}(h:j<k+1)(hx:x=a k)(hy:y=b k):GM k (λk=>[i (a k),i (b k)]) (UA 2 [i x,i y]) j=[i (a j),i (b j)]:=by
 have e:j-k=0:=VO;show HG (decide (j<k)) [i (a j),i (b j)] (UA 2 [i x,i y] (j-k))=_;rw [e];by_cases hj:j<k
 ·rw [show decide (j<k)=true by simp [hj]]
  rfl
 ·have hk:j=k:=VO;rw [show decide (j<k)=false by simp [hj],hk,hx,hy]
  rfl
section
variable (c T U O:Int)(n:Nat)(a b u v:Nat->Int)
def Zt7:St:={σ:=[.agg [i c,i T,i U,i O],rds n a b u v,.ptr 0 0,.top,.x (.slice none 0 0),i 0,e9 c T U O n a b u v,i 0,.top,.top,.top,.top,.top,.top,.top,.top,.top,.top,.top,.top,.top,i (c+1),.top,.top,.top,.top,.top,.top,.top,.top,.top,.top,.top],m:=[(900,.row 70 2 0 (λ_=>[])),(0,.cells 122 [i c,i T,i U,i O])],nx:=901}
noncomputable def Jt2:Code:=UE (VX (UB Tryz.f134) 0)
def Wm3(k:Nat):St:=(upE [(8,.row 900),(22,i k)] [(900,.row 70 2 (k) (λk=>[i (-(fwB c T U O n a b u v k 0)),i (fwB c T U O n a b u v 0 k)])),(0,.cells 122 [i c,i T,i U,i O])] (Zt7 c T U O n a b u v))
def E5(k:Nat):GB->Option St
 | .exit 0=>some (upE [(8,.row 900)] [(900,.row 70 2 (c.toNat+1) (λk=>[i (-(fwB c T U O n a b u v k 0)),i (fwB c T U O n a b u v 0 k)])),(0,.cells 122 [i c,i T,i U,i O])] (Zt7 c T U O n a b u v))
 |_=>none
def Jo9:CT:= .leaf (.exit 0,(E5 c T U O n a b u v 0 (.exit 0)).getD (Zt7 c T U O n a b u v))
def Za2:UN:=GO [(.slot 8,900,70,2)] (HM (Wm3 c T U O n a b u v (0)) (Jo9 c T U O n a b u v))
abbrev KH:AV:=AV.x (.slice none 0 0)
abbrev Y7:Prop:=(0:Int)=0
theorem Jh4(VW:flt c T U O n a b u v=0):GC VT (.loop Jt2) (Za2 c T U O n a b u v):=by
 refine j7 [(.slot 8,900,70,2)] (L:=[]) (Ae zH Aa) U3 U8 (X:=Nat) (Wm3 c T U O n a b u v) (λk=>k<=c.toNat+1) (λk=>c.toNat+1-k) (E5 c T U O n a b u v) (x0:=0) VZ ?_ ?_ ?_
 ·rintro k;kernel_rfl
 ·rintro k y E h;unfold E5 at h;split at h
  ·cases h;kernel_rfl
  ·cases h
 ·rintro Q hQ k hx;refine ⟨(k+1),?_⟩;(with_reducible refine DN (t:=let A:=(fwM (Int.toNat c) T U O n a b u v);let W:=fwB c T U O n a b u v;let z2:=(U4 (roI [] 125 (λk=>UH (↑(Int.toNat c):Int) T U O A k) 0));let z3:=(UH (↑(Int.toNat c):Int) T U O A (k+4));(branch (decide ((k:Int)<c+1)) (need [(0:Int)<=(k:Int)/\(k:Int)<=10,(-1000000000000:Int)<=UH (↑(Int.toNat c):Int) T U O A (k*11+4)/\UH (↑(Int.toNat c):Int) T U O A (k*11+4)<=1000000000000] (need [(k+1)*16<=140737488355328,L1 1 (UA 2 [iI (-UH (↑(Int.toNat c):Int) T U O A (k*11+4)),iI z3])] (need [VQ ((k:Int)+1)] (need [U4 (agg [iI c,iI T,iI U,iI O]),Q4 n a b u v,XK,KH=KH,Y7,z2,Y7,U4 (AV.row 900),U4 (c+1),(k:Int)+1=(↑(k+1):Int),k+1=k+1,H2 (k+1) (GM k (λk=>[Bo.i (-W k 0),Bo.i (W 0 k)]) (UA 2 [iI (-UH (↑(Int.toNat c):Int) T U O A (k*11+4)),iI z3])) (λi=>[Bo.i (-W i 0),Bo.i (W 0 i)]),c=c,T=T,U=U,O=O] (leaf GB.normal))))) (need [U4 (agg [iI c,iI T,iI U,iI O]),Q4 n a b u v,XK,KH=KH,Y7,z2,Y7,U4 (AV.row 900),U4 (c+1),k=Int.toNat c+1,∀(i:Nat),i<Int.toNat c+1->[Bo.i (-W i 0),Bo.i (W 0 i)]=[Bo.i (-W i 0),Bo.i (W 0 i)],c=c,T=T,U=U,O=O] (leaf (GB.exit 0))))) VY ?_)
  simp only [Jo9,E5,VR.sat,GZ] at hQ;have hc:=(BU (yP.1 VW).1).1;have e0:((c.toNat:Nat):Int)=c:=VO;have eq: ∀k,UH c.toNat T U O (fwM c.toNat T U O n a b u v) k=sfB c T U O n a b u v k:=λ_=>rfl
  simp only [VR.sat,UF,GA,GR,UI,VQ,UL,HD,RF,E5,eq]
  refine ⟨λh=>?_,λh=>?_⟩
  ·have h2:=aT VW k 0;have h3:=aT VW 0 k;refine ⟨⟨VO,by rw [TE];omega⟩,⟨VO,λi O a ha=>FU ha (by simp [AV.one,Value.oneCell'])⟩,VO,⟨VO,λi O=>Jl8 O (by rw [TE]) (by rw [eA _ _ _ _ _ _ _ _ _ VO])⟩,VO,VO⟩
  ·obtain rfl:k=c.toNat+1:=VO;exact ⟨⟨rfl,λ_ _=>Ak⟩,λE hE=>by cases hE;exact hQ⟩
theorem nO(VW:qX c T U O n a b u v true=0)(UK:flt c T U O n a b u v=0):U2 VT 134 [.agg [i c,i T,i U,i O],rds n a b u v] (.tup [.lst 2 (A9 c T U O n a b u v) (λk=>[i (-(fwB c T U O n a b u v k 0)),i (fwB c T U O n a b u v 0 k)]),i (eB c T U O n a b u v)]):=by
 refine uV (L:=[Za2 c T U O n a b u v]) (Gd.go true (Gd.go false Gd.rest)) (Ae zH Aa) (Aj Ab Ac (Ah dN (UG.nil _))) U3 Tryz.func134 (UY Tryz.f134) (G4 (lpE (b:= .loop Jt2) VY<|(Jh4 c T U O n a b u v UK).N)) (t:=let A:=fwB c T U O n a b u v;(need [UJ 4 n λk=>[i (a k),i (b k),i (u k),i (v k)]] (need [decide (qX c T U O n a b u v true=0)=true] (need [((0:Int) != 0)=false] (need [VQ (c+1)] (need [U4 (agg [iI c,iI T,iI U,iI O]),Q4 n a b u v,XK,KH=KH,Y7,U4 (roI [] 125 (λk=>UH (↑(Int.toNat c):Int) T U O (fwM (Int.toNat c) T U O n a b u v) k) 0),Y7,U4 (AV.row 900),U4 (c+1),(0:Int)=(↑(0:Nat):Int),0=0,∀(i:Nat),i<0->[]=[Bo.i (-A i 0),Bo.i (A 0 i)],c=c,T=T,U=U,O=O] (leaf (RV.tup [RV.lst 2 (Int.toNat c+1) λk=>[iI (-A k 0),iI (A 0 k)],RV.x (JX)])))))))) VY ?_
 have hc:=(BU (yP.1 UK).1).1;have hl:A9 c T U O n a b u v=c.toNat+1:=if_pos VW;have he:eB c T U O n a b u v=0:=VW;rw [hl,he];simp only [VR.sat,UF,GA,GR,UI,VQ,UL]
 (with_reducible repeat' first|apply Al|intro _)
 all_goals first|exact Ak|with_reducible rfl|omega|exact isRec4 _ _ _ _ _|(simp [*];done)|(rename_i hm;simp only [GS,DS,or_false] at hm;rcases hm with rfl|rfl<;>exact Ak)
theorem nP(VW:qX c T U O n a b u v true≠0):U2 VT 134 [.agg [i c,i T,i U,i O],rds n a b u v] (.tup [.lst 2 (A9 c T U O n a b u v) (λk=>[i (-(fwB c T U O n a b u v k 0)),i (fwB c T U O n a b u v 0 k)]),i (eB c T U O n a b u v)]):=by
 refine uV (L:=[]) (Gd.go false (Gd.go true Gd.rest)) (Ae zH Aa) (Aj Ab Ac (Ah dN (UG.nil _))) U3 Tryz.func134 (UY Tryz.f134) G9 (t:=let A:=qX c T U O n a b u v true;(need [UJ 4 n λk=>[i (a k),i (b k),i (u k),i (v k)]] (need [decide (A=0)=false] (need [(A != 0)=true] (leaf (RV.tup [RV.x (.slice none 0 0),RV.x (.int .i64 (A))])))))) VY ?_
 have hl:A9 c T U O n a b u v=0:=if_neg VW;have he:eB c T U O n a b u v=qX c T U O n a b u v true:=rfl;rw [hl,he];simp only [VR.sat,UF,GA,GR,UI,VQ,UL]
 (with_reducible repeat' first|apply Al|intro _)
 all_goals first|exact Ak|with_reducible rfl|omega|exact isRec4 _ _ _ _ _|(simp [*];done)
end
def S_Heights:G0
 |[.agg [.x (.int .i64 c),.x (.int .i64 T),.x (.int .i64 U),.x (.int .i64 O)],.lst 4 n f]=>some ([UJ 4 n f],.tup [.lst 2 (A9 c T U O n (col 0 f) (col 1 f) (col 2 f) (col 3 f)) (λk=>[i (-(fwB c T U O n (col 0 f) (col 1 f) (col 2 f) (col 3 f) k 0)),i (fwB c T U O n (col 0 f) (col 1 f) (col 2 f) (col 3 f) 0 k)]),i (eB c T U O n (col 0 f) (col 1 f) (col 2 f) (col 3 f))])
 |_=>none
theorem uQ(c T U O:Int)(n:Nat)(a b u v:Nat->Int):U2 VT 134 [.agg [i c,i T,i U,i O],rds n a b u v] (.tup [.lst 2 (A9 c T U O n a b u v) (λk=>[i (-(fwB c T U O n a b u v k 0)),i (fwB c T U O n a b u v 0 k)]),i (eB c T U O n a b u v)]):=by
 by_cases h:qX c T U O n a b u v true=0
 ·exact nO c T U O n a b u v h (d8.1 h).1
 ·exact nP c T U O n a b u v h
theorem Heights_ok:VU VT 134 S_Heights:=by
 refine ⟨(UM Tryz.func134),?_⟩;intro avs ns Z h I;unfold S_Heights at h;split at h
 ·rename_i c T U O n f;cases h;have hr:UJ 4 n f:=I _ (GK);exact (uQ c T U O n (col 0 f) (col 1 f) (col 2 f) (col 3 f)).same (.cons (.refl _) (.cons (.lst 4 n _ _ hr) .nil))
 ·cases h
end Go.Proofs.YtlclobclmfhlmaaGreatDoor.Bo
