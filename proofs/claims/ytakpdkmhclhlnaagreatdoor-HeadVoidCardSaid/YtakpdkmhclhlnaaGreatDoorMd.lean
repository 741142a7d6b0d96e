/- Contracts, put together. Conditions: those of each. -/
import Derived.Test.YtakpdkmhclhlnaaGreatDoorMc
import Derived.Test.YtakpdkmhclhlnaaGreatDoorRows
set_option linter.unusedSimpArgs false
set_option linter.unusedVariables false
set_option maxRecDepth 100000
namespace Go.Proofs.YtakpdkmhclhlnaaGreatDoor
noncomputable abbrev VO:Go.Program:=Tryz.prog
abbrev Ad:=Go.Sx.VW.of (Go.Sx.VQ.nil VO) (Go.Sx.VN.nil VO)
abbrev Aa:=Go.Sx.VK.nil VO
abbrev Ab:=Go.Sx.VQ.nil VO
abbrev Ac:=Go.Sx.VN.nil VO
abbrev Ae:=@Go.Sx.VK.cons
abbrev Af:=@Go.Sx.VQ.cons
abbrev Ag:=@Go.Sx.VN.cons
abbrev Ah:=@Go.Sx.UA.cons
abbrev Ai:=@Go.Sx.VW.of
abbrev Aj:=@Go.Sx.VW.ofC
end Go.Proofs.YtakpdkmhclhlnaaGreatDoor
namespace Go.Proofs.YtakpdkmhclhlnaaGreatDoor.Pt
open Go Go.Sx Go.RowKit
open Go.Sx.VM (need branch leaf)
open Go.Sx.AV (lst ptr agg roI tup top)
theorem VY:Tryz.prog.follows .mixedOrders=true:=VT
abbrev i(n:Int):AV:= .x (.int .i64 n)
abbrev iI(n:Int):AV:= .x (.int .i64 n)
abbrev bl(b:Bool):AV:= .x (.bool b)
def bt(U n O:Int):Bool:=decide (U<=n)&&decide (n<=O)
def insB(U a b O:Int):Bool:=decide (U<=a)&&decide (a<=b)&&decide (b<=O)
theorem insB_iff(U a b O:Int):insB U a b O=true↔U<=a/\a<=b/\b<=O:=by simp [insB,and_assoc]
def scB(a b:Int):Bool:=bt (-1000) a 1000&&bt (-1000) b 1000&&(a != b)
def B7:UW
 |[.x (.int .i64 n),.x (.int .i64 U),.x (.int .i64 O)]=>some ([],bl (bt U n O))
 |_=>none
theorem wM(n U O:Int):VX VO 190 [i n,i U,i O] (bl (bt U n O)):=by
 refine GV Tryz.func190 (t:=branch (decide (U<=n)) (leaf (RV.x (.bool (decide (n<=O))))) (leaf (RV.x (.bool false)))) VT ?_;simp only [VM.sat,UB,G4,GJ,UD,UH];all_goals (simp+contextual [bt,insB,scB,Bool.and_assoc]);all_goals omega
theorem RI:VP VO 190 B7:=by
 refine ⟨(UG Tryz.func190),?_⟩;intro avs ns Z h I;unfold B7 at h;split at h
 ·cases h;exact wM _ _ _
 ·cases h
def B8:UW
 |[.agg [.x (.int .i64 a),.x (.int .i64 b)],.x (.int .i64 U),.x (.int .i64 O)]=>some ([],bl (insB U a b O))
 |_=>none
theorem x7(a b U O:Int):VX VO 153 [.agg [i a,i b],i U,i O] (bl (insB U a b O)):=by
 refine GV Tryz.func153 (t:=branch (decide (U<=a)) (branch (decide (a<=b)) (leaf (RV.x (.bool (decide (b<=O))))) (leaf (RV.x (.bool false)))) (leaf (RV.x (.bool false)))) VT ?_;simp only [VM.sat,UB,G4,GJ,UD,UH];all_goals (simp+contextual [bt,insB,scB,Bool.and_assoc]);all_goals omega
theorem PO:VP VO 153 B8:=by
 refine ⟨(UG Tryz.func153),?_⟩;intro avs ns Z h I;unfold B8 at h;split at h
 ·cases h;exact x7 _ _ _ _
 ·cases h
theorem mul_bd{x y X Y:Int}(hx: -X<=x/\x<=X)(hy: -Y<=y/\y<=Y): -(X*Y)<=x*y/\x*y<=X*Y:=by
 have h1:x.natAbs<=X.natAbs:=VJ;have h2:y.natAbs<=Y.natAbs:=VJ;have h3:(x*y).natAbs<=(X*Y).natAbs:=by rw [Int.natAbs_mul,Int.natAbs_mul];exact Nat.mul_le_mul h1 h2
 have h4:0<=X*Y:=Int.mul_nonneg VJ VJ;omega
abbrev scs(n:Nat)(a b:Nat->Int):AV:= .lst 2 n (λk=>[i (a k),i (b k)])
theorem isRec2(n:Nat)(a b:Nat->Int):UF 2 n (λk=>[i (a k),i (b k)]):=λ_ _=>rfl
def col(j:Nat)(f:Nat->List AV):Nat->Int:=λk=>Wi8 (f k) j
def AI(p q:Nat->Int)(k:Nat):Bool:=bt 1 (p k) 2000&&(bt 1 (q k) 2000&&(decide (k=0)||(decide (p (k-1)<p k)&&decide (q (k-1)<q k))))
section
variable (n:Nat)
def xR(p q:Nat->Int):Bool:=D5 (AI p q) n
abbrev QS(p:Nat->Int)(q:Nat->Int):AV:=lst 2 n λk=>[iI (p k),iI (q k)]
def Wy8(p q:Nat->Int):St:={σ:=[QS n p q]++HH 10 [QS n p q,iI (n:Int)]++HH 42 [],m:=[],nx:=10}
noncomputable def Jo4:Code:=U9 (VS (U7 Tryz.f152) 0)
def Wf4(p q:Nat->Int)(k:Nat):St:=(upM [(13,i k)] (Wy8 n p q))
def v7(p q:Nat->Int)(k:Nat):G7->Option St
 | .exit 0=>some (upM [] (Wy8 n p q))
 | .ret=>some (upM [(2,i 1)] (Wy8 n p q))
 |_=>none
def Jj5(p q:Nat->Int):CT:= .branch (xR n p q) (.leaf (.exit 0,(v7 n p q 0 (.exit 0)).getD (Wy8 n p q))) (.leaf (.ret,(v7 n p q 0 .ret).getD (Wy8 n p q)))
def Xu0(p q:Nat->Int):UI:=(HG (Wf4 n p q (0)) (Jj5 n p q))
abbrev JP(p:Nat->Int)(q:Nat->Int):Prop:=(QS n p q)=QS n p q
theorem Zx1(p q:Nat->Int)(VR:n<=100000):G8 VO (.loop Jo4) (Xu0 n p q):=by
 refine HF (L:=[]) (Ae RI Aa) VY U3 (X:=Nat) (Wf4 n p q) (λk=>k<=n/\ ∀j,j<k->AI p q j=true) (λk=>n-k) (v7 n p q) (x0:=0) ⟨VJ,λj hj=>VJ⟩ ?_ ?_ ?_
 ·rintro k;kernel_rfl
 ·rintro k y E h;unfold v7 at h;split at h
  ·cases h;kernel_rfl
  ·cases h;kernel_rfl
  ·cases h
 ·rintro Q hQ k hx;refine ⟨(k+1),?_⟩;(with_reducible refine DH (t:=let A:=(need [JP n p q,VZ (1:Int),JP n p q,VZ (n:Int)] (leaf G7.ret));let W:=(need [VL ((k:Int)+1)] (need [JP n p q,JP n p q,VZ (n:Int),(k:Int)+1=(↑(k+1):Int)] (leaf G7.normal)));(branch (decide ((k:Int)<(n:Int))) (need [UJ k n] (branch (!bt (1:Int) (p k) (2000:Int)) A (branch (!bt (1:Int) (q k) (2000:Int)) A (branch (decide ((k:Int)>0)) (need [VL ((k:Int)-1)] (need [UJ ((k:Int)-1) n] (branch (decide (p k<=p ((k:Int)-1).toNat)) A (need [VL ((k:Int)-1)] (need [UJ ((k:Int)-1) n] (branch (decide (q k<=q ((k:Int)-1).toNat)) A W)))))) W)))) (need [JP n p q,JP n p q,VZ (n:Int)] (leaf (G7.exit 0))))) VT ?_);simp only [Jj5,v7,VM.sat,GT] at hQ;have Wm6:k<n->AI p q k=false->xR n p q=false:=by
   intro h1 h2;rw [←Bool.not_eq_true];intro h3;have:=GR.1 h3 k h1;rw [h2] at this;cases this
  have uZ:AI p q k=true-> ∀j,j<k+1->AI p q j=true:=by
   intro h1 j hj;rcases (show j<k\/j=k by omega) with h|rfl
   ·exact hx.2 j h
   ·exact h1
  have PI: ¬k<n->xR n p q=true:=λh=>GR.2 (λj hj=>hx.2 j VJ)
  have hQ1: ∀E,v7 n p q k .ret=some E->xR n p q=false->Q (.ret,E):=by
   intro E hE hf;cases hE;exact hQ.2 hf
  have hQ2: ∀E,v7 n p q k (.exit 0)=some E->xR n p q=true->Q (.exit 0,E):=by
   intro E hE hf;cases hE;exact hQ.1 hf
  have t1:((k:Int)-1).toNat=k-1:=VJ;have hsb:AI p q k=(bt 1 (p k) 2000&&(bt 1 (q k) 2000&&(decide (k=0)||(decide (p (k-1)<p k)&&decide (q (k-1)<q k))))):=rfl
  simp only [VM.sat,UB,UH,HA,VL,DZ,t1]
  with_reducible repeat' first|apply Al|intro _
  all_goals first|exact Ak|omega|exact hQ1 _ (by assumption) (Wm6 VJ (by rw [hsb];grind))|exact hQ2 _ (by assumption) (PI VJ)|exact uZ (by rw [hsb];grind) _ (by assumption)
def tbE(p q:Nat->Int):Int:=if 8<n then 3 else if n<2 then 1 else if xR n p q then 0 else 1
end
def Qd6:UW
 |[.lst 2 n f]=>some ([UF 2 n f,n<=100000],i (tbE n (col 0 f) (col 1 f)))
 |_=>none
abbrev K8:Value:=Value.int IntKind.i64 (0:Int)
theorem Qx6(n:Nat)(p q:Nat->Int)(VR:n<=100000):VX VO 152 [scs n p q] (i (tbE n p q)):=by
 refine U1 (L:=[Xu0 n p q]) (Ae RI Aa) VY Tryz.func152 (UT Tryz.f152) (G0 (lpE (b:= .loop Jo4) VT<|Zx1 n p q VR)) (t:=let A:=(leaf (RV.x (.int .i64 (1:Int))));(branch (decide ((n:Int)>8)) (leaf (RV.x (.int .i64 (3:Int)))) (branch (decide ((n:Int)<2)) A (need [JP n p q,JP n p q,VZ (n:Int),(0:Int)=(↑(0:Nat):Int)] (branch (xR n p q) (leaf (RV.x (K8))) A))))) VT ?_
 simp only [VM.sat,UB,G4,UD,UH,HA,tbE,Int.natCast_zero];refine ⟨λh=>?_,λh=>⟨λh2=>?_,λh2=>⟨λh3=>?_,λh3=>?_⟩⟩⟩
 ·simp [show 8<n by omega]
 ·simp [show ¬8<n by omega,show n<2 by omega]
 ·simp [show ¬8<n by omega,show ¬n<2 by omega,h3]
 ·simp [show ¬8<n by omega,show ¬n<2 by omega,h3]
theorem Qx5:VP VO 152 Qd6:=by
 refine ⟨(UG Tryz.func152),?_⟩;intro avs ns Z h I;unfold Qd6 at h;split at h
 ·rename_i n f;cases h;have hr:UF 2 n f:=I _ VV;exact (Qx6 n (col 0 f) (col 1 f) (I _ VV)).same (.cons (.lst 2 n _ _ hr) .nil)
 ·cases h
def RM(n:Nat)(p:Nat->Int)(x:Int):Nat:=GW (λk=>decide (x<=p (k+1))) (n-1)
def dS(p q:Nat->Int)(x:Int)(k:Nat):Int:=q k+((q (k+1)-q k)*(x-p k)).tdiv (p (k+1)-p k)
def boilI(n:Nat)(p q:Nat->Int)(x:Int):Int:=dS p q x (RM n p x)
theorem LO{n:Nat}{p q:Nat->Int}(h:xR n p q=true){k:Nat}(hk:k<n):1<=p k/\p k<=2000/\1<=q k/\q k<=2000/\(k=0\/p (k-1)<p k/\q (k-1)<q k):=by
 have:=GR.1 h k hk;simp only [AI,bt,H6,Bl,kD] at this;omega
theorem AH{n:Nat}{p q:Nat->Int}(h:xR n p q=true){j k:Nat}(hjk:j<=k)(hk:k<n):p j<=p k/\q j<=q k:=by
 induction k with
 |zero=>
      have:j=0:=VJ;subst this;exact ⟨Int.le_refl _,Int.le_refl _⟩
 |succ k ih=>
  rcases (show j<=k\/j=k+1 by omega) with h1|rfl
  ·have:=ih h1 VJ;have h2:=LO h hk;simp only [Bi] at h2;omega
  ·exact ⟨Int.le_refl _,Int.le_refl _⟩
theorem Zc6{n:Nat}{p:Nat->Int}{x:Int}(I:2<=n)(hx:x<=p (n-1)):RM n p x<n-1:=by
 obtain ⟨h1,h2,h3⟩:=F2 (λk=>decide (x<=p (k+1))) (n-1)
 unfold RM;rcases An (GW (λk=>decide (x<=p (k+1))) (n-1)) (n-1) with h|h
 ·exact h
 ·have:=h2 (n-2) VJ;rw [show n-2+1=n-1 by omega] at this
  simp at this;omega
theorem catF1{k j:Nat}{a:Nat->Int}{x:Int}(h:j<k+1)(hx:x=a k):GE k (λk=>[i (a k)]) (U4 1 [i x]) j=[i (a j)]:=by
 have e:j-k=0:=VJ;show H0 (decide (j<k)) [i (a j)] (U4 1 [i x] (j-k))=_;rw [e];by_cases hj:j<k
 ·rw [show decide (j<k)=true by simp [hj]]
  rfl
 ·have hk:j=k:=VJ;rw [show decide (j<k)=false by simp [hj],hk,hx]
  rfl
theorem Jh8(a b:Nat->Int):col 0 (λk=>[i (a k),i (b k)])=a:=rfl
theorem Jh7(a b:Nat->Int):col 1 (λk=>[i (a k),i (b k)])=b:=rfl
theorem AP{n:Nat}{p q:Nat->Int}{x:Int}(I:2<=n)(ht:xR n p q=true)(hx:p 0<=x/\x<=p (n-1)):RM n p x<n-1/\p (RM n p x)<=x/\x<=p (RM n p x+1):=by
 have h1:=Zc6 I hx.2;obtain ⟨f1,f2,f3⟩:=F2 (λk=>decide (x<=p (k+1))) (n-1)
 have h3:=f3 h1;refine ⟨h1,?_,qJ h3⟩;rcases Nat.eq_zero_or_pos (RM n p x) with h|h
 ·rw [h];exact hx.1
 ·have:=f2 (RM n p x-1) (by unfold RM at h ⊢;omega)
  rw [show RM n p x-1+1=RM n p x by omega] at this
  simp at this;omega
theorem dR{p q:Nat->Int}{x:Int}{k:Nat}(hp:p k<p (k+1))(hq:q k<q (k+1))(h1:p k<=x)(h2:x<=p (k+1)):dS p q x k=q k+(q (k+1)-q k)*(x-p k) / (p (k+1)-p k)/\q k<=dS p q x k/\dS p q x k<=q (k+1):=by
 have m0:0<=(q (k+1)-q k)*(x-p k):=Int.mul_nonneg VJ VJ;have e:dS p q x k=q k+(q (k+1)-q k)*(x-p k) / (p (k+1)-p k):=by
  unfold dS;rw [Int.tdiv_eq_ediv_of_nonneg m0]
 have m1:(q (k+1)-q k)*(x-p k)<=(q (k+1)-q k)*(p (k+1)-p k):=Int.mul_le_mul_of_nonneg_left VJ VJ;have d0:0<=(q (k+1)-q k)*(x-p k) / (p (k+1)-p k):=Int.ediv_nonneg m0 VJ;have d1:(q (k+1)-q k)*(x-p k) / (p (k+1)-p k)<=q (k+1)-q k:=Int.ediv_le_of_le_mul VJ m1;rw [e];omega
theorem Qy7{n:Nat}{p:Nat->Int}{x y:Int}(h:x<=y):RM n p x<=RM n p y:=by
 obtain ⟨f1,f2,f3⟩:=F2 (λk=>decide (x<=p (k+1))) (n-1)
 obtain ⟨g1,g2,g3⟩:=F2 (λk=>decide (y<=p (k+1))) (n-1)
 unfold RM;rcases An (GW (λk=>decide (y<=p (k+1))) (n-1)) (GW (λk=>decide (x<=p (k+1))) (n-1)) with hl|hl
 ·have a1:=f2 _ hl;have a2:=g3 VJ;simp at a1 a2;omega
 ·exact hl
theorem boil_spec{n:Nat}{p q:Nat->Int}{x:Int}(I:2<=n)(ht:xR n p q=true)(hx:p 0<=x/\x<=p (n-1)):q 0<=boilI n p q x/\boilI n p q x<=q (n-1)/\1<=boilI n p q x/\boilI n p q x<=2000:=by
 obtain ⟨h1,h2,h3⟩:=AP I ht hx;have s:=LO ht (show RM n p x+1<n by omega)
 simp only [Bi] at s;have b:=dR (p:=p) (q:=q) (x:=x) (k:=RM n p x) VJ VJ h2 h3;have m1:=AH ht (show 0<=RM n p x by omega) (show RM n p x<n by omega)
 have m2:=AH ht (show RM n p x+1<=n-1 by omega) (show n-1<n by omega)
 have z:=LO ht (show 0<n by omega)
 have z2:=LO ht (show n-1<n by omega)
 unfold boilI;omega
theorem boil_mono{n:Nat}{p q:Nat->Int}{x y:Int}(I:2<=n)(ht:xR n p q=true)(hx:p 0<=x)(hxy:x<=y)(hy:y<=p (n-1)):boilI n p q x<=boilI n p q y:=by
 obtain ⟨h1,h2,h3⟩:=AP I ht (x:=x) VJ;obtain ⟨g1,g2,g3⟩:=AP I ht (x:=y) VJ;have s:=LO ht (show RM n p x+1<n by omega)
 have s':=LO ht (show RM n p y+1<n by omega)
 simp only [Bi] at s s';have b:=dR (p:=p) (q:=q) (x:=x) (k:=RM n p x) VJ VJ h2 h3;have b':=dR (p:=p) (q:=q) (x:=y) (k:=RM n p y) VJ VJ g2 g3;have hm:=Qy7 (n:=n) (p:=p) hxy;unfold boilI;rcases An (RM n p x) (RM n p y) with hl|hl
 ·have m:=AH ht (show RM n p x+1<=RM n p y by omega) (show RM n p y<n by omega)
  omega
 ·have e:RM n p x=RM n p y:=VJ;rw [b.1,b'.1,e];rw [e] at s;have:=Int.ediv_le_ediv (show 0<p (RM n p y+1)-p (RM n p y) by omega) (Int.mul_le_mul_of_nonneg_left (show x-p (RM n p y)<=y-p (RM n p y) by omega) (show 0<=q (RM n p y+1)-q (RM n p y) by omega))
  omega
def aH:UW
 |[.lst 2 n f]=>some ([],.fn (.func 225) [] [.ro [.lst 2 n f]])
 |_=>none
theorem Qy2(n:Nat)(f:Nat->List AV):FN VO 191 [.lst 2 n f] (.fn (.func 225) [] [.ro [.lst 2 n f]]):=by
 refine D1 (L:=[]) Aa Ad VY Tryz.func191 (UT Tryz.f191) G5 (t:=leaf (AV.fn (Fn.func 225) [] [AV.ro [lst 2 n λa=>f a]])) VT ?_
 exact rfl
theorem N0:PF VO 191 aH:=by
 refine ⟨(UG Tryz.func191),?_⟩;intro avs ns Z h I;unfold aH at h;split at h
 ·cases h;exact Qy2 _ _
 ·cases h
def stV(p q:Nat->Int)(k:Nat):Value:= .agg #[.int .i64 (p k),.int .i64 (q k)]
def spV(p q:Nat->Int)(k:Nat):List Value:=[stV p q k,stV p q (k+1)]
section
variable (l:Nat)
abbrev KU:AV:=AV.fn (Fn.yield l) [] []
def Wy9(n:Nat)(p q:Nat->Int):St:={σ:=[KU l,AV.ro [QS n p q],top,top,top,top,lst 2 (n-(1:Int).toNat) λi=>[iI (p ((1:Int).toNat+i)),iI (q ((1:Int).toNat+i))],iI (↑(n-(1:Int).toNat):Int)]++HH 14 [],m:=[],nx:=4,gh:=some 0}
noncomputable def Zs0:Code:=U9 (VS (U7 Tryz.f225) 0)
def TI(n:Nat)(p q:Nat->Int)(k:Nat):St:={σ:=H4 [(8,i k)] (Wy9 l n p q).σ,m:=[],nx:=0,gh:=some (k) }
def jG(n:Nat)(p q:Nat->Int)(k:Nat):G7->Option St
 | .exit 0=>some {σ:=H4 [] (Wy9 l n p q).σ,m:=[],nx:=0,gh:=some (n-1) }
 | .ret=>some {σ:=H4 [] (Wy9 l n p q).σ,m:=[],nx:=0,gh:=none}
 |_=>none
def Jj7(n:Nat)(p q:Nat->Int):CT:= .may True (.leaf (.exit 0,(jG l n p q 0 (.exit 0)).getD (Wy9 l n p q))) (.leaf (.ret,(jG l n p q 0 .ret).getD (Wy9 l n p q)))
def Xu2(n:Nat)(p q:Nat->Int):UI:=GK [] (HG (TI l n p q (0)) (Jj7 l n p q))
theorem Zx4(n:Nat)(p q:Nat->Int)(VR:1<=n/\n<=100000){cx:Cx}(hX:VW VO {Y:=some (l,(n-1),(spV p q)) } cx):HI VO none cx (.loop Zs0) (Xu2 l n p q):=by
 refine FJ [] (L:=[]) Aa hX VY G5 (V:=Nat) (TI l n p q) (λk=>k<=n-1) (λk=>n-k) (jG l n p q) (x0:=0) VV ?_ ?_ ?_
 ·rintro k;kernel_rfl
 ·rintro k y E h;unfold jG at h;split at h
  ·cases h;kernel_rfl
  ·cases h;kernel_rfl
  ·cases h
 ·rintro Q hQ k hx;refine ⟨(k+1),?_⟩;have e:HV VO [] {Y:=some (l,(n-1),(spV p q)) } [] [] Zs0 (TI l n p q k) (TI l n p q ((k+1))) (jG l n p q k)=(let A:=(VZ (lst 2 (n-(1:Int).toNat) λi=>[iI (p ((1:Int).toNat+i)),iI (q ((1:Int).toNat+i))]));let W:=(VZ (↑(n-(1:Int).toNat):Int));(branch (decide ((k:Int)<(↑(n-(1:Int).toNat):Int))) (need [UJ k (↑(n-(1:Int).toNat):Int)] (need [UJ k n] (need [l=l,k<n-1,[Value.agg {toList:=[Value.int IntKind.i64 (p k),Value.int IntKind.i64 (q k)] },Value.agg {toList:=[Value.int IntKind.i64 (p ((1:Int).toNat+k)),Value.int IntKind.i64 (q ((1:Int).toNat+k))] }]=[Value.agg {toList:=[Value.int IntKind.i64 (p k),Value.int IntKind.i64 (q k)] },Value.agg {toList:=[Value.int IntKind.i64 (p (k+1)),Value.int IntKind.i64 (q (k+1))] }]] (VM.may True (need [VL ((k:Int)+1)] (need [KU l=KU l,VZ (AV.ro [QS n p q]),A,W,(k:Int)+1=(↑(k+1):Int),k+1=k+1] (leaf G7.normal))) (need [KU l=KU l,VZ (AV.ro [QS n p q]),A,W] (leaf G7.ret)))))) (need [KU l=KU l,VZ (AV.ro [QS n p q]),A,W,k=n-1] (leaf (G7.exit 0))))):=VT
  rw [e];simp only [Jj7,jG,VM.sat,GT] at hQ;have hQ1: ∀E,jG l n p q k (.exit 0)=some E->Q (.exit 0,E):=λE hE=>by cases hE;exact hQ.1 trivial
  have hQ2: ∀E,jG l n p q k .ret=some E->Q (.ret,E):=λE hE=>by cases hE;exact hQ.2
  have t1:(1:Int).toNat=1:=rfl;have t2:1+k=k+1:=VJ;simp only [VM.sat,UB,UH,HA,VL,DZ,t1,t2];clear e hQ;all_goals exact V6
end
section
variable (n:Nat)
theorem mO(p q:Nat->Int)(VR:1<=n/\n<=100000):B6 Tryz.prog 225 [.ro [scs n p q]] ((n-1)) (spV p q):=by
 refine BH (L:=λl=>[Xu2 l n p q]) Aa VY (UG Tryz.func225) Tryz.func225 (UT Tryz.f225) VT (λl cx hX=>G0 (lpE (b:= .loop Zs0) VT<|Zx4 l n p q VR hX)) (t:=λl=>(need [(0:Int)<=1/\(1:Int)<=(n:Int)/\(n:Int)<=(n:Int)] (need [VZ (AV.fn (Fn.yield l) [] []),VZ (AV.ro [QS n p q]),VZ (lst 2 (n-(1:Int).toNat) λi=>[iI (p ((1:Int).toNat+i)),iI (q ((1:Int).toNat+i))]),VZ (↑(n-(1:Int).toNat):Int),(0:Int)=(↑(0:Nat):Int),0=0] (VM.may True (need [n-1=n-1] (leaf PUnit.unit)) (leaf PUnit.unit))))) (λl=>VT) ?_
 intro l;simp only [VM.sat,UB,G4,GJ,UD,VL,UH,HA,FY];all_goals exact V6
abbrev K1(p:Nat->Int)(q:Nat->Int):AV:=AV.fn (Fn.func 225) [] [AV.ro [QS n p q]]
def sQ(p q:Nat->Int)(y:Int):St:={σ:=[QS n p q,iI y,top,ptr 0 0,ptr 1 0,top,top,top,K1 n p q]++HH 25 [],m:=[(1,GN.cells 3 [iI 0]),(0,GN.cells 3 [iI y])],nx:=4}
def rfF:Option Code->Operand
 |some (.rangeFunc f _ _ _)=>f
 |_=> .const .nilFunc
def jD:Option Code->Array Nat
 |some (.rangeFunc _ ps _ _)=>ps
 |_=>#[]
def SI:Option Code->Code
 |some (.rangeFunc _ _ a _)=>a
 |_=> .skip
def SH:Option Code->Code
 |some (.rangeFunc _ _ _ b)=>b
 |_=> .skip
noncomputable def Zs8:Code:=SI (VS (U7 Tryz.f154) 0)
noncomputable def Qs1:Code:=SH (VS (U7 Tryz.f154) 0)
def vG(p q:Nat->Int)(y:Int)(k:Nat):St:=(upM [] (sQ n p q y))
def PM(p q:Nat->Int)(y:Int)(k:Nat):G7->Option St
 | .ret=>some (upE [] [(1,.cells 3 [i (boilI n p q y)])] (sQ n p q y))
 |_=>none
def Wu2(p q:Nat->Int)(y:Int):CT:= .leaf (.ret,(PM n p q y 0 .ret).getD (sQ n p q y))
def m9(p q:Nat->Int)(y:Int):UI:=GK [] (HG (vG n p q y (0)) (Wu2 n p q y))
abbrev YW:Ext:={R:=[(191,aH)],H:=[] }
theorem Ji3(p q:Nat->Int)(y:Int)(VR:2<=n/\n<=100000)(UE:xR n p q=true)(HQ: -100000<=y/\y<=p (n-1)):HP VO (.rangeFunc (rfF (VS (U7 Tryz.f154) 0)) (jD (VS (U7 Tryz.f154) 0)) Zs8 Qs1) (m9 n p q y):=by
 refine P7 [] (L:=[]) Aa (Ai (Af N0 Ab) Ac) VY U3 (V:=Nat) (vG n p q y) (λk=>k<=n-1/\ ∀j,j<k->decide (y<=p (j+1))=false) (λk=>k) (PM n p q y) (x0:=0) ⟨VJ,λj hj=>VJ⟩ rfl ?_ ?_ ?_ ?_ (g:=225) (caps:=[.ro [scs n p q]]) VT VT (mO n p q VJ) (λ_=>rfl) ?_
 ·rintro k;kernel_rfl
 ·rintro k y E h;unfold PM at h;split at h
  ·cases h;kernel_rfl
  ·cases h
 ·rintro k;rfl
 ·rintro k y E h;unfold PM at h;split at h
  ·cases h;rfl
  ·cases h
 ·rintro Q hQ k hx;refine ⟨λhlt=>⟨(k+1),rfl,?_⟩,λPI=>?_⟩
  ·have e:AR VO [] YW [] [] (jD (VS (U7 Tryz.f154) 0)).toList ((spV p q) (k)) Zs8 Qs1 (vG n p q y k) (vG n p q y ((k+1))) (PM n p q y k)=(branch (decide (y<=p (k+1))) (need [VL (q (k+1)-q k)] (need [VL (y-p k)] (need [VL ((q (k+1)-q k)*(y-p k))] (need [VL (p (k+1)-p k)] (need [p (k+1)-p k≠0,VL (Int.tdiv ((q (k+1)-q k)*(y-p k)) (p (k+1)-p k))] (need [VL (q k+Int.tdiv ((q (k+1)-q k)*(y-p k)) (p (k+1)-p k))] (need [JP n p q,y=y,VZ (ptr 0 0),VZ (ptr 1 0),VZ (K1 n p q),q k+Int.tdiv ((q (k+1)-q k)*(y-p k)) (p (k+1)-p k)=boilI n p q y] (leaf G7.ret)))))))) (need [JP n p q,y=y,VZ (ptr 0 0),VZ (ptr 1 0),VZ (K1 n p q),VZ (0:Int),y=y] (leaf G7.normal))):=VT;rw [e];simp only [Wu2,PM,VM.sat,GT] at hQ;have hQ2: ∀E,PM n p q y k .ret=some E->Q (.ret,E):=λE hE=>by cases hE;exact hQ
   simp only [VM.sat,UB,UH,HA,VL];clear e hQ;have sl:=LO UE (show n-1<n by omega)
   have s0:=LO UE (show k<n by omega)
   have s1:=LO UE (show k+1<n by omega)
   simp only [Bi] at s1;have m:=mul_bd (x:=q (k+1)-q k) (y:=y-p k) (X:=2000) (Y:=200000) VJ VJ;have dv:(((q (k+1)-q k)*(y-p k)).tdiv (p (k+1)-p k)).natAbs<=((q (k+1)-q k)*(y-p k)).natAbs:=by
    rw [Int.natAbs_tdiv];exact Nat.div_le_self _ _
   refine ⟨λh=>?_,λh=>?_⟩
   ·have hf:RM n p y=k:=zG hlt (by simpa using h) hx.2
    have hbo:boilI n p q y=q k+((q (k+1)-q k)*(y-p k)).tdiv (p (k+1)-p k):=by unfold boilI;rw [hf];rfl
    rw [hbo];all_goals exact V6
   ·refine ⟨VJ,λj hj=>?_⟩
    rcases (show j<k\/j=k by omega) with h1|rfl
    ·have:=hx.2 j h1;simpa using this
    ·exact h
  ·exfalso;have:=hx.2 (n-2) VJ;rw [show n-2+1=n-1 by omega] at this
   simp at this;omega
theorem Xj5(p q:Nat->Int)(y:Int)(VR:2<=n/\n<=100000)(UE:xR n p q=true)(HQ: -100000<=y/\y<=p (n-1)):VX VO 154 [scs n p q,i y] (i (boilI n p q y)):=by
 refine GA (L:=[m9 n p q y]) Aa (Ai (Af N0 Ab) Ac) VY Tryz.func154 (UT Tryz.f154) (G0 (lpE (b:= .rangeFunc (rfF (VS (U7 Tryz.f154) 0)) (jD (VS (U7 Tryz.f154) 0)) Zs8 Qs1) VT<|Ji3 n p q y VR UE HQ)) (t:=need [JP n p q,y=y,VZ (ptr 0 0),VZ (ptr 1 0),VZ (K1 n p q),VZ (0:Int),y=y] (leaf (RV.x (.int .i64 (boilI n p q y))))) VT ?_
 simp only [VM.sat,UB,G4,GJ,UD,VL,UH];all_goals first|omega|grind
end
def Wu9:UW
 |[.lst 2 n f,.x (.int .i64 y)]=>some ([UF 2 n f,2<=n/\n<=100000,xR n (col 0 f) (col 1 f)=true,-100000<=y/\y<=col 0 f (n-1)],i (boilI n (col 0 f) (col 1 f) y))
 |_=>none
theorem Xj4:VP VO 154 Wu9:=by
 refine ⟨(UG Tryz.func154),?_⟩;intro avs ns Z h I;unfold Wu9 at h;split at h
 ·rename_i n f y;cases h;have hr:UF 2 n f:=I _ VV;exact (Xj5 n (col 0 f) (col 1 f) y (I _ VV) (I _ VV) (I _ VV)).same (.cons (.lst 2 n _ _ hr) (.cons (.refl _) .nil))
 ·cases h
section
variable (n:Nat)(p q:Nat->Int)(U O:Int)
def blE:Int:=if tbE n p q=0 then (if insB (p 0) U O (p (n-1)) then 0 else 2) else tbE n p q
def blLo:Int:=if blE n p q U O=0 then boilI n p q U else 0
def blHi:Int:=if blE n p q U O=0 then boilI n p q O else 0
end
theorem Qx4{n:Nat}{p q:Nat->Int}(h:tbE n p q=0):2<=n/\n<=8/\xR n p q=true:=by
 unfold tbE at h;split at h
 ·omega
 ·split at h
  ·omega
  ·split at h
   ·rename_i h3;exact ⟨VJ,VJ,h3⟩
   ·omega
theorem Wz9(n:Nat)(p q:Nat->Int)(U O:Int)(VR:n<=100000):VX VO 116 [scs n p q,.agg [i U,i O]] (.tup [.agg [i (blLo n p q U O),i (blHi n p q U O)],i (blE n p q U O)]):=by
 refine U1 (L:=[]) (Ae Qx5 (Ae PO (Ae Xj4 Aa))) VY Tryz.func116 (UT Tryz.f116) U3 (t:=need [UF 2 n λk=>[i (p k),i (q k)],n<=100000] (branch (tbE n p q != 0) (leaf (RV.tup [RV.agg [RV.x (K8),RV.x (K8)],RV.x (.int .i64 (tbE n p q))])) (need [UJ 0 n] (need [VL ((n:Int)-1)] (need [UJ ((n:Int)-1) n] (branch (!insB (p (0:Int).toNat) U O (p ((n:Int)-1).toNat)) (leaf (RV.tup [RV.agg [RV.x (K8),RV.x (K8)],RV.x (.int .i64 (2:Int))])) (need [UF 2 n λk=>[i (p k),i (q k)],2<=n/\n<=100000,xR n p q=true,(-100000:Int)<=U/\U<=p (n-1)] (need [UF 2 n λk=>[i (p k),i (q k)],2<=n/\n<=100000,xR n p q=true,(-100000:Int)<=O/\O<=p (n-1)] (leaf (RV.tup [RV.agg [RV.x (.int .i64 (boilI n p q U)),RV.x (.int .i64 (boilI n p q O))],RV.x (K8)])))))))))) VT ?_
 simp only [VM.sat,UB,G4,GJ,UD,UH,Jh8,Jh7,VL,show (0:Int).toNat=0 from rfl];refine ⟨⟨isRec2 n p q,VR⟩,λh=>?_,λh=>?_⟩
 ·have h':tbE n p q≠0:=by simpa using h
  simp [blLo,blHi,blE,h']
 ·have h':tbE n p q=0:=by simpa using h
  obtain ⟨t1,t2,t3⟩:=Qx4 h';have e1:((n:Int)-1).toNat=n-1:=VJ;have s0:=LO t3 (show 0<n by omega)
  simp only [e1];refine ⟨VJ,VJ,VJ,λh2=>?_,λh2=>?_⟩
  ·have h2':insB (p 0) U O (p (n-1))=false:=by simpa using h2
   simp [blLo,blHi,blE,h',h2']
  ·have h2':insB (p 0) U O (p (n-1))=true:=by simpa using h2
   have b:=(insB_iff _ _ _ _).1 h2';refine ⟨⟨isRec2 n p q,VJ,t3,VJ⟩,⟨isRec2 n p q,VJ,t3,VJ⟩,?_⟩;simp [blLo,blHi,blE,h',h2']
def Qf6:UW
 |[.lst 2 n f,.agg [.x (.int .i64 U),.x (.int .i64 O)]]=>some ([UF 2 n f,n<=100000],.tup [.agg [i (blLo n (col 0 f) (col 1 f) U O),i (blHi n (col 0 f) (col 1 f) U O)],i (blE n (col 0 f) (col 1 f) U O)])
 |_=>none
theorem blE_ok{n:Nat}{p q:Nat->Int}{U O:Int}(h:blE n p q U O=0):2<=n/\n<=8/\xR n p q=true/\p 0<=U/\U<=O/\O<=p (n-1):=by
 unfold blE at h;split at h
 ·rename_i h1;obtain ⟨t1,t2,t3⟩:=Qx4 h1;split at h
  ·rename_i h2;have:=(insB_iff _ _ _ _).1 h2;exact ⟨t1,t2,t3,this⟩
  ·omega
 ·contradiction
theorem Boils_ok:VP VO 116 Qf6:=by
 refine ⟨(UG Tryz.func116),?_⟩;intro avs ns Z h I;unfold Qf6 at h;split at h
 ·rename_i n f U O;cases h;have hr:UF 2 n f:=I _ VV;exact (Wz9 n (col 0 f) (col 1 f) U O (I _ VV)).same (.cons (.lst 2 n _ _ hr) (.cons (.refl _) .nil))
 ·cases h
end Go.Proofs.YtakpdkmhclhlnaaGreatDoor.Pt
namespace Go.Proofs.YtakpdkmhclhlnaaGreatDoor.Bo
open Go Go.Sx Go.RowKit Go.ChangeShapes Go.WideShapes Go.ChangeAt
open Go.Sx.VM (need branch leaf)
open Go.Sx.AV (lst ptr agg roI tup top)
theorem VY:Tryz.prog.follows .mixedOrders=true:=VT
abbrev i(n:Int):AV:= .x (.int .i64 n)
abbrev iI(n:Int):AV:= .x (.int .i64 n)
abbrev bl(b:Bool):AV:= .x (.bool b)
def bt(U n O:Int):Bool:=decide (U<=n)&&decide (n<=O)
theorem bt_iff(U n O:Int):bt U n O=true↔U<=n/\n<=O:=by simp [bt]
def insB(U a b O:Int):Bool:=decide (U<=a)&&decide (a<=b)&&decide (b<=O)
theorem insB_iff(U a b O:Int):insB U a b O=true↔U<=a/\a<=b/\b<=O:=by simp [insB,and_assoc]
def BX(c T U O:Int):Bool:=bt 1 c 10&&insB 1 U O 200&&bt 1 T 2000&&bt (c*U) T (c*O)
def rdB(c a b u v:Int):Bool:=bt 0 a (c-1)&&bt a b c&&insB 0 u v 2000
def B7:UW
 |[.x (.int .i64 n),.x (.int .i64 U),.x (.int .i64 O)]=>some ([],bl (bt U n O))
 |_=>none
abbrev YG:Value:=Value.bool false
theorem wM(n U O:Int):VX VO 155 [i n,i U,i O] (bl (bt U n O)):=by
 refine GV Tryz.func155 (t:=branch (decide (U<=n)) (leaf (RV.x (.bool (decide (n<=O))))) (leaf (RV.x (YG)))) VT ?_;simp only [VM.sat,UB,G4,GJ,UD,UH];all_goals (simp+contextual [bt,insB,Bool.and_assoc]);all_goals omega
theorem RI:VP VO 155 B7:=by
 refine ⟨(UG Tryz.func155),?_⟩;intro avs ns Z h I;unfold B7 at h;split at h
 ·cases h;exact wM _ _ _
 ·cases h
def B8:UW
 |[.agg [.x (.int .i64 a),.x (.int .i64 b)],.x (.int .i64 U),.x (.int .i64 O)]=>some ([],bl (insB U a b O))
 |_=>none
theorem x7(a b U O:Int):VX VO 156 [.agg [i a,i b],i U,i O] (bl (insB U a b O)):=by
 refine GV Tryz.func156 (t:=branch (decide (U<=a)) (branch (decide (a<=b)) (leaf (RV.x (.bool (decide (b<=O))))) (leaf (RV.x (YG)))) (leaf (RV.x (YG)))) VT ?_;simp only [VM.sat,UB,G4,GJ,UD,UH];all_goals (simp+contextual [bt,insB,Bool.and_assoc]);all_goals omega
theorem PO:VP VO 156 B8:=by
 refine ⟨(UG Tryz.func156),?_⟩;intro avs ns Z h I;unfold B8 at h;split at h
 ·cases h;exact x7 _ _ _ _
 ·cases h
theorem mul_bd{x y X Y:Int}(hx: -X<=x/\x<=X)(hy: -Y<=y/\y<=Y): -(X*Y)<=x*y/\x*y<=X*Y:=by
 have h1:=Int.mul_nonneg (show 0<=X-x by omega) (show 0<=Y-y by omega)
 have h2:=Int.mul_nonneg (show 0<=X+x by omega) (show 0<=Y+y by omega)
 have h3:=Int.mul_nonneg (show 0<=X-x by omega) (show 0<=Y+y by omega)
 have h4:=Int.mul_nonneg (show 0<=X+x by omega) (show 0<=Y-y by omega)
 rw [Int.sub_mul,Int.mul_sub,Int.mul_sub] at h1;rw [Int.add_mul,Int.mul_add,Int.mul_add] at h2;rw [Int.sub_mul,Int.mul_add,Int.mul_add] at h3;rw [Int.add_mul,Int.mul_sub,Int.mul_sub] at h4;omega
def rA:UW
 |[.agg [.x (.int .i64 c),.x (.int .i64 T),.x (.int .i64 U),.x (.int .i64 O)]]=>some ([],i (if BX c T U O then 0 else 1))
 |_=>none
abbrev JU:Value:=Value.int IntKind.i64 (0:Int)
abbrev YC:Value:=Value.int IntKind.i64 (1:Int)
theorem aU(c T U O:Int):VX VO 117 [.agg [i c,i T,i U,i O]] (i (if BX c T U O then 0 else 1)):=by
 refine U1 (L:=[]) (Ae RI (Ae PO Aa)) VY Tryz.func117 (UT Tryz.f117) U3 (t:=branch (!bt (1:Int) c (10:Int)) (leaf (RV.x (YC))) (branch (!insB (1:Int) U O (200:Int)) (leaf (RV.x (YC))) (branch (!bt (1:Int) T (2000:Int)) (leaf (RV.x (YC))) (need [VL (c*U)] (need [VL (c*O)] (branch (!bt (c*U) T (c*O)) (leaf (RV.x (YC))) (leaf (RV.x (JU))))))))) VT ?_;simp only [VM.sat,UB,G4,UD,UH,VL,BX];rcases Bool.eq_false_or_eq_true (bt 1 c 10) with h1|h1
 rotate_left
 ·simp [h1]
 rcases Bool.eq_false_or_eq_true (insB 1 U O 200) with h2|h2
 rotate_left
 ·simp [h1,h2]
 rcases Bool.eq_false_or_eq_true (bt 1 T 2000) with h3|h3
 rotate_left
 ·simp [h1,h2,h3]
 have e1:=(bt_iff _ _ _).1 h1;have e2:=(insB_iff _ _ _ _).1 h2;have m1:=mul_bd (x:=c) (y:=U) (X:=10) (Y:=200) VJ VJ;have m2:=mul_bd (x:=c) (y:=O) (X:=10) (Y:=200) VJ VJ;rcases Bool.eq_false_or_eq_true (bt (c*U) T (c*O)) with h4|h4<;>simp [h1,h2,h3,h4]<;>omega
theorem CheckTube_ok:VP VO 117 rA:=by
 refine ⟨(UG Tryz.func117),?_⟩;intro avs ns Z h I;unfold rA at h;split at h
 ·cases h;exact aU _ _ _ _
 ·cases h
def OP:UW
 |[.agg [.x (.int .i64 c),.x (.int .i64 T),.x (.int .i64 U),.x (.int .i64 O)],.agg [.x (.int .i64 a),.x (.int .i64 b),.x (.int .i64 u),.x (.int .i64 v)]]=>some ([1<=c/\c<=10],bl (rdB c a b u v))
 |_=>none
theorem nA(c T U O a b u v:Int)(VR:1<=c/\c<=10):VX VO 192 [.agg [i c,i T,i U,i O],.agg [i a,i b,i u,i v]] (bl (rdB c a b u v)):=by
 refine U1 (L:=[]) (Ae RI (Ae PO Aa)) VY Tryz.func192 (UT Tryz.f192) U3 (t:=need [VL (c-1)] (branch (bt (0:Int) a (c-1)) (branch (bt a b c) (leaf (RV.x (.bool (insB (0:Int) u v (2000:Int))))) (leaf (RV.x (YG)))) (leaf (RV.x (YG))))) VT ?_;simp only [VM.sat,UB,G4,UD,UH,VL,rdB];refine ⟨VJ,?_⟩;cases h1:bt 0 a (c-1)<;>cases h2:bt a b c<;>cases h3:insB 0 u v 2000<;>simp
theorem mZ:VP VO 192 OP:=by
 refine ⟨(UG Tryz.func192),?_⟩;intro avs ns Z h I;unfold OP at h;split at h
 ·cases h;exact nA _ _ _ _ _ _ _ _ (I _ VV)
 ·cases h
end Go.Proofs.YtakpdkmhclhlnaaGreatDoor.Bo
namespace Go.Proofs.YtakpdkmhclhlnaaGreatDoor.Bo
open Go Go.Sx Go.RowKit
open Go.Sx.VM (need branch leaf)
open Go.Sx.AV (lst ptr agg roI tup top)
theorem Xc1(a b:Int):VX VO 135 [.lst 1 2 (λk=>[i (if k=0 then a else b)])] (i (min a b)):=by
 refine U1 (L:=[λs=>some (xQ Tryz.prog [] [] (U9 (VS (U7 Tryz.f135) 0)) 3 s)]) Aa VY Tryz.func135 (UT Tryz.f135) (G0 (lpE (b:= .loop (U9 (VS (U7 Tryz.f135) 0))) VT<|L8 Aa VY U3 _)) (t:=let A:=(min (if (0:Int).toNat=0 then a else b) (if (1:Int).toNat=0 then a else b));(branch (decide ((↑(2:Nat):Int)<1)) VM.fail (need [UJ 0 2] (branch (decide ((1:Int)<(↑(2:Nat):Int))) (need [UJ 1 2] (need [VL ((1:Int)+1)] (branch (decide ((1:Int)+1<(↑(2:Nat):Int))) (need [(0:Int)<=1+1/\(1:Int)+1<(↑(2:Nat):Int)] (need [VL ((1:Int)+1+1)] (branch (decide ((1:Int)+1+1<(↑(2:Nat):Int))) (need [(0:Int)<=1+1+1/\(1:Int)+1+1<(↑(2:Nat):Int)] (need [VL ((1:Int)+1+1+1)] VM.fail)) (leaf (RV.x (.int .i64 (min A (if ((1:Int)+1).toNat=0 then a else b)))))))) (leaf (RV.x (.int .i64 A)))))) (leaf (RV.x (.int .i64 (if (0:Int).toNat=0 then a else b)))))))) VT ?_
 simp [VM.sat,UB,G4,GJ,UD,VL]
theorem Xc2(a b:Int):VX VO 136 [.lst 1 2 (λk=>[i (if k=0 then a else b)])] (i (max a b)):=by
 refine U1 (L:=[λs=>some (xQ Tryz.prog [] [] (U9 (VS (U7 Tryz.f136) 0)) 3 s)]) Aa VY Tryz.func136 (UT Tryz.f136) (G0 (lpE (b:= .loop (U9 (VS (U7 Tryz.f136) 0))) VT<|L8 Aa VY U3 _)) (t:=let A:=(max (if (0:Int).toNat=0 then a else b) (if (1:Int).toNat=0 then a else b));(branch (decide ((↑(2:Nat):Int)<1)) VM.fail (need [UJ 0 2] (branch (decide ((1:Int)<(↑(2:Nat):Int))) (need [UJ 1 2] (need [VL ((1:Int)+1)] (branch (decide ((1:Int)+1<(↑(2:Nat):Int))) (need [(0:Int)<=1+1/\(1:Int)+1<(↑(2:Nat):Int)] (need [VL ((1:Int)+1+1)] (branch (decide ((1:Int)+1+1<(↑(2:Nat):Int))) (need [(0:Int)<=1+1+1/\(1:Int)+1+1<(↑(2:Nat):Int)] (need [VL ((1:Int)+1+1+1)] VM.fail)) (leaf (RV.x (.int .i64 (max A (if ((1:Int)+1).toNat=0 then a else b)))))))) (leaf (RV.x (.int .i64 A)))))) (leaf (RV.x (.int .i64 (if (0:Int).toNat=0 then a else b)))))))) VT ?_
 simp [VM.sat,UB,G4,GJ,UD,VL]
def kE:UW
 |[.lst 1 2 f]=>(match f 0,f 1 with
  |[.x (.int .i64 a)],[.x (.int .i64 b)]=>some ([],i (min a b))
  |_,_=>none)
 |_=>none
theorem SG:VP VO 135 kE:=by
 refine ⟨(UG Tryz.func135),?_⟩;intro avs ns Z h I;unfold kE at h;split at h
 ·rename_i f;split at h
  ·rename_i a b h0 h1;cases h;refine (Xc1 a b).same (.cons (.lst 1 2 _ _ ?_) .nil);intro k hk;rcases (show k=0\/k=1 by omega) with rfl|rfl
   ·exact h0
   ·exact h1
  ·cases h
 ·cases h
def dU:UW
 |[.lst 1 2 f]=>(match f 0,f 1 with
  |[.x (.int .i64 a)],[.x (.int .i64 b)]=>some ([],i (max a b))
  |_,_=>none)
 |_=>none
theorem t9:VP VO 136 dU:=by
 refine ⟨(UG Tryz.func136),?_⟩;intro avs ns Z h I;unfold dU at h;split at h
 ·rename_i f;split at h
  ·rename_i a b h0 h1;cases h;refine (Xc2 a b).same (.cons (.lst 1 2 _ _ ?_) .nil);intro k hk;rcases (show k=0\/k=1 by omega) with rfl|rfl
   ·exact h0
   ·exact h1
  ·cases h
 ·cases h
theorem Wd9(a b:Int):VX VO 228 [.lst 1 2 (λk=>[i (if k=0 then a else b)])] (i (min a b)):=by
 refine U1 (L:=[]) (Ae SG Aa) VY Tryz.func228 (UT Tryz.f228) U3 (t:=leaf (RV.x (.int .i64 (min (if 0=0 then a else b) (if 1=0 then a else b))))) VT ?_
 simp [VM.sat,G4,UD]
def A3:UW:=kE
theorem LR:VP VO 228 A3:=by
 refine ⟨(UG Tryz.func228),?_⟩;intro avs ns Z h I;unfold A3 kE at h;split at h
 ·rename_i f;split at h
  ·rename_i a b h0 h1;cases h;refine (Wd9 a b).same (.cons (.lst 1 2 _ _ ?_) .nil);intro k hk;rcases (show k=0\/k=1 by omega) with rfl|rfl
   ·exact h0
   ·exact h1
  ·cases h
 ·cases h
theorem iF(a b:Int):VX VO 251 [.lst 1 2 (λk=>[i (if k=0 then a else b)])] (i (max a b)):=by
 refine U1 (L:=[]) (Ae t9 Aa) VY Tryz.func251 (UT Tryz.f251) U3 (t:=leaf (RV.x (.int .i64 (max (if 0=0 then a else b) (if 1=0 then a else b))))) VT ?_
 simp [VM.sat,G4,UD]
def IV:UW:=dU
theorem fQ:VP VO 251 IV:=by
 refine ⟨(UG Tryz.func251),?_⟩;intro avs ns Z h I;unfold IV dU at h;split at h
 ·rename_i f;split at h
  ·rename_i a b h0 h1;cases h;refine (iF a b).same (.cons (.lst 1 2 _ _ ?_) .nil);intro k hk;rcases (show k=0\/k=1 by omega) with rfl|rfl
   ·exact h0
   ·exact h1
  ·cases h
 ·cases h
noncomputable def Qh4:HX:=dG Tryz.prog [(228,A3)] {} [] Tryz.f194 (U7 Tryz.f194)
abbrev J8:List (Nat×UW):=[(228,A3)]
theorem LI:GB VO 194 Qh4:=
 FW (G:=J8) (X:={}) (L:=[]) (Ae LR Aa) Ad VY (UG Tryz.func194) Tryz.func194 (UT Tryz.f194) U3
def UC(c T U O:Int)(M:Nat->Nat->Int)(k:Nat):Int:=if k=0 then c else if k=1 then T else if k=2 then U else if k=3 then O else M ((k-4) / 11) ((k-4)%11)
section
variable (M:Nat->Nat->Int)(a b:Nat)(v:Int)
def wS:Nat->Nat->Int:=λx y=>if x=a/\y=b then v else M x y
def bnd:Nat->Nat->Int:=wS M a b (min (M a b) v)
end
def ini(c:Nat)(k j:Nat):Nat->Nat->Int:=λx y=>if ((x<k/\y<=c)\/(x=k/\y<j))/\x≠y then 2000 else 0
theorem Qy5(c T U O:Int)(cc:Nat): ∀k,U8 (c::T::U::O::List.replicate 121 0) k=UC c T U O (ini cc 0 0) k:=by
 intro k;rcases k with _|_|_|_|k
 ·rfl
 ·rfl
 ·rfl
 ·rfl
 ·have h:U8 (c::T::U::O::List.replicate 121 0) (k+4)=U8 (List.replicate 121 0) k:=rfl;rw [h,gM (by decide)]
  simp [UC,ini]
theorem GL(q:Nat)(v:Int)(f:Nat->Int):zY q [v] f=UR q v f:=rfl
section
variable (c T U O:Int)
theorem BY(M:Nat->Nat->Int){a b q:Nat}(hq:q=4+a*11+b)(hb:b<11):UC c T U O M q=M a b:=by
 unfold UC;rw [if_neg VJ,if_neg VJ,if_neg VJ,if_neg VJ,show (q-4) / 11=a by omega,show (q-4)%11=b by omega]
theorem yT{M M':Nat->Nat->Int}(h: ∀x y,x<11->y<11->M x y=M' x y){k:Nat}(hk:k<125):UC c T U O M k=UC c T U O M' k:=by
 unfold UC;split
 ·rfl
 split
 ·rfl
 split
 ·rfl
 split
 ·rfl
 exact h _ _ VJ VJ
theorem bR(M:Nat->Nat->Int){a b q:Nat}(hq:q=4+a*11+b)(hb:b<11)(v:Int)(k:Nat):UR q v (UC c T U O M) k=UC c T U O (wS M a b v) k:=by
 unfold UR;by_cases hk:k=q
 ·rw [if_pos hk,BY _ _ _ _ _ (hk.trans hq) hb];simp [wS]
 ·rw [if_neg hk];unfold UC;by_cases h0:k=0
  ·rw [if_pos h0,if_pos h0]
  by_cases h1:k=1
  ·rw [if_neg h0,if_neg h0,if_pos h1,if_pos h1]
  by_cases h2:k=2
  ·rw [if_neg h0,if_neg h0,if_neg h1,if_neg h1,if_pos h2,if_pos h2]
  by_cases h3:k=3
  ·rw [if_neg h0,if_neg h0,if_neg h1,if_neg h1,if_neg h2,if_neg h2,if_pos h3,if_pos h3]
  rw [if_neg h0,if_neg h0,if_neg h1,if_neg h1,if_neg h2,if_neg h2,if_neg h3,if_neg h3];unfold wS;rw [if_neg VJ]
end
theorem Wj0(c k j:Nat)(hj:j<=c)(h:k≠j)(x y:Nat):wS (ini c k j) k j 2000 x y=ini c k (j+1) x y:=by
 unfold wS ini;split
 ·rename_i hxy;rw [if_pos ⟨.inr VJ,VJ⟩]
 ·rename_i hxy;by_cases h1:((x<k/\y<=c)\/(x=k/\y<j))/\x≠y
  ·rw [if_pos h1,if_pos VJ]
  ·rw [if_neg h1,if_neg VJ]
theorem Wj1(c k:Nat)(x y:Nat):ini c k k x y=ini c k (k+1) x y:=by
 unfold ini;by_cases h1:((x<k/\y<=c)\/(x=k/\y<k))/\x≠y
 ·rw [if_pos h1,if_pos VJ]
 ·rw [if_neg h1,if_neg VJ]
theorem Xf3(c k:Nat)(x y:Nat):ini c k (c+1) x y=ini c (k+1) 0 x y:=by
 unfold ini;by_cases h1:((x<k/\y<=c)\/(x=k/\y<c+1))/\x≠y
 ·rw [if_pos h1,if_pos VJ]
 ·rw [if_neg h1,if_neg VJ]
abbrev rds(n:Nat)(a b u v:Nat->Int):AV:= .lst 4 n (λk=>[i (a k),i (b k),i (u k),i (v k)])
abbrev QV:AV:=AV.x (.pointer none)
abbrev X5(n:Nat)(a:Nat->Int)(b:Nat->Int)(u:Nat->Int)(v:Nat->Int):AV:=lst 4 n λk=>[iI (a k),iI (b k),iI (u k),iI (v k)]
section
variable (c:Nat)(T U O:Int)(n:Nat)(a b u v:Nat->Int)
def Zq0:St:={σ:=[agg [iI (c:Int),iI T,iI U,iI O],X5 n a b u v,ptr 0 0,top,QV,AV.lit false,ptr 5 0]++HH 15 [iI ((c:Int)+1)]++HH 155 [],m:=[(5,GN.ints 301 [] 125 λa=>U8 ([(c:Int),T,U,O]++aY 121) a),(0,GN.cells 49 [iI (c:Int),iI T,iI U,iI O])],nx:=11}
noncomputable def Zs2:Code:=U9 (VS (U7 Tryz.f158) 0)
def Wg3(k:Nat):St:=(upE [(23,i k)] [(5,.ints 301 [] 125 (UC c T U O (ini c k 0))),(0,.cells 49 [i c,i T,i U,i O])] (Zq0 c T U O n a b u v))
def CD(k:Nat):G7->Option St
 | .exit 0=>some (upE [(23,i ((c:Int)+1))] [(5,.ints 301 [] 125 (UC c T U O (ini c (c+1) 0))),(0,.cells 49 [i c,i T,i U,i O])] (Zq0 c T U O n a b u v))
 |_=>none
def Jk5:CT:= .leaf (.exit 0,(CD c T U O n a b u v 0 (.exit 0)).getD (Zq0 c T U O n a b u v))
def Xv0:UI:=GK [] (HG (Wg3 c T U O n a b u v (0)) (Jk5 c T U O n a b u v))
def Zp9(k:Nat):St:={σ:=[agg [iI (c:Int),iI T,iI U,iI O],X5 n a b u v,ptr 0 0,top,QV,AV.lit false,ptr 5 0,iI (k:Int)]++HH 14 [iI ((c:Int)+1),iI (k:Int),top,top,top,top,iI ((c:Int)+1)]++HH 149 [],m:=[(5,GN.ints 301 [] 125 λk_1=>UC (c:Int) T U O (ini c k 0) k_1),(0,GN.cells 49 [iI (c:Int),iI T,iI U,iI O])],nx:=18}
noncomputable def Jp1:Code:=(U9 (VS (U9 (VS (U7 Tryz.f158) 0)) 0))
def Wg2(k:Nat)(j:Nat):St:=(upE [(29,i j)] [(5,.ints 301 [] 125 (UC c T U O (ini c k j))),(0,.cells 49 [i c,i T,i U,i O])] (Zp9 c T U O n a b u v k))
def CC(k:Nat)(j:Nat):G7->Option St
 | .exit 2=>some (upE [(29,i ((c:Int)+1))] [(5,.ints 301 [] 125 (UC c T U O (ini c k (c+1)))),(0,.cells 49 [i c,i T,i U,i O])] (Zp9 c T U O n a b u v k))
 |_=>none
def Jk4(k:Nat):CT:= .leaf (.exit 2,(CC c T U O n a b u v k 0 (.exit 2)).getD (Zp9 c T U O n a b u v k))
def Xu9(k:Nat):UI:=GK [] (HG (Wg2 c T U O n a b u v k (0)) (Jk4 c T U O n a b u v k))
end
abbrev Q4(n:Nat)(a:Nat->Int)(b:Nat->Int)(u:Nat->Int)(v:Nat->Int):Prop:=(X5 n a b u v)=lst 4 n λk=>[iI (a k),iI (b k),iI (u k),iI (v k)]
abbrev X6:Prop:=AV.lit false=AV.lit false
noncomputable abbrev XF:Ext:={R:=[],H:=[(194,Qh4)] }
abbrev XI:Prop:=ptr 0 0=ptr 0 0
abbrev XU:Prop:=ptr 5 0=ptr 5 0
section
variable (c:Nat)(T U O:Int)(n:Nat)(a b u v:Nat->Int)
theorem Ja2(k:Nat)(VR:1<=c/\c<=10)(UE:1<=U/\U<=O/\O<=200/\1<=T/\T<=2000)(HQ:k<=c):G8 VO (.loop Jp1) (Xu9 c T U O n a b u v k):=by
 refine UV [] (L:=[]) (Ae LR Aa) (Ai Ab (Ag LI Ac)) VY U3 (X:=Nat) (Wg2 c T U O n a b u v k) (λj=>j<=c+1) (λj=>c+1-j) (CC c T U O n a b u v k) (x0:=0) VV ?_ ?_ ?_
 ·rintro j;kernel_rfl
 ·rintro j y E h;unfold CC at h;split at h
  ·cases h;kernel_rfl
  ·cases h
 ·rintro Q hQ j hx;refine ⟨(j+1),?_⟩;(with_reducible refine DH (t:=let A:=(VZ ((c:Int)+1));let W:=(VZ (agg [iI (c:Int),iI T,iI U,iI O]));(branch (decide ((j:Int)<(c:Int)+1)) (branch ((k:Int) != (j:Int)) (need [UJ k 11] (need [UJ j 11] (need [j*1+(k*11+4)+1<=125] (need [VL ((j:Int)+1)] (need [W,Q4 n a b u v,XI,QV=QV,X6,XU,VZ (k:Int),A,VZ (k:Int),A,(j:Int)+1=(↑(j+1):Int),125=125,GU 125 (UR (j*1+(k*11+4)) (2000:Int) (UC (c:Int) T U O (ini c k j))) (UC (c:Int) T U O (ini c k (j+1))),VZ (c:Int),T=T,U=U,O=O] (leaf G7.normal)))))) (need [VL ((j:Int)+1)] (need [W,Q4 n a b u v,XI,QV=QV,X6,XU,VZ (k:Int),A,VZ (k:Int),A,(j:Int)+1=(↑(j+1):Int),125=125,GU 125 (UC (c:Int) T U O (ini c k j)) (UC (c:Int) T U O (ini c k (j+1))),VZ (c:Int),T=T,U=U,O=O] (leaf G7.normal)))) (need [W,Q4 n a b u v,XI,QV=QV,X6,XU,VZ (k:Int),A,VZ (k:Int),A,(j:Int)=(c:Int)+1,125=125,GU 125 (UC (c:Int) T U O (ini c k j)) (UC (c:Int) T U O (ini c k (c+1))),VZ (c:Int),T=T,U=U,O=O] (leaf (G7.exit 2))))) VT ?_);simp only [Jk4,CC,VM.sat,GT] at hQ;simp only [VM.sat,UB,G4,GJ,UD,VL,UH,HA,FY,RA,RW,GL,CC]
  refine ⟨λh=>⟨λhne=>?_,λheq=>?_⟩,λh=>?_⟩
  ·(with_reducible repeat' first|apply Al|intro _)
   all_goals first|exact P3|(exact (bR c T U O _ VJ VJ _ _).trans (yT c T U O (λx y _ _=>Wj0 c k j VJ VJ x y) (by assumption)))
  ·obtain rfl:k=j:=VJ
   (with_reducible repeat' first|apply Al|intro _)
   all_goals first|exact P3|(exact yT c T U O (λx y _ _=>Wj1 c k x y) (by assumption))
  ·obtain rfl:j=c+1:=VJ
   (with_reducible repeat' first|apply Al|intro _)
   all_goals first|exact Ak|omega|with_reducible rfl|(rename_i E hE;cases hE;exact hQ)|rfl
theorem Ja3(VR:1<=c/\c<=10)(UE:1<=U/\U<=O/\O<=200/\1<=T/\T<=2000):G8 VO (.loop Zs2) (Xv0 c T U O n a b u v):=by
 refine UV [] (L:=[B4 7 (λk=>FO [k<=c] (Xu9 c T U O n a b u v k))]) (Ae LR Aa) (Ai Ab (Ag LI Ac)) VY (G0 (λcj hcj=>by
  have e:VS Zs2 0=some (.loop Jp1):=VT;rw [e] at hcj;cases hcj;exact L2 (λk=>D2 (λh=>Ja2 c T U O n a b u v k VR UE h)))) (X:=Nat) (Wg3 c T U O n a b u v) (λk=>k<=c+1) (λk=>c+1-k) (CD c T U O n a b u v) (x0:=0) VV ?_ ?_ ?_
 ·rintro k;kernel_rfl
 ·rintro k y E h;unfold CD at h;split at h
  ·cases h;kernel_rfl
  ·cases h
 ·rintro Q hQ k hx;refine ⟨(k+1),?_⟩;(with_reducible refine DH (t:=let A:=(VZ (agg [iI (c:Int),iI T,iI U,iI O]));let W:=(VZ ((c:Int)+1));(branch (decide ((k:Int)<(c:Int)+1)) (need [VL ((c:Int)+1)] (need [k<=c] (need [A,Q4 n a b u v,XI,QV=QV,X6,XU,VZ (k:Int),W,VZ (k:Int),W,(0:Int)=(↑(0:Nat):Int),125=125,GO 125 (UC (c:Int) T U O (ini c k 0)),VZ (c:Int),T=T,U=U,O=O] (need [VL ((k:Int)+1)] (need [A,Q4 n a b u v,XI,QV=QV,X6,XU,W,(k:Int)+1=(↑(k+1):Int),125=125,GU 125 (UC (c:Int) T U O (ini c k (c+1))) (UC (c:Int) T U O (ini c (k+1) 0)),VZ (c:Int),T=T,U=U,O=O] (leaf G7.normal)))))) (need [A,Q4 n a b u v,XI,QV=QV,X6,XU,W,(k:Int)=(c:Int)+1,125=125,GU 125 (UC (c:Int) T U O (ini c k 0)) (UC (c:Int) T U O (ini c (c+1) 0)),VZ (c:Int),T=T,U=U,O=O] (leaf (G7.exit 0))))) VT ?_);simp only [Jk5,CD,VM.sat,GT] at hQ;simp only [VM.sat,UB,G4,GJ,UD,VL,UH,HA,FY,RA,RW,GL,CD]
  refine ⟨λh=>?_,λh=>?_⟩
  ·(with_reducible repeat' first|apply Al|intro _)
   all_goals first|exact P3|(exact yT c T U O (λx y _ _=>Xf3 c k x y) (by assumption))
  ·obtain rfl:k=c+1:=VJ
   (with_reducible repeat' first|apply Al|intro _)
   all_goals first|exact Ak|omega|with_reducible rfl|(rename_i E hE;cases hE;exact hQ)|rfl
end
def cel(c:Nat)(U O:Int):Nat->Nat->Nat->Int
 | 0=>ini c (c+1) 0
 |k+1=>bnd (bnd (cel c U O k) k (k+1) O) (k+1) k (-U)
theorem zN{c T U O:Int}{M:Nat->Nat->Int}{a b q:Nat}{v:Int}(hq:q=4+a*11+b)(hb:b<11):UR q (min (UC c T U O M q) v) (UC c T U O M)=UC c T U O (bnd M a b v):=by
 funext k;rw [bR c T U O M hq hb,BY c T U O M hq hb];rfl
section
variable (c:Nat)(T U O:Int)(n:Nat)(a b u v:Nat->Int)
def Zp8:St:={σ:=[agg [iI (c:Int),iI T,iI U,iI O],X5 n a b u v,ptr 0 0,top,QV,AV.lit false,ptr 5 0]++HH 15 [iI ((c:Int)+1),iI ((c:Int)+1)]++HH 21 [iI (c:Int)]++HH 132 [],m:=[(5,GN.ints 301 [] 125 λk=>UC (c:Int) T U O (ini c (c+1) 0) k),(0,GN.cells 49 [iI (c:Int),iI T,iI U,iI O])],nx:=14}
noncomputable def Jp0:Code:=U9 (VS (U7 Tryz.f158) 1)
def Wg1(k:Nat):St:=(upE [(46,i k)] [(5,.ints 301 [] 125 (UC c T U O (cel c U O k))),(0,.cells 49 [i c,i T,i U,i O])] (Zp8 c T U O n a b u v))
def CB(k:Nat):G7->Option St
 | .exit 4=>some (upE [(46,i c)] [(5,.ints 301 [] 125 (UC c T U O (cel c U O c))),(0,.cells 49 [i c,i T,i U,i O])] (Zp8 c T U O n a b u v))
 |_=>none
def Jk3:CT:= .leaf (.exit 4,(CB c T U O n a b u v 0 (.exit 4)).getD (Zp8 c T U O n a b u v))
def Xu8:UI:=GK [] (HG (Wg1 c T U O n a b u v (0)) (Jk3 c T U O n a b u v))
theorem Ja1(VR:1<=c/\c<=10)(UE:1<=U/\U<=O/\O<=200/\1<=T/\T<=2000):G8 VO (.loop Jp0) (Xu8 c T U O n a b u v):=by
 refine UV [] (L:=[]) (Ae LR Aa) (Ai Ab (Ag LI Ac)) VY U3 (X:=Nat) (Wg1 c T U O n a b u v) (λk=>k<=c) (λk=>c-k) (CB c T U O n a b u v) (x0:=0) VV ?_ ?_ ?_
 ·rintro k;kernel_rfl
 ·rintro k y E h;unfold CB at h;split at h
  ·cases h;kernel_rfl
  ·cases h
 ·rintro Q hQ k hx;refine ⟨(k+1),?_⟩;(with_reducible refine DH (t:=let A:=(UC (c:Int) T U O (cel c U O k) (((k:Int)+1).toNat*1+(k*11+4)));let W:=(UR (((k:Int)+1).toNat*1+(k*11+4)) (min A O) (UC (c:Int) T U O (cel c U O k)) (k*1+(((k:Int)+1).toNat*11+4)));let z2:=(VZ ((c:Int)+1));(branch (decide ((k:Int)<(c:Int))) (need [VL ((k:Int)+1)] (need [UJ k 11] (need [UJ ((k:Int)+1) 11] (need [((k:Int)+1).toNat*1+(k*11+4)<125] (need [UJ k 11] (need [UJ ((k:Int)+1) 11] (need [((k:Int)+1).toNat*1+(k*11+4)+List.length [min A O]<=125] (need [VL ((k:Int)+1)] (need [VL (-U)] (need [UJ ((k:Int)+1) 11] (need [UJ k 11] (need [k*1+(((k:Int)+1).toNat*11+4)<125] (need [UJ ((k:Int)+1) 11] (need [UJ k 11] (need [k*1+(((k:Int)+1).toNat*11+4)+List.length [min W (-U)]<=125] (need [VL ((k:Int)+1)] (need [VZ (agg [iI (c:Int),iI T,iI U,iI O]),Q4 n a b u v,XI,QV=QV,X6,XU,z2,z2,VZ (c:Int),(k:Int)+1=(↑(k+1):Int),125=125,GU 125 (UR (k*1+(((k:Int)+1).toNat*11+4)) (min W (-U)) (zY (((k:Int)+1).toNat*1+(k*11+4)) [min A O] (UC (c:Int) T U O (cel c U O k)))) (UC (c:Int) T U O (cel c U O (k+1))),VZ (c:Int),T=T,U=U,O=O] (leaf G7.normal)))))))))))))))))) (need [VZ (agg [iI (c:Int),iI T,iI U,iI O]),Q4 n a b u v,XI,QV=QV,X6,XU,z2,z2,VZ (c:Int),(k:Int)=(c:Int),125=125,GU 125 (UC (c:Int) T U O (cel c U O k)) (UC (c:Int) T U O (cel c U O c)),VZ (c:Int),T=T,U=U,O=O] (leaf (G7.exit 4))))) VT ?_);simp only [Jk3,CB,VM.sat,GT] at hQ;simp only [VM.sat,UB,G4,GJ,UD,VL,UH,HA,FY,RA,RW,GL,CB]
  refine ⟨λh=>?_,λh=>?_⟩
  ·have h1: ∀M v,UR (((k:Int)+1).toNat*1+(k*11+4)) (min (UC c T U O M (((k:Int)+1).toNat*1+(k*11+4))) v) (UC c T U O M)=UC c T U O (bnd M k (k+1) v):=λM v=>zN VJ VJ
   have h2: ∀M v,UR (k*1+(((k:Int)+1).toNat*11+4)) (min (UC c T U O M (k*1+(((k:Int)+1).toNat*11+4))) v) (UC c T U O M)=UC c T U O (bnd M (k+1) k v):=λM v=>zN VJ VJ
   simp only [h1,h2]
   (with_reducible repeat' first|apply Al|intro _)
   all_goals first|exact Ak|omega|with_reducible rfl|(rename_i E hE;cases hE;exact hQ)|rfl
  ·obtain rfl:k=c:=VJ
   (with_reducible repeat' first|apply Al|intro _)
   all_goals first|exact Ak|omega|with_reducible rfl|(rename_i E hE;cases hE;exact hQ)|rfl
end
def rdS(c:Nat)(M:Nat->Nat->Int)(a b u v:Int):Nat->Nat->Int:=if b<(c:Int) then bnd (bnd M a.toNat b.toNat v) (b+1).toNat a.toNat (-u-1) else bnd M a.toNat b.toNat v
def rdM(c:Nat)(T U O:Int)(a b u v:Nat->Int):Nat->Nat->Nat->Int
 | 0=>bnd (bnd (cel c U O c) 0 c T) c 0 (-T)
 |j+1=>rdS c (rdM c T U O a b u v j) (a j) (b j) (u j) (v j)
def rdV(a b u v:Int):Value:= .agg #[.int .i64 a,.int .i64 b,.int .i64 u,.int .i64 v]
def sn(a b u v:Nat->Int)(k:Nat)(x:Value):Prop:= ∃j,j<k/\x=rdV (a j) (b j) (u j) (v j)
def Jc7(x:Value):Prop:= ∃a b u v,x=rdV a b u v
theorem Qz7(a b u v:Int)(e:UK)(w:World):Rep e w (.agg [i a,i b,i u,i v]) (rdV a b u v):=
 Rep.aggL (U2.cons (.x _) (U2.cons (.x _) (U2.cons (.x _) (U2.one (.x _)))))
theorem Ql0(a b u v:Int):FB Tryz.prog 303 Jc7 (rdV a b u v) (.bool false):=by
 refine ⟨⟨145,4,(match Tryz.prog.underlying 145 with|some (.struct fs)=>fs|_=>#[]),VT,VT,?_,?_,?_⟩,by simp [Instr.sameBits,rdV]⟩
 ·intro b' w;kernel_rfl
 ·rintro k' ⟨a',b',u',v',rfl⟩ w;refine ⟨a==a'&&(b==b'&&(u==u'&&(v==v'&&true)&&true)),xE (P:=Tryz.prog) (e:=PB w w) Op.maxDepth 145 (.agg [i a,i b,i u,i v]) (.agg [i a',i b',i u',i v']) _ _ _ VT (Qz7 ..) (Qz7 ..),λh=>?_⟩
  simp only [Bool.and_true,H6,beq_iff_eq] at h;obtain ⟨rfl,rfl,rfl,rfl⟩:=h;rfl
 ·intro w;kernel_rfl
theorem Xq3{a b u v:Nat->Int}{k:Nat}{x:Value}(h:sn a b u v k x):Jc7 x:=by
 obtain ⟨j,_,h⟩:=h;exact ⟨_,_,_,_,h⟩
section
variable (M:Nat->Nat->Int)(a b:Nat)(v:Int)
theorem wJ(x y:Nat):bnd M a b v x y<=M x y:=by
 unfold bnd wS;split
 ·rename_i h;rw [h.1,h.2];omega
 ·omega
theorem a9:bnd M a b v a b<=v:=by
 unfold bnd wS;rw [if_pos ⟨rfl,rfl⟩];omega
end
theorem Wr8{M:Nat->Nat->Int}{a b:Nat}{v:Int}(h:M a b<=v):bnd M a b v=M:=by
 funext x y;unfold bnd wS;split
 ·rename_i h';rw [h'.1,h'.2];omega
 ·rfl
section
variable (c:Nat)(M:Nat->Nat->Int)(a b u v:Int)
theorem Zg0(x y:Nat):rdS c M a b u v x y<=M x y:=by
 unfold rdS;split
 ·exact Int.le_trans (wJ _ _ _ _ _ _) (wJ _ _ _ _ _ _)
 ·exact wJ _ _ _ _ _ _
theorem Zg2:rdS c M a b u v a.toNat b.toNat<=v/\(b<c->rdS c M a b u v (b+1).toNat a.toNat<= -u-1):=by
 unfold rdS;split
 ·exact ⟨Int.le_trans (wJ _ _ _ _ _ _) (a9 _ _ _ _),λ_=>a9 _ _ _ _⟩
 ·exact ⟨a9 _ _ _ _,λh=>VJ⟩
end
theorem Zg1{c:Nat}{M:Nat->Nat->Int}{a b u v:Int}(h:M a.toNat b.toNat<=v)(h2:b<c->M (b+1).toNat a.toNat<= -u-1):rdS c M a b u v=M:=by
 unfold rdS;rw [Wr8 h];split
 ·rename_i hb;exact Wr8 (h2 hb)
 ·rfl
theorem AY(c:Nat)(T U O:Int)(a b u v:Nat->Int)(j:Nat): ∀(k:Nat),j<=k-> ∀x y,rdM c T U O a b u v k x y<=rdM c T U O a b u v j x y
 | 0,h,x,y=>by
           obtain rfl:j=0:=VJ;exact Int.le_refl _
 |k+1,h,x,y=>by
  rcases (show j=k+1\/j<=k by omega) with rfl|h
  ·exact Int.le_refl _
  ·exact Int.le_trans (Zg0 _ _ _ _ _ _ _ _) (AY c T U O a b u v j k h x y)
theorem Wa3{c:Nat}{T U O:Int}{a b u v:Nat->Int}{k:Nat}(h:sn a b u v k (rdV (a k) (b k) (u k) (v k))):rdM c T U O a b u v (k+1)=rdM c T U O a b u v k:=by
 obtain ⟨j,hj,he⟩:=h;unfold rdV at he;injection he with he
 injection he with he
 have e:a k=a j/\b k=b j/\u k=u j/\v k=v j:=by simpa using he
 have h1:=Zg2 c (rdM c T U O a b u v j) (a j) (b j) (u j) (v j);have m:=AY c T U O a b u v (j+1) k VJ;refine Zg1 ?_ (λhb=>?_)
 ·rw [e.1,e.2.1,e.2.2.2];exact Int.le_trans (m _ _) h1.1
 ·rw [e.1,e.2.1,e.2.2.1];exact Int.le_trans (m _ _) (h1.2 (by rw [←e.2.1];exact hb))
section
variable (c:Nat)(T U O:Int)(n:Nat)(a b u v:Nat->Int)
def Zp7:St:={σ:=[agg [iI (c:Int),iI T,iI U,iI O],X5 n a b u v,ptr 0 0,top,QV,AV.lit false,ptr 5 0,top,top,top,AV.mp 63]++HH 11 [iI ((c:Int)+1),iI ((c:Int)+1)]++HH 21 [iI (c:Int),iI (c:Int)]++HH 34 [X5 n a b u v,iI (n:Int)]++HH 95 [],m:=[(63,GN.memo (λx=>False) λv=>v),(56,GN.row 3 1 2 (U4 1 [iI (UR (c*1+4) (min (UC (c:Int) T U O (cel c U O c) (c*1+4)) T) (UC (c:Int) T U O (cel c U O c)) (0+(c*11+4))),iI (-T)])),(31,GN.row 3 1 2 (U4 1 [iI (UC (c:Int) T U O (cel c U O c) (c*1+4)),iI T])),(5,GN.ints 301 [] 125 λa=>UR (0+(c*11+4)) (min (UR (c*1+4) (min (UC (c:Int) T U O (cel c U O c) (c*1+4)) T) (UC (c:Int) T U O (cel c U O c)) (0+(c*11+4))) (-T)) (zY (c*1+4) [min (UC (c:Int) T U O (cel c U O c) (c*1+4)) T] (UC (c:Int) T U O (cel c U O c))) a),(0,GN.cells 49 [iI (c:Int),iI T,iI U,iI O])],nx:=68}
noncomputable def Jo9:Code:=U9 (VS (U7 Tryz.f158) 2)
def Wg0(k:Nat):St:=(upE [(83,i k)] [(5,.ints 301 [] 125 (UC c T U O (rdM c T U O a b u v k))),(0,.cells 49 [i c,i T,i U,i O]),(63,.memo (sn a b u v k) (λ_=> .bool true))] (Zp7 c T U O n a b u v))
def CA(k:Nat):G7->Option St
 | .exit 6=>some (upE [(83,i n)] [(5,.ints 301 [] 125 (UC c T U O (rdM c T U O a b u v n))),(0,.cells 49 [i c,i T,i U,i O]),(63,.memo (sn a b u v n) (λ_=> .bool true))] (Zp7 c T U O n a b u v))
 |_=>none
def Jk2:CT:= .leaf (.exit 6,(CA c T U O n a b u v 0 (.exit 6)).getD (Zp7 c T U O n a b u v))
def Xu7:UI:=GK [] (HG (Wg0 c T U O n a b u v (0)) (Jk2 c T U O n a b u v))
abbrev ZG:Prop:=AV.mp 63=AV.mp 63
theorem Zz9(VR:1<=c/\c<=10)(UE:1<=U/\U<=O/\O<=200/\1<=T/\T<=2000)(HQ:n<=1000)(F1:D5 (λk=>rdB c (a k) (b k) (u k) (v k)) n=true):G8 VO (.loop Jo9) (Xu7 c T U O n a b u v):=by
 refine UV [] (L:=[]) (Ae LR Aa) (Ai Ab (Ag LI Ac)) VY U3 (X:=Nat) (Wg0 c T U O n a b u v) (λk=>k<=n) (λk=>n-k) (CA c T U O n a b u v) (x0:=0) VV ?_ ?_ ?_
 ·rintro k;kernel_rfl
 ·rintro k y E h;unfold CA at h;split at h
  ·cases h;kernel_rfl
  ·cases h
 ·rintro Q hQ k hx;refine ⟨(k+1),?_⟩;(with_reducible refine DH (t:=let z9:=sn a b u v k;let z3:=(Value.agg #[Value.int IntKind.i64 (a k),Value.int IntKind.i64 (b k),Value.int IntKind.i64 (u k),Value.int IntKind.i64 (v k)]);let z7:=(rdM c T U O a b u v k);let z2:=(UC (c:Int) T U O z7 ((b k).toNat*1+((a k).toNat*11+4)));let z10:=(UC (c:Int) T U O z7);let z5:=(UR ((b k).toNat*1+((a k).toNat*11+4)) (min z2 (v k)) z10 ((a k).toNat*1+((b k+1).toNat*11+4)));let z6:=(VZ (agg [iI (c:Int),iI T,iI U,iI O]));let z8:=Q4 n a b u v;let z4:=(VZ ((c:Int)+1));let z11:=(rdM c T U O a b u v (k+1));let A:=(need [∀(u_1:Value),z9 u_1->Value.bool true=Value.bool true,FB Tryz.prog 303 (λu_1=>z9 u_1\/u_1=Value.agg #[Value.int IntKind.i64 (a k),Value.int IntKind.i64 (b k),Value.int IntKind.i64 (u k),Value.int IntKind.i64 (v k)]) z3 (YG)] (need [UJ (a k) 11] (need [UJ (b k) 11] (need [(b k).toNat*1+((a k).toNat*11+4)<125] (need [UJ (a k) 11] (need [UJ (b k) 11] (need [(b k).toNat*1+((a k).toNat*11+4)+List.length [min z2 (v k)]<=125] (branch (decide (b k<(c:Int))) (need [VL (b k+1)] (need [VL (-u k)] (need [VL (-u k-1)] (need [UJ (b k+1) 11] (need [UJ (a k) 11] (need [(a k).toNat*1+((b k+1).toNat*11+4)<125] (need [UJ (b k+1) 11] (need [UJ (a k) 11] (need [(a k).toNat*1+((b k+1).toNat*11+4)+List.length [min z5 (-u k-1)]<=125] (need [VL ((k:Int)+1)] (need [z6,z8,XI,QV=QV,X6,XU,ZG,z4,z4,VZ (c:Int),VZ (c:Int),z8,VZ (n:Int),(k:Int)+1=(↑(k+1):Int),125=125,GU 125 (UR ((a k).toNat*1+((b k+1).toNat*11+4)) (min z5 (-u k-1)) (zY ((b k).toNat*1+((a k).toNat*11+4)) [min z2 (v k)] z10)) (UC (c:Int) T U O z11),VZ (c:Int),T=T,U=U,O=O,∀(k_1:Value),z9 k_1\/k_1=Value.agg #[Value.int IntKind.i64 (a k),Value.int IntKind.i64 (b k),Value.int IntKind.i64 (u k),Value.int IntKind.i64 (v k)]->sn a b u v (k+1) k_1/\Value.bool true=Value.bool true] (leaf G7.normal)))))))))))) (need [VL ((k:Int)+1)] (need [z6,z8,XI,QV=QV,X6,XU,ZG,z4,z4,VZ (c:Int),VZ (c:Int),z8,VZ (n:Int),(k:Int)+1=(↑(k+1):Int),125=125,GU 125 (UR ((b k).toNat*1+((a k).toNat*11+4)) (min z2 (v k)) z10) (UC (c:Int) T U O z11),VZ (c:Int),T=T,U=U,O=O,∀(k_1:Value),z9 k_1\/k_1=Value.agg #[Value.int IntKind.i64 (a k),Value.int IntKind.i64 (b k),Value.int IntKind.i64 (u k),Value.int IntKind.i64 (v k)]->sn a b u v (k+1) k_1/\Value.bool true=Value.bool true] (leaf G7.normal)))))))))));let W:=(need [VL ((k:Int)+1)] (need [z6,z8,XI,QV=QV,X6,XU,ZG,z4,z4,VZ (c:Int),VZ (c:Int),z8,VZ (n:Int),(k:Int)+1=(↑(k+1):Int),125=125,GU 125 (UC (c:Int) T U O z7) (UC (c:Int) T U O z11),VZ (c:Int),T=T,U=U,O=O,∀(k_1:Value),z9 k_1->sn a b u v (k+1) k_1/\Value.bool true=Value.bool true] (leaf G7.normal)));(branch (decide ((k:Int)<(n:Int))) (need [UJ k n] (need [FB Tryz.prog 303 (z9) z3 (YG)] (VM.may (z9 z3) (branch true W A) (branch false W A)))) (need [z6,z8,XI,QV=QV,X6,XU,ZG,z4,z4,VZ (c:Int),VZ (c:Int),z8,VZ (n:Int),(k:Int)=(n:Int),125=125,GU 125 (UC (c:Int) T U O z7) (UC (c:Int) T U O (rdM c T U O a b u v n)),VZ (c:Int),T=T,U=U,O=O,∀(k_1:Value),z9 k_1->sn a b u v n k_1/\Value.bool true=Value.bool true] (leaf (G7.exit 6))))) VT ?_)
  simp only [Jk2,CA,VM.sat,GT] at hQ;simp only [VM.sat,UB,G4,GJ,UD,VL,UH,HA,FY,RA,RW,GL,CA]
  have hv: ∀j,j<n->(0<=a j/\a j<=c-1)/\(a j<=b j/\b j<=c)/\0<=u j/\u j<=v j/\v j<=2000:=by
   intro j hj;have:=GR.1 F1 j hj;simp only [rdB,H6,bt_iff,insB_iff] at this;omega
  refine ⟨λh=>?_,λh=>?_⟩
  ·have hk:=hv k VJ;have mk:=Ql0 (a k) (b k) (u k) (v k);have q1:FB Tryz.prog 303 (sn a b u v k) (rdV (a k) (b k) (u k) (v k)) (.bool false):=mk.mono (λx hx=>Xq3 hx)
   have q2:FB Tryz.prog 303 (λx=>sn a b u v k x\/x=rdV (a k) (b k) (u k) (v k)) (rdV (a k) (b k) (u k) (v k)) (.bool false):=mk.mono (λx hx=>hx.elim Xq3 (λhe=>⟨_,_,_,_,he⟩))
   have sn1: ∀x,sn a b u v k x->sn a b u v (k+1) x:=λx ⟨j,hj,he⟩=>⟨j,VJ,he⟩
   have sn2:sn a b u v (k+1) (rdV (a k) (b k) (u k) (v k)):=⟨k,VJ,rfl⟩;refine ⟨VJ,q1,λhs=>⟨λ_=>?_,λhc=>absurd hc (by decide)⟩,λhc=>absurd hc (by decide),λ_=>?_⟩
   ·rw [Wa3 hs]
    (with_reducible repeat' first|apply Al|intro _)
    all_goals first|exact P3|(exact sn1 _ (by assumption))
   ·have h1: ∀M w,UR ((b k).toNat*1+((a k).toNat*11+4)) (min (UC c T U O M ((b k).toNat*1+((a k).toNat*11+4))) w) (UC c T U O M)=UC c T U O (bnd M (a k).toNat (b k).toNat w):=λM w=>zN VJ VJ
    refine ⟨⟨λ_ _=>trivial,q2⟩,?_⟩
    simp only [h1];refine ⟨VJ,VJ,VJ,VJ,VJ,VJ,λhb=>?_,λhb=>?_⟩
    ·have h2: ∀M w,UR ((a k).toNat*1+((b k+1).toNat*11+4)) (min (UC c T U O M ((a k).toNat*1+((b k+1).toNat*11+4))) w) (UC c T U O M)=UC c T U O (bnd M (b k+1).toNat (a k).toNat w):=λM w=>zN VJ VJ
     have e3:rdM c T U O a b u v (k+1)=bnd (bnd (rdM c T U O a b u v k) (a k).toNat (b k).toNat (v k)) (b k+1).toNat (a k).toNat (-u k-1):=by
      show rdS _ _ _ _ _ _=_;unfold rdS;rw [if_pos hb]
     simp only [h2,e3];exact VH
    ·have e3:rdM c T U O a b u v (k+1)=bnd (rdM c T U O a b u v k) (a k).toNat (b k).toNat (v k):=by
      show rdS _ _ _ _ _ _=_;unfold rdS;rw [if_neg hb]
     simp only [e3];exact VH
  ·obtain rfl:k=n:=VJ
   (with_reducible repeat' first|apply Al|intro _)
   all_goals first|exact P3|(assumption)
end
def fwS(M:Nat->Nat->Int)(o f t:Nat):Nat->Nat->Int:=bnd M f t (M f o+M o t)
def fwT(M:Nat->Nat->Int)(o f:Nat):Nat->Nat->Nat->Int
 | 0=>M
 |t+1=>fwS (fwT M o f t) o f t
def fwF(c:Nat)(M:Nat->Nat->Int)(o:Nat):Nat->Nat->Nat->Int
 | 0=>M
 |f+1=>fwT (fwF c M o f) o f (c+1)
def fwO(c:Nat)(M:Nat->Nat->Int):Nat->Nat->Nat->Int
 | 0=>M
 |o+1=>fwF c (fwO c M o) o (c+1)
def LB(B:Int)(M:Nat->Nat->Int):Prop:= ∀x y,-B<=M x y/\M x y<=2000
def JB(B:Int)(o f t:Nat)(M:Nat->Nat->Int):Prop:= ∀x y,M x y<=2000/\ -(6*B)<=M x y/\(x=o-> -(3*B)<=M x y)/\(y=o-> -(3*B)<=M x y)/\(x=o->y=o-> -(2*B)<=M x y)/\(¬(x<f\/(x=f/\y<t))-> -B<=M x y)
theorem Wx7{B:Int}{o:Nat}{M:Nat->Nat->Int}(hB:0<=B)(h:LB B M):JB B o 0 0 M:=by
 intro x y;have:=h x y;refine ⟨VJ,VJ,λ_=>VJ,λ_=>VJ,λ_ _=>VJ,λ_=>VJ⟩
theorem Xm4{B:Int}{o f t:Nat}{M:Nat->Nat->Int}(hB:0<=B)(h:JB B o f t M):JB B o f (t+1) (fwS M o f t):=by
 have hft:=h f t;have hfo:=h f o;have hot:=h o t;have hoo:=h o o;have I:=hft.2.2.2.2.2 VJ;intro x y;have hxy:=h x y;unfold fwS bnd wS;by_cases hc:x=f/\y=t
 ·exact V2
 ·rw [if_neg hc];exact ⟨hxy.1,hxy.2.1,hxy.2.2.1,hxy.2.2.2.1,hxy.2.2.2.2.1,λhv=>hxy.2.2.2.2.2 VJ⟩
theorem Zo8{B:Int}{o f:Nat}{M:Nat->Nat->Int}(hB:0<=B)(h:JB B o f 0 M): ∀t,JB B o f t (fwT M o f t)
 | 0=>h
 |t+1=>Xm4 hB (Zo8 hB h t)
theorem Zo7{B:Int}{o f t:Nat}{M:Nat->Nat->Int}(h:JB B o f t M):JB B o (f+1) 0 M:=by
 intro x y;have hxy:=h x y;exact ⟨hxy.1,hxy.2.1,hxy.2.2.1,hxy.2.2.2.1,hxy.2.2.2.2.1,λhv=>hxy.2.2.2.2.2 VJ⟩
theorem Zo9{B:Int}{c o:Nat}{M:Nat->Nat->Int}(hB:0<=B)(h:LB B M): ∀f,JB B o f 0 (fwF c M o f)
 | 0=>Wx7 hB h
 |f+1=>Zo7 (Zo8 hB (Zo9 hB h f) (c+1))
theorem Zo6{c:Nat}{M:Nat->Nat->Int}(h:LB 2001 M): ∀o,LB (2001*6^o) (fwO c M o)
 | 0=>by
  rw [show (2001:Int)*6^0=2001 by decide]
  exact h
 |o+1=>by
  have ih:=Zo6 (c:=c) h o;have hp:(0:Int)<=2001*6^o:=Int.mul_nonneg VJ (Int.pow_nonneg VJ);have hj:=Zo9 (c:=c) (o:=o) hp ih (c+1);intro x y;have:=hj x y;have e:(2001:Int)*6^(o+1)=6*(2001*6^o):=by rw [Int.pow_succ];omega
  rw [e];exact ⟨this.2.1,this.1⟩
theorem Ja6: ∀o:Nat,o<=10->(6:Int)^o<=60466176:=by
 intro o ho;rcases (show o=0\/o=1\/o=2\/o=3\/o=4\/o=5\/o=6\/o=7\/o=8\/o=9\/o=10 by omega) with rfl|rfl|rfl|rfl|rfl|rfl|rfl|rfl|rfl|rfl|rfl<;>decide
theorem Jf9{c:Nat}{M:Nat->Nat->Int}(h:LB 2001 M){o f t:Nat}(ho:o<=10)(x y:Nat): -800000000000<=fwT (fwF c (fwO c M o) o f) o f t x y/\fwT (fwF c (fwO c M o) o f) o f t x y<=2000:=by
 have ih:=Zo6 (c:=c) h o;have hp:(0:Int)<=2001*6^o:=Int.mul_nonneg VJ (Int.pow_nonneg VJ);have hj:=Zo8 hp (Zo9 (c:=c) (o:=o) hp ih f) t x y;have:=Ja6 o ho;omega
theorem vO{B:Int}{M:Nat->Nat->Int}(h:LB B M){a b:Nat}{v:Int}(hv: -B<=v):LB B (bnd M a b v):=by
 intro x y;have h1:=h a b;have h2:=h x y;unfold bnd wS;split<;>omega
theorem Wr0{c:Nat}{U O:Int}(h:1<=U/\U<=O/\O<=200): ∀k,LB 2001 (cel c U O k)
 | 0=>by
  intro x y;unfold cel ini;split<;>omega
 |k+1=>vO (vO (Wr0 h k) VJ) VJ
theorem nC{c:Nat}{T U O:Int}{a b u v:Nat->Int}{n:Nat}(h:1<=U/\U<=O/\O<=200/\1<=T/\T<=2000)(hv: ∀j,j<n->0<=u j/\u j<=v j/\v j<=2000): ∀k,k<=n->LB 2001 (rdM c T U O a b u v k)
 | 0,_=>vO (vO (Wr0 VJ c) VJ) VJ
 |k+1,hk=>by
  have ih:=nC (c:=c) (a:=a) (b:=b) h hv k VJ;have:=hv k VJ;show LB 2001 (rdS _ _ _ _ _ _);unfold rdS;split
  ·exact vO (vO ih VJ) VJ
  ·exact vO ih VJ
section
variable (c:Nat)(T U O:Int)(n:Nat)(a b u v:Nat->Int)
def sP:St:={σ:=[agg [iI (c:Int),iI T,iI U,iI O],X5 n a b u v,ptr 0 0,top,QV,AV.lit false,ptr 5 0,top,top,top,AV.mp 63]++HH 11 [iI ((c:Int)+1),iI ((c:Int)+1)]++HH 21 [iI (c:Int),iI (c:Int)]++HH 34 [X5 n a b u v,iI (n:Int),iI (n:Int)]++HH 37 [iI ((c:Int)+1)]++HH 56 [],m:=[(5,GN.ints 301 [] 125 λk=>UC (c:Int) T U O (rdM c T U O a b u v n) k),(0,GN.cells 49 [iI (c:Int),iI T,iI U,iI O]),(63,GN.memo (λx=>sn a b u v n x) λx=>Value.bool true)],nx:=72}
noncomputable def Qs0:Code:=U9 (VS (U7 Tryz.f158) 3)
def EG(o:Nat):St:=(upE [(122,i o)] [(5,.ints 301 [] 125 (UC c T U O (fwO c (rdM c T U O a b u v n) o))),(0,.cells 49 [i c,i T,i U,i O])] (sP c T U O n a b u v))
def qC(o:Nat):G7->Option St
 | .exit 8=>some (upE [(122,i ((c:Int)+1))] [(5,.ints 301 [] 125 (UC c T U O (fwO c (rdM c T U O a b u v n) (c+1)))),(0,.cells 49 [i c,i T,i U,i O])] (sP c T U O n a b u v))
 |_=>none
def Wu1:CT:= .leaf (.exit 8,(qC c T U O n a b u v 0 (.exit 8)).getD (sP c T U O n a b u v))
def m8:UI:=GK [] (HG (EG c T U O n a b u v (0)) (Wu1 c T U O n a b u v))
def Zp6(o:Nat):St:={σ:=[agg [iI (c:Int),iI T,iI U,iI O],X5 n a b u v,ptr 0 0,top,QV,AV.lit false,ptr 5 0,top,top,top,AV.mp 63,top,top,iI (o:Int)]++HH 8 [iI ((c:Int)+1),iI ((c:Int)+1)]++HH 21 [iI (c:Int),iI (c:Int)]++HH 34 [X5 n a b u v,iI (n:Int),iI (n:Int)]++HH 37 [iI ((c:Int)+1),iI (o:Int),top,top,top,top,iI ((c:Int)+1)]++HH 50 [],m:=[(5,GN.ints 301 [] 125 λk=>UC (c:Int) T U O (fwO c (rdM c T U O a b u v n) o) k),(0,GN.cells 49 [iI (c:Int),iI T,iI U,iI O])],nx:=79}
noncomputable def Zs1:Code:=(U9 (VS (U9 (VS (U7 Tryz.f158) 3)) 0))
def Wf9(o:Nat)(f:Nat):St:=(upE [(128,i f)] [(5,.ints 301 [] 125 (UC c T U O (fwF c (fwO c (rdM c T U O a b u v n) o) o f))),(0,.cells 49 [i c,i T,i U,i O])] (Zp6 c T U O n a b u v o))
def C9(o:Nat)(f:Nat):G7->Option St
 | .exit 10=>some (upE [(128,i ((c:Int)+1))] [(5,.ints 301 [] 125 (UC c T U O (fwF c (fwO c (rdM c T U O a b u v n) o) o (c+1)))),(0,.cells 49 [i c,i T,i U,i O])] (Zp6 c T U O n a b u v o))
 |_=>none
def Jk1(o:Nat):CT:= .leaf (.exit 10,(C9 c T U O n a b u v o 0 (.exit 10)).getD (Zp6 c T U O n a b u v o))
def Xu6(o:Nat):UI:=GK [] (HG (Wf9 c T U O n a b u v o (0)) (Jk1 c T U O n a b u v o))
def aT(o:Nat)(f:Nat):St:={σ:=[agg [iI (c:Int),iI T,iI U,iI O],X5 n a b u v,ptr 0 0,top,QV,AV.lit false,ptr 5 0,top,top,top,AV.mp 63,top,top,iI (o:Int),iI (f:Int)]++HH 7 [iI ((c:Int)+1),iI ((c:Int)+1)]++HH 21 [iI (c:Int),iI (c:Int)]++HH 34 [X5 n a b u v,iI (n:Int),iI (n:Int)]++HH 37 [iI ((c:Int)+1),iI (o:Int),top,top,top,top,iI ((c:Int)+1),iI (f:Int),top,top,top,top,iI ((c:Int)+1)]++HH 44 [],m:=[(5,GN.ints 301 [] 125 λk=>UC (c:Int) T U O (fwF c (fwO c (rdM c T U O a b u v n) o) o f) k),(0,GN.cells 49 [iI (c:Int),iI T,iI U,iI O])],nx:=86}
noncomputable def Xa1:Code:=(U9 (VS (U9 (VS (U9 (VS (U7 Tryz.f158) 3)) 0)) 0))
def EE(o:Nat)(f:Nat)(t:Nat):St:=(upE [(134,i t)] [(5,.ints 301 [] 125 (UC c T U O (fwT (fwF c (fwO c (rdM c T U O a b u v n) o) o f) o f t))),(0,.cells 49 [i c,i T,i U,i O])] (aT c T U O n a b u v o f))
def PL(o:Nat)(f:Nat)(t:Nat):G7->Option St
 | .exit 12=>some (upE [(134,i ((c:Int)+1))] [(5,.ints 301 [] 125 (UC c T U O (fwT (fwF c (fwO c (rdM c T U O a b u v n) o) o f) o f (c+1)))),(0,.cells 49 [i c,i T,i U,i O])] (aT c T U O n a b u v o f))
 |_=>none
def Wu0(o:Nat)(f:Nat):CT:= .leaf (.exit 12,(PL c T U O n a b u v o f 0 (.exit 12)).getD (aT c T U O n a b u v o f))
def m7(o:Nat)(f:Nat):UI:=GK [] (HG (EE c T U O n a b u v o f (0)) (Wu0 c T U O n a b u v o f))
theorem Qz6(o:Nat)(f:Nat)(VR:1<=c/\c<=10)(UE:1<=U/\U<=O/\O<=200/\1<=T/\T<=2000)(HQ:n<=1000)(F1:D5 (λk=>rdB c (a k) (b k) (u k) (v k)) n=true)(BL:o<=c)(xX:f<=c):G8 VO (.loop Xa1) (m7 c T U O n a b u v o f):=by
 refine UV [] (L:=[]) (Ae LR Aa) (Ai Ab (Ag LI Ac)) VY U3 (X:=Nat) (EE c T U O n a b u v o f) (λt=>t<=c+1) (λt=>c+1-t) (PL c T U O n a b u v o f) (x0:=0) VV ?_ ?_ ?_
 ·rintro t;kernel_rfl
 ·rintro t y E h;unfold PL at h;split at h
  ·cases h;kernel_rfl
  ·cases h
 ·rintro Q hQ t hx;refine ⟨(t+1),?_⟩;(with_reducible refine DH (t:=let z2:=(fwF c (fwO c (rdM c T U O a b u v n) o) o f);let A:=(fwT z2 o f t);let W:=(VZ ((c:Int)+1));let z3:=(UC (c:Int) T U O A (t*1+(f*11+4)));(branch (decide ((t:Int)<(c:Int)+1)) (need [UJ f 11] (need [UJ o 11] (need [o*1+(f*11+4)<125] (need [UJ o 11] (need [UJ t 11] (need [t*1+(o*11+4)<125] (need [VL (UC (c:Int) T U O A (o*1+(f*11+4))+UC (c:Int) T U O A (t*1+(o*11+4)))] (need [UJ f 11] (need [UJ t 11] (need [t*1+(f*11+4)<125] (need [UJ f 11] (need [UJ t 11] (need [t*1+(f*11+4)+List.length [min z3 (UC (c:Int) T U O A (o*1+(f*11+4))+UC (c:Int) T U O A (t*1+(o*11+4)))]<=125] (need [VL ((t:Int)+1)] (need [VZ (agg [iI (c:Int),iI T,iI U,iI O]),Q4 n a b u v,XI,QV=QV,X6,XU,ZG,VZ (o:Int),VZ (f:Int),W,W,VZ (c:Int),VZ (c:Int),Q4 n a b u v,VZ (n:Int),VZ (n:Int),W,VZ (o:Int),W,VZ (f:Int),W,(t:Int)+1=(↑(t+1):Int),125=125,GU 125 (UR (t*1+(f*11+4)) (min z3 (UC (c:Int) T U O A (o*1+(f*11+4))+UC (c:Int) T U O A (t*1+(o*11+4)))) (UC (c:Int) T U O A)) (UC (c:Int) T U O (fwT z2 o f (t+1))),VZ (c:Int),T=T,U=U,O=O] (leaf G7.normal)))))))))))))))) (need [VZ (agg [iI (c:Int),iI T,iI U,iI O]),Q4 n a b u v,XI,QV=QV,X6,XU,ZG,VZ (o:Int),VZ (f:Int),W,W,VZ (c:Int),VZ (c:Int),Q4 n a b u v,VZ (n:Int),VZ (n:Int),W,VZ (o:Int),W,VZ (f:Int),W,(t:Int)=(c:Int)+1,125=125,GU 125 (UC (c:Int) T U O A) (UC (c:Int) T U O (fwT z2 o f (c+1))),VZ (c:Int),T=T,U=U,O=O] (leaf (G7.exit 12))))) VT ?_);simp only [Wu0,PL,VM.sat,GT] at hQ;simp only [VM.sat,UB,G4,GJ,UD,VL,UH,HA,FY,RA,RW,GL,PL]
  have hv: ∀j,j<n->0<=u j/\u j<=v j/\v j<=2000:=by
   intro j hj;have:=GR.1 F1 j hj;simp only [rdB,H6,bt_iff,insB_iff] at this;omega
  have hl:=λx y=>Jf9 (c:=c) (nC (c:=c) (a:=a) (b:=b) UE hv n (Am _)) (o:=o) (f:=f) (t:=t) VJ x y
  have hfo:=hl f o;have hot:=hl o t;refine ⟨λh=>?_,λh=>?_⟩
  ·have h1: ∀M,UC c T U O M (o*1+(f*11+4))=M f o:=λM=>BY _ _ _ _ _ VJ VJ
   have h2: ∀M,UC c T U O M (t*1+(o*11+4))=M o t:=λM=>BY _ _ _ _ _ VJ VJ
   have h3: ∀M v,UR (t*1+(f*11+4)) (min (UC c T U O M (t*1+(f*11+4))) v) (UC c T U O M)=UC c T U O (bnd M f t v):=λM v=>zN VJ VJ
   simp only [h3];simp only [h1,h2]
   (with_reducible repeat' first|apply Al|intro _)
   all_goals first|exact Ak|omega|with_reducible rfl|(rename_i E hE;cases hE;exact hQ)|rfl
  ·obtain rfl:t=c+1:=VJ
   (with_reducible repeat' first|apply Al|intro _)
   all_goals first|exact Ak|omega|with_reducible rfl|(rename_i E hE;cases hE;exact hQ)|rfl
theorem Zz5(o:Nat)(VR:1<=c/\c<=10)(UE:1<=U/\U<=O/\O<=200/\1<=T/\T<=2000)(HQ:n<=1000)(F1:D5 (λk=>rdB c (a k) (b k) (u k) (v k)) n=true)(BL:o<=c):G8 VO (.loop Zs1) (Xu6 c T U O n a b u v o):=by
 refine UV [] (L:=[B4 14 (λk=>FO [k<=c] (m7 c T U O n a b u v o k))]) (Ae LR Aa) (Ai Ab (Ag LI Ac)) VY (G0 (λcj hcj=>by
  have e:VS Zs1 0=some (.loop Xa1):=VT;rw [e] at hcj;cases hcj;exact L2 (λk=>D2 (λh=>Qz6 c T U O n a b u v o k VR UE HQ F1 BL h)))) (X:=Nat) (Wf9 c T U O n a b u v o) (λf=>f<=c+1) (λf=>c+1-f) (C9 c T U O n a b u v o) (x0:=0) VV ?_ ?_ ?_
 ·rintro f;kernel_rfl
 ·rintro f y E h;unfold C9 at h;split at h
  ·cases h;kernel_rfl
  ·cases h
 ·rintro Q hQ f hx;refine ⟨(f+1),?_⟩;(with_reducible refine DH (t:=let A:=(VZ ((c:Int)+1));let W:=(fwO c (rdM c T U O a b u v n) o);let z2:=(VZ (agg [iI (c:Int),iI T,iI U,iI O]));let z3:=Q4 n a b u v;(branch (decide ((f:Int)<(c:Int)+1)) (need [VL ((c:Int)+1)] (need [f<=c] (need [z2,z3,XI,QV=QV,X6,XU,ZG,VZ (o:Int),VZ (f:Int),A,A,VZ (c:Int),VZ (c:Int),z3,VZ (n:Int),VZ (n:Int),A,VZ (o:Int),A,VZ (f:Int),A,(0:Int)=(↑(0:Nat):Int),125=125,GU 125 (UC (c:Int) T U O (fwF c W o f)) (UC (c:Int) T U O (fwT (fwF c W o f) o f 0)),VZ (c:Int),T=T,U=U,O=O] (need [VL ((f:Int)+1)] (need [z2,z3,XI,QV=QV,X6,XU,ZG,VZ (o:Int),A,A,VZ (c:Int),VZ (c:Int),z3,VZ (n:Int),VZ (n:Int),A,VZ (o:Int),A,(f:Int)+1=(↑(f+1):Int),125=125,GU 125 (UC (c:Int) T U O (fwT (fwF c W o f) o f (c+1))) (UC (c:Int) T U O (fwF c W o (f+1))),VZ (c:Int),T=T,U=U,O=O] (leaf G7.normal)))))) (need [z2,z3,XI,QV=QV,X6,XU,ZG,VZ (o:Int),A,A,VZ (c:Int),VZ (c:Int),z3,VZ (n:Int),VZ (n:Int),A,VZ (o:Int),A,(f:Int)=(c:Int)+1,125=125,GU 125 (UC (c:Int) T U O (fwF c W o f)) (UC (c:Int) T U O (fwF c W o (c+1))),VZ (c:Int),T=T,U=U,O=O] (leaf (G7.exit 10))))) VT ?_);simp only [Jk1,C9,VM.sat,GT] at hQ;simp only [VM.sat,UB,G4,GJ,UD,VL,UH,HA,FY,RA,RW,GL,C9]
  refine ⟨λh=>?_,λh=>?_⟩
  ·(with_reducible repeat' first|apply Al|intro _)
   all_goals first|exact Ak|omega|with_reducible rfl|(rename_i E hE;cases hE;exact hQ)|rfl
  ·obtain rfl:f=c+1:=VJ
   (with_reducible repeat' first|apply Al|intro _)
   all_goals first|exact Ak|omega|with_reducible rfl|(rename_i E hE;cases hE;exact hQ)|rfl
theorem Wa1(VR:1<=c/\c<=10)(UE:1<=U/\U<=O/\O<=200/\1<=T/\T<=2000)(HQ:n<=1000)(F1:D5 (λk=>rdB c (a k) (b k) (u k) (v k)) n=true):G8 VO (.loop Qs0) (m8 c T U O n a b u v):=by
 refine UV [] (L:=[B4 13 (λk=>FO [k<=c] (Xu6 c T U O n a b u v k))]) (Ae LR Aa) (Ai Ab (Ag LI Ac)) VY (G0 (λcj hcj=>by
  have e:VS Qs0 0=some (.loop Zs1):=VT;rw [e] at hcj;cases hcj;exact L2 (λk=>D2 (λh=>Zz5 c T U O n a b u v k VR UE HQ F1 h)))) (X:=Nat) (EG c T U O n a b u v) (λo=>o<=c+1) (λo=>c+1-o) (qC c T U O n a b u v) (x0:=0) VV ?_ ?_ ?_
 ·rintro o;kernel_rfl
 ·rintro o y E h;unfold qC at h;split at h
  ·cases h;kernel_rfl
  ·cases h
 ·rintro Q hQ o hx;refine ⟨(o+1),?_⟩;(with_reducible refine DH (t:=let A:=(VZ ((c:Int)+1));let W:=(rdM c T U O a b u v n);let z2:=(VZ (agg [iI (c:Int),iI T,iI U,iI O]));let z3:=Q4 n a b u v;(branch (decide ((o:Int)<(c:Int)+1)) (need [VL ((c:Int)+1)] (need [o<=c] (need [z2,z3,XI,QV=QV,X6,XU,ZG,VZ (o:Int),A,A,VZ (c:Int),VZ (c:Int),z3,VZ (n:Int),VZ (n:Int),A,VZ (o:Int),A,(0:Int)=(↑(0:Nat):Int),125=125,GU 125 (UC (c:Int) T U O (fwO c W o)) (UC (c:Int) T U O (fwF c (fwO c W o) o 0)),VZ (c:Int),T=T,U=U,O=O] (need [VL ((o:Int)+1)] (need [z2,z3,XI,QV=QV,X6,XU,ZG,A,A,VZ (c:Int),VZ (c:Int),z3,VZ (n:Int),VZ (n:Int),A,(o:Int)+1=(↑(o+1):Int),125=125,GU 125 (UC (c:Int) T U O (fwF c (fwO c W o) o (c+1))) (UC (c:Int) T U O (fwO c W (o+1))),VZ (c:Int),T=T,U=U,O=O] (leaf G7.normal)))))) (need [z2,z3,XI,QV=QV,X6,XU,ZG,A,A,VZ (c:Int),VZ (c:Int),z3,VZ (n:Int),VZ (n:Int),A,(o:Int)=(c:Int)+1,125=125,GU 125 (UC (c:Int) T U O (fwO c W o)) (UC (c:Int) T U O (fwO c W (c+1))),VZ (c:Int),T=T,U=U,O=O] (leaf (G7.exit 8))))) VT ?_);simp only [Wu1,qC,VM.sat,GT] at hQ;simp only [VM.sat,UB,G4,GJ,UD,VL,UH,HA,FY,RA,RW,GL,qC]
  refine ⟨λh=>?_,λh=>?_⟩
  ·(with_reducible repeat' first|apply Al|intro _)
   all_goals first|exact Ak|omega|with_reducible rfl|(rename_i E hE;cases hE;exact hQ)|rfl
  ·obtain rfl:o=c+1:=VJ
   (with_reducible repeat' first|apply Al|intro _)
   all_goals first|exact Ak|omega|with_reducible rfl|(rename_i E hE;cases hE;exact hQ)|rfl
def fwM:Nat->Nat->Int:=fwO c (rdM c T U O a b u v n) (c+1)
def okR:Bool:=D5 (λk=>decide (0<=fwM c T U O n a b u v k k)) (c+1)
def Wz0:St:={σ:=[agg [iI (c:Int),iI T,iI U,iI O],X5 n a b u v,ptr 0 0,top,top,top,ptr 5 0,top,top,top,AV.mp 63]++HH 11 [iI ((c:Int)+1),iI ((c:Int)+1)]++HH 21 [iI (c:Int),iI (c:Int)]++HH 34 [X5 n a b u v,iI (n:Int),iI (n:Int)]++HH 37 [iI ((c:Int)+1),iI ((c:Int)+1)]++HH 40 [iI ((c:Int)+1)]++HH 14 [],m:=[(5,GN.ints 301 [] 125 λk=>UC (c:Int) T U O (fwO c (rdM c T U O a b u v n) (c+1)) k),(0,GN.cells 49 [iI (c:Int),iI T,iI U,iI O])],nx:=76}
noncomputable def Jo8:Code:=U9 (VS (U7 Tryz.f158) 4)
def Wf8(k:Nat):St:=(upE [(164,i k)] [(5,.ints 301 [] 125 (UC c T U O (fwM c T U O n a b u v))),(0,.cells 49 [i c,i T,i U,i O])] (Wz0 c T U O n a b u v))
def d6(k:Nat):G7->Option St
 | .ret=>some (upE [(4,.x (.pointer none)),(5,.lit false),(164,.top)] [(5,.ints 301 [] 125 (UC c T U O (fwM c T U O n a b u v))),(0,.cells 49 [i c,i T,i U,i O])] (Wz0 c T U O n a b u v))
 | .exit 14=>some (upE [(164,.top)] [(5,.ints 301 [] 125 (UC c T U O (fwM c T U O n a b u v))),(0,.cells 49 [i c,i T,i U,i O])] (Wz0 c T U O n a b u v))
 |_=>none
def Jk0:CT:= .branch (okR c T U O n a b u v) (.leaf (.exit 14,(d6 c T U O n a b u v 0 (.exit 14)).getD (Wz0 c T U O n a b u v))) (.leaf (.ret,(d6 c T U O n a b u v 0 .ret).getD (Wz0 c T U O n a b u v)))
def Xu5:UI:=GK [] (HG (Wf8 c T U O n a b u v (0)) (Jk0 c T U O n a b u v))
theorem Zz4(VR:1<=c/\c<=10)(UE:1<=U/\U<=O/\O<=200/\1<=T/\T<=2000)(HQ:n<=1000)(F1:D5 (λk=>rdB c (a k) (b k) (u k) (v k)) n=true):G8 VO (.loop Jo8) (Xu5 c T U O n a b u v):=by
 refine UV [] (L:=[]) (Ae LR Aa) (Ai Ab (Ag LI Ac)) VY U3 (X:=Nat) (Wf8 c T U O n a b u v) (λk=>k<=c+1/\ ∀j,j<k->0<=fwM c T U O n a b u v j j) (λk=>c+1-k) (d6 c T U O n a b u v) (x0:=0) VV ?_ ?_ ?_
 ·rintro k;kernel_rfl
 ·rintro k y E h;unfold d6 at h;split at h
  ·cases h;kernel_rfl
  ·cases h;kernel_rfl
  ·cases h
 ·rintro Q hQ k hx;refine ⟨(k+1),?_⟩;(with_reducible refine DH (t:=let A:=(VZ ((c:Int)+1));let W:=(fwM c T U O n a b u v);let z2:=(VZ (agg [iI (c:Int),iI T,iI U,iI O]));let z3:=Q4 n a b u v;(branch (decide ((k:Int)<(c:Int)+1)) (need [UJ k 11] (need [UJ k 11] (need [k*1+(k*11+4)<125] (branch (decide (UC (c:Int) T U O W (k*1+(k*11+4))<0)) (need [z2,z3,XI,QV=QV,X6,XU,ZG,A,A,VZ (c:Int),VZ (c:Int),z3,VZ (n:Int),VZ (n:Int),A,A,A,125=125,GO 125 (UC (c:Int) T U O W),VZ (c:Int),T=T,U=U,O=O] (leaf G7.ret)) (need [VL ((k:Int)+1)] (need [z2,z3,XI,XU,ZG,A,A,VZ (c:Int),VZ (c:Int),z3,VZ (n:Int),VZ (n:Int),A,A,A,(k:Int)+1=(↑(k+1):Int),125=125,GO 125 (UC (c:Int) T U O W),VZ (c:Int),T=T,U=U,O=O] (leaf G7.normal))))))) (need [z2,z3,XI,XU,ZG,A,A,VZ (c:Int),VZ (c:Int),z3,VZ (n:Int),VZ (n:Int),A,A,A,125=125,GO 125 (UC (c:Int) T U O W),VZ (c:Int),T=T,U=U,O=O] (leaf (G7.exit 14))))) VT ?_);simp only [Jk0,d6,VM.sat,GT] at hQ;simp only [VM.sat,UB,G4,GJ,UD,VL,UH,HA,FY,RA,RW,GL,d6]
  have h1:UC c T U O (fwM c T U O n a b u v) (k*1+(k*11+4))=fwM c T U O n a b u v k k\/11<=k:=by
   rcases An k 11 with h|h
   ·exact .inl (BY _ _ _ _ _ VJ h)
   ·exact .inr h
  refine ⟨λh=>?_,λh=>?_⟩
  ·have h2:=h1.resolve_right VJ;rw [h2];refine ⟨VJ,VJ,VJ,λhneg=>?_,λWk6=>?_⟩
   ·have hno:okR c T U O n a b u v=false:=by
     cases ho:okR c T U O n a b u v
     ·rfl
     ·have:=GR.1 ho k VJ;simp at this;omega
    (with_reducible repeat' first|apply Al|intro _)
    all_goals first|exact P3|(rename_i E hE;cases hE;exact hQ.2 hno)
   ·exact VF
  ·obtain ⟨hx1,hx2⟩:=hx;obtain rfl:k=c+1:=VJ;have Wj4:okR c T U O n a b u v=true:=GR.2 (λj hj=>by simpa using hx2 j hj)
   (with_reducible repeat' first|apply Al|intro _)
   all_goals first|exact P3|(rename_i E hE;cases hE;exact hQ.1 Wj4)
end
theorem vM{S:Code->UI->Prop}{c:Code}{s0 s1 s2 s3 s4:UI}(h0: ∀cj,VS c 0=some cj->S cj s0)(h1: ∀cj,VS c 1=some cj->S cj s1)(h2: ∀cj,VS c 2=some cj->S cj s2)(h3: ∀cj,VS c 3=some cj->S cj s3)(h4: ∀cj,VS c 4=some cj->S cj s4):
  ∀j cj,VS c j=some cj-> ∀sp,[s0,s1,s2,s3,s4][j]? =some sp->S cj sp:=by
 intro j cj hj sp hsp
 match j with
 | 0=>simp at hsp;subst hsp;exact h0 cj hj
 | 1=>simp at hsp;subst hsp;exact h1 cj hj
 | 2=>simp at hsp;subst hsp;exact h2 cj hj
 | 3=>simp at hsp;subst hsp;exact h3 cj hj
 | 4=>simp at hsp;subst hsp;exact h4 cj hj
 |j+5=>simp at hsp
theorem UN.same{P:Program}{f:FuncId}{avs avs':List AV}{t:VM AV}(h:UN P f avs' t)(k:LV avs avs'):UN P f avs t:=λQ hQ e w args hro hgl FM hr=>h Q hQ e w args hro hgl (k.idf FM) (k.rep hr)
section
variable (c:Nat)(T U O:Int)(n:Nat)(a b u v:Nat->Int)
abbrev sZ:AV:= .roI [] 125 (UC c T U O (fwM c T U O n a b u v)) 0
abbrev nilP:AV:= .x (.pointer none)
theorem SM(VR:1<=c/\c<=10)(UE:1<=U/\U<=O/\O<=200/\1<=T/\T<=2000)(HQ:n<=1000)(F1:D5 (λk=>rdB c (a k) (b k) (u k) (v k)) n=true):UN VO 158 [.agg [i c,i T,i U,i O],rds n a b u v] (.branch (okR c T U O n a b u v) (.leaf (.tup [sZ c T U O n a b u v,.lit true])) (.leaf (.tup [nilP,.lit false]))):=by
 refine GS (L:=[Xv0 c T U O n a b u v,Xu8 c T U O n a b u v,Xu7 c T U O n a b u v,m8 c T U O n a b u v,Xu5 c T U O n a b u v]) (Ae LR Aa) (Ai Ab (Ag LI Ac)) VY Tryz.func158 (UT Tryz.f158) (vM (lpE (b:= .loop Zs2) VT<|(Ja3 c T U O n a b u v VR UE).N) (lpE (b:= .loop Jp0) VT<|(Ja1 c T U O n a b u v VR UE).N) (lpE (b:= .loop Jo9) VT<|(Zz9 c T U O n a b u v VR UE HQ F1).N) (lpE (b:= .loop Qs0) VT<|(Wa1 c T U O n a b u v VR UE HQ F1).N) (lpE (b:= .loop Jo8) VT<|(Zz4 c T U O n a b u v VR UE HQ F1).N)) (t:=let A:=(VZ ((c:Int)+1));let W:=(VZ (agg [iI (c:Int),iI T,iI U,iI O]));let z2:=(UC (c:Int) T U O (cel c U O c) (c*1+4));let z3:=(UR (c*1+4) (min z2 T) (UC (c:Int) T U O (cel c U O c)) (0+(c*11+4)));let z4:=Q4 n a b u v;(need [VL ((c:Int)+1)] (need [W,z4,XI,QV=QV,X6,XU,A,(0:Int)=(↑(0:Nat):Int),List.length ([(c:Int),T,U,O]++aY 121)=125,GU 125 (U8 ([(c:Int),T,U,O]++aY 121)) (UC (c:Int) T U O (ini c 0 0)),VZ (c:Int),T=T,U=U,O=O] (need [W,z4,XI,QV=QV,X6,XU,A,A,VZ (c:Int),(0:Int)=(↑(0:Nat):Int),125=125,GU 125 (UC (c:Int) T U O (ini c (c+1) 0)) (UC (c:Int) T U O (cel c U O 0)),VZ (c:Int),T=T,U=U,O=O] (need [UJ 0 11] (need [UJ c 11] (need [c*1+4<125] (need [UJ 0 11] (need [UJ c 11] (need [c*1+4+List.length [min z2 T]<=125] (need [VL (-T)] (need [UJ c 11] (need [UJ 0 11] (need [0+(c*11+4)<125] (need [UJ c 11] (need [UJ 0 11] (need [0+(c*11+4)+List.length [min z3 (-T)]<=125] (need [W,z4,XI,QV=QV,X6,XU,ZG,A,A,VZ (c:Int),VZ (c:Int),z4,VZ (n:Int),(0:Int)=(↑(0:Nat):Int),125=125,GU 125 (UR (0+(c*11+4)) (min z3 (-T)) (zY (c*1+4) [min z2 T] (UC (c:Int) T U O (cel c U O c)))) (UC (c:Int) T U O (rdM c T U O a b u v 0)),VZ (c:Int),T=T,U=U,O=O,∀(k:Value),False->sn a b u v 0 k/\k=Value.bool true] (need [VL ((c:Int)+1)] (need [W,z4,XI,QV=QV,X6,XU,ZG,A,A,VZ (c:Int),VZ (c:Int),z4,VZ (n:Int),VZ (n:Int),A,(0:Int)=(↑(0:Nat):Int),125=125,GU 125 (UC (c:Int) T U O (rdM c T U O a b u v n)) (UC (c:Int) T U O (fwO c (rdM c T U O a b u v n) 0)),VZ (c:Int),T=T,U=U,O=O] (need [VL ((c:Int)+1)] (need [W,z4,XI,XU,ZG,A,A,VZ (c:Int),VZ (c:Int),z4,VZ (n:Int),VZ (n:Int),A,A,A,(0:Int)=(↑(0:Nat):Int),125=125,GU 125 (UC (c:Int) T U O (fwO c (rdM c T U O a b u v n) (c+1))) (UC (c:Int) T U O (fwM c T U O n a b u v)),VZ (c:Int),T=T,U=U,O=O] (branch (okR c T U O n a b u v) (leaf (tup [roI [] 125 (λk=>UC (c:Int) T U O (fwM c T U O n a b u v) k) 0,AV.lit true])) (leaf (tup [QV,AV.lit false]))))))))))))))))))))))))) VT ?_
 intro Q hQ;have h1: ∀M w,UR (c*1+4) (min (UC c T U O M (c*1+4)) w) (UC c T U O M)=UC c T U O (bnd M 0 c w):=λM w=>zN VJ VJ
 have h2: ∀M w,UR (0+(c*11+4)) (min (UC c T U O M (0+(c*11+4))) w) (UC c T U O M)=UC c T U O (bnd M c 0 w):=λM w=>zN VJ VJ
 simp only [VM.sat,UB,UH,VL,RW,GL,h1,h2] at hQ ⊢
 (with_reducible repeat' first|apply Al|intro _)
 all_goals first|exact Ak|omega|with_reducible rfl|rfl|exact Qy5 _ _ _ _ _ _|(rename_i h;exact h.elim)|(rename_i h;exact ⟨.tup [sZ c T U O n a b u v,.lit true],⟨⟨rfl,rfl,λ_ _=>rfl,rfl⟩,rfl,Ak⟩,hQ.1 h⟩)|(rename_i h;exact ⟨.tup [nilP,.lit false],⟨rfl,rfl,Ak⟩,hQ.2 h⟩)
end
def col(j:Nat)(f:Nat->List AV):Nat->Int:=λk=>Wi8 (f k) j
def fC:DA:=λl=>match l with
 |[.agg [.x (.int .i64 c),.x (.int .i64 T),.x (.int .i64 U),.x (.int .i64 O)],.lst 4 n f]=>some (.need [UF 4 n f,1<=c/\c<=10,1<=U/\U<=O/\O<=200/\1<=T/\T<=2000,n<=1000,D5 (λk=>rdB c (col 0 f k) (col 1 f k) (col 2 f k) (col 3 f k)) n=true]
   (.branch (okR c.toNat T U O n (col 0 f) (col 1 f) (col 2 f) (col 3 f)) (.leaf (.tup [sZ c.toNat T U O n (col 0 f) (col 1 f) (col 2 f) (col 3 f),.lit true])) (.leaf (.tup [nilP,.lit false]))))
 |_=>none
theorem wV:Enters VO 158/\ ∀avs t,fC avs=some t->UN VO 158 avs t:=by
 refine ⟨(UG Tryz.func158),?_⟩;intro avs t h;unfold fC at h;split at h
 ·rename_i c T U O n f;cases h;intro Q hQ;have I:=GC hQ.1;have hr:UF 4 n f:=I _ VV;have hc:1<=c/\c<=10:=I _ VV;have HW:D5 (λk=>rdB c (col 0 f k) (col 1 f k) (col 2 f k) (col 3 f k)) n=true:=I _ VV
  have e:((c.toNat:Nat):Int)=c:=VJ;have h0:=SM c.toNat T U O n (col 0 f) (col 1 f) (col 2 f) (col 3 f) VJ (I _ VV) (I _ VV) (by rw [e];exact HW)
  rw [e] at h0;exact UN.same h0 (.cons (.refl _) (.cons (.lst 4 n _ _ hr) .nil)) Q hQ.2
 ·cases h
theorem PG.same{P:Program}{f:FuncId}{avs avs':List AV}{t:VM AV}(h:PG P f avs' t)(k:LV avs avs'):PG P f avs t:=λQ hQ e w args hro hgl FM hr=>h Q hQ e w args hro hgl (k.idf FM) (k.rep hr)
def Qf3:UW
 |[.agg [.x (.int .i64 a),.x (.int .i64 b),.x (.int .i64 u),.x (.int .i64 v)],.ro [.fn (.func 192) [.agg [.x (.int .i64 c),.x (.int .i64 T),.x (.int .i64 U),.x (.int .i64 O)]] []]]=>some ([1<=c/\c<=10],bl (!rdB c a b u v))
 |_=>none
theorem Wt3(c T U O a b u v:Int)(VR:1<=c/\c<=10):VX VO 227 [.agg [i a,i b,i u,i v],.ro [.fn (.func 192) [.agg [i c,i T,i U,i O]] []]] (bl (!rdB c a b u v)):=by
 refine U1 (L:=[]) (Ae mZ Aa) VY Tryz.func227 (UT Tryz.f227) U3 (t:=need [(1:Int)<=c/\c<=10] (leaf (RV.x (.bool !rdB c a b u v)))) VT ?_;simp [VM.sat,UB,G4,UD];exact VR
theorem lC:VP VO 227 Qf3:=by
 refine ⟨(UG Tryz.func227),?_⟩;intro avs ns Z h I;unfold Qf3 at h;split at h
 ·cases h;exact Wt3 _ _ _ _ _ _ _ _ (I _ VV)
 ·cases h
def y9(c:Int)(a b u v:Nat->Int)(k:Nat):Bool:= !rdB c (a k) (b k) (u k) (v k)
def MQ(c:Int)(n:Nat)(a b u v:Nat->Int):Bool:=D5 (λk=>rdB c (a k) (b k) (u k) (v k)) n
abbrev X2(c:Int)(T:Int)(U:Int)(O:Int):AV:=AV.fn (Fn.func 227) [] [AV.ro [AV.fn (Fn.func 192) [agg [iI c,iI T,iI U,iI O]] []]]
section
variable (c T U O:Int)(n:Nat)(a b u v:Nat->Int)
def mG:St:={σ:=[X5 n a b u v,X2 c T U O]++HH 5 [iI (n:Int)]++HH 11 [],m:=[],nx:=4}
noncomputable def Xy0:Code:=U9 (VS (U7 Tryz.f245) 0)
def Qa0(k:Nat):St:=(upM [(8,i k)] (mG c T U O n a b u v))
def kP(k:Nat):G7->Option St
 | .ret=>some (upM [(4,i (GW (y9 c a b u v) n))] (mG c T U O n a b u v))
 | .exit 0=>some (upM [] (mG c T U O n a b u v))
 |_=>none
def Xs1:CT:= .branch (decide (GW (y9 c a b u v) n<n)) (.leaf (.ret,(kP c T U O n a b u v 0 .ret).getD (mG c T U O n a b u v))) (.leaf (.exit 0,(kP c T U O n a b u v 0 (.exit 0)).getD (mG c T U O n a b u v)))
def Ww9:UI:=(HG (Qa0 c T U O n a b u v (0)) (Xs1 c T U O n a b u v))
theorem Xy3(VR:n<=100000)(UE:1<=c/\c<=10):G8 VO (.loop Xy0) (Ww9 c T U O n a b u v):=by
 refine HF (L:=[]) (Ae lC Aa) VY U3 (X:=Nat) (Qa0 c T U O n a b u v) (λk=>k<=n/\ ∀j,j<k->y9 c a b u v j=false) (λk=>n-k) (kP c T U O n a b u v) (x0:=0) VV ?_ ?_ ?_
 ·rintro k;kernel_rfl
 ·rintro k y E h;unfold kP at h;split at h
  ·cases h;kernel_rfl
  ·cases h;kernel_rfl
  ·cases h
 ·rintro Q hQ k hx;refine ⟨(k+1),?_⟩;(with_reducible refine DH (t:=branch (decide ((k:Int)<(n:Int))) (need [UJ k n] (need [(1:Int)<=c/\c<=10] (branch (!rdB c (a k) (b k) (u k) (v k)) (need [Q4 n a b u v,VZ (X2 c T U O),(k:Int)=(↑(GW (y9 c a b u v) n):Int),VZ (n:Int)] (leaf G7.ret)) (need [VL ((k:Int)+1)] (need [Q4 n a b u v,VZ (X2 c T U O),VZ (n:Int),(k:Int)+1=(↑(k+1):Int)] (leaf G7.normal)))))) (need [Q4 n a b u v,VZ (X2 c T U O),VZ (n:Int)] (leaf (G7.exit 0)))) VT ?_);simp only [Xs1,kP,VM.sat,GT,HA] at hQ;simp only [VM.sat,UB,UH,HA,VL,kP,DZ];refine ⟨λh=>⟨VJ,UE,λhb=>?_,λhb=>?_⟩,λh=>?_⟩
  ·have hf:GW (y9 c a b u v) n=k:=zG VJ hb hx.2;refine ⟨VJ,λE hE=>?_⟩
   cases hE;exact hQ.1 VJ
  ·refine ⟨VJ,VJ,⟨VJ,λj hj=>?_⟩,VJ⟩
   rcases (show j<k\/j=k by omega) with h1|rfl
   ·exact hx.2 j h1
   ·exact hb
  ·have hf:GW (y9 c a b u v) n=n:=BV (λj hj=>hx.2 j VJ)
   intro E hE;cases hE;exact hQ.2 VJ
theorem Xy4(VR:n<=100000)(UE:1<=c/\c<=10):VX VO 245 [rds n a b u v,.fn (.func 227) [] [.ro [.fn (.func 192) [.agg [i c,i T,i U,i O]] []]]] (i (if GW (y9 c a b u v) n<n then (GW (y9 c a b u v) n:Int) else -1)):=by
 refine U1 (L:=[Ww9 c T U O n a b u v]) (Ae lC Aa) VY Tryz.func245 (UT Tryz.f245) (G0 (lpE (b:= .loop Xy0) VT<|Xy3 c T U O n a b u v VR UE)) (t:=need [Q4 n a b u v,VZ (X2 c T U O),VZ (n:Int),(0:Int)=(↑(0:Nat):Int)] (branch (decide (GW (y9 c a b u v) n<n)) (leaf (RV.x (.int .i64 (↑(GW (y9 c a b u v) n):Int)))) (leaf (RV.x (.int .i64 (-1:Int)))))) VT ?_
 exact VB
end
theorem isRec4(n:Nat)(a b u v:Nat->Int):UF 4 n (λk=>[i (a k),i (b k),i (u k),i (v k)]):=λ_ _=>rfl
def Xs4:UW
 |[.lst 4 n f,.fn (.func 227) [] [.ro [.fn (.func 192) [.agg [.x (.int .i64 c),.x (.int .i64 T),.x (.int .i64 U),.x (.int .i64 O)]] []]]]=>some ([UF 4 n f,n<=100000,1<=c/\c<=10],i (if GW (y9 c (col 0 f) (col 1 f) (col 2 f) (col 3 f)) n<n then (GW (y9 c (col 0 f) (col 1 f) (col 2 f) (col 3 f)) n:Int) else -1))
 |_=>none
def Xt0:UW
 |[.lst 4 n f,.fn (.func 227) [] [.ro [.fn (.func 192) [.agg [.x (.int .i64 c),.x (.int .i64 T),.x (.int .i64 U),.x (.int .i64 O)]] []]]]=>some ([UF 4 n f,n<=100000,1<=c/\c<=10],bl (!MQ c n (col 0 f) (col 1 f) (col 2 f) (col 3 f)))
 |_=>none
def Wv3:UW
 |[.lst 4 n f,.fn (.func 192) [.agg [.x (.int .i64 c),.x (.int .i64 T),.x (.int .i64 U),.x (.int .i64 O)]] []]=>some ([UF 4 n f,n<=100000,1<=c/\c<=10],bl (MQ c n (col 0 f) (col 1 f) (col 2 f) (col 3 f)))
 |_=>none
def flt(c T U O:Int)(n:Nat)(a b u v:Nat->Int):Int:=if BX c T U O then (if 12<n then 3 else if MQ c n a b u v then 0 else 2) else 1
def Qe7:UW
 |[.agg [.x (.int .i64 c),.x (.int .i64 T),.x (.int .i64 U),.x (.int .i64 O)],.lst 4 n f]=>some ([UF 4 n f],i (flt c T U O n (col 0 f) (col 1 f) (col 2 f) (col 3 f)))
 |_=>none
theorem Xy2:VP VO 245 Xs4:=by
 refine ⟨(UG Tryz.func245),?_⟩;intro avs ns Z h I;unfold Xs4 at h;split at h
 ·cases h;have hr:UF 4 _ _:=I _ (GG);exact (Xy4 _ _ _ _ _ (col 0 _) (col 1 _) (col 2 _) (col 3 _) (I _ VV) (I _ VV)).same (.cons (.lst 4 _ _ _ hr) (.cons (.refl _) .nil))
 ·cases h
section
variable (c T U O:Int)(n:Nat)(a b u v:Nat->Int)
theorem Zm5(VR:n<=100000)(UE:1<=c/\c<=10):VX VO 226 [rds n a b u v,.fn (.func 227) [] [.ro [.fn (.func 192) [.agg [i c,i T,i U,i O]] []]]] (bl (!MQ c n a b u v)):=by
 refine U1 (L:=[]) (Ae Xy2 Aa) VY Tryz.func226 (UT Tryz.f226) U3 (t:=need [UF 4 n λk=>[i (a k),i (b k),i (u k),i (v k)],n<=100000,(1:Int)<=c/\c<=10] (leaf (RV.x (.bool (decide ((if GW (y9 c a b u v) n<n then (↑(GW (y9 c a b u v) n):Int) else (-1:Int))>=(0:Int))))))) VT ?_
 simp only [VM.sat,UB,G4,UD,UH];refine ⟨⟨isRec4 n _ _ _ _,VR,UE⟩,?_⟩;unfold MQ;rw [kB];have:=F2 (y9 c a b u v) n;have e:(λk=> !(λk=>rdB c (a k) (b k) (u k) (v k)) k)=y9 c a b u v:=rfl
 rw [e];split<;>simp<;>omega
theorem Zm4:VP VO 226 Xt0:=by
 refine ⟨(UG Tryz.func226),?_⟩;intro avs ns Z h I;unfold Xt0 at h;split at h
 ·cases h;have hr:UF 4 _ _:=I _ (GG);exact (Zm5 _ _ _ _ _ (col 0 _) (col 1 _) (col 2 _) (col 3 _) (I _ VV) (I _ VV)).same (.cons (.lst 4 _ _ _ hr) (.cons (.refl _) .nil))
 ·cases h
theorem Xk9(VR:n<=100000)(UE:1<=c/\c<=10):VX VO 193 [rds n a b u v,.fn (.func 192) [.agg [i c,i T,i U,i O]] []] (bl (MQ c n a b u v)):=by
 refine U1 (L:=[]) (Ae Zm4 Aa) VY Tryz.func193 (UT Tryz.f193) U3 (t:=need [UF 4 n λk=>[i (a k),i (b k),i (u k),i (v k)],n<=100000,(1:Int)<=c/\c<=10] (leaf (RV.x (.bool !!MQ c n a b u v)))) VT ?_
 simp only [VM.sat,UB,G4,UD,UH];refine ⟨⟨isRec4 n _ _ _ _,VR,UE⟩,?_⟩;simp
end
theorem Xk8:VP VO 193 Wv3:=by
 refine ⟨(UG Tryz.func193),?_⟩;intro avs ns Z h I;unfold Wv3 at h;split at h
 ·cases h;have hr:UF 4 _ _:=I _ (GG);exact (Xk9 _ _ _ _ _ (col 0 _) (col 1 _) (col 2 _) (col 3 _) (I _ VV) (I _ VV)).same (.cons (.lst 4 _ _ _ hr) (.cons (.refl _) .nil))
 ·cases h
theorem BG{c T U O:Int}(h:BX c T U O=true):(1<=c/\c<=10)/\(1<=U/\U<=O/\O<=200/\1<=T/\T<=2000)/\c*U<=T/\T<=c*O:=by
 simp only [BX,H6,bt_iff,insB_iff] at h;omega
theorem Wq8(c T U O:Int)(n:Nat)(a b u v:Nat->Int):VX VO 157 [.agg [i c,i T,i U,i O],rds n a b u v] (i (flt c T U O n a b u v)):=by
 refine U1 (L:=[]) (Ae CheckTube_ok (Ae Xk8 Aa)) VY Tryz.func157 (UT Tryz.f157) U3 (t:=branch ((if BX c T U O=true then (0:Int) else (1:Int)) != 0) (leaf (RV.x (.int .i64 (if BX c T U O=true then (0:Int) else (1:Int))))) (branch (decide ((n:Int)>12)) (leaf (RV.x (.int .i64 (3:Int)))) (need [UF 4 n λk=>[i (a k),i (b k),i (u k),i (v k)],n<=100000,(1:Int)<=c/\c<=10] (branch (!MQ c n a b u v) (leaf (RV.x (.int .i64 (2:Int)))) (leaf (RV.x (JU))))))) VT ?_
 simp only [VM.sat,UB,G4,UD,UH,flt];by_cases ht:BX c T U O=true
 ·have hb:=BG ht;by_cases I:12<n
  ·simp [ht,I];omega
  ·cases ha:MQ c n a b u v<;>simp [ht,I,ha,isRec4 n a b u v]<;>omega
 ·simp [ht]
theorem Wq7:VP VO 157 Qe7:=by
 refine ⟨(UG Tryz.func157),?_⟩;intro avs ns Z h I;unfold Qe7 at h;split at h
 ·cases h;have hr:UF 4 _ _:=I _ (GG);exact (Wq8 _ _ _ _ _ (col 0 _) (col 1 _) (col 2 _) (col 3 _)).same (.cons (.refl _) (.cons (.lst 4 _ _ _ hr) .nil))
 ·cases h
theorem nX(f:Nat->Int)(k:Nat)(VR:k<=10)(UE: -1000000000000<=f (k*11+4)/\f (k*11+4)<=1000000000000):VX VO 195 [.roI [] 125 f 0,i k] (i (-(f (k*11+4)))):=by
 refine GV Tryz.func195 (t:=need [UJ k 11] (need [UJ 0 11] (need [0+(k*11+4)<125] (need [VL (-f (0+(k*11+4)))] (leaf (RV.x (.int .i64 (-f (0+(k*11+4)))))))))) VT ?_;simp only [VM.sat,UB,G4,GJ,UD,UH,DZ];rw [show 0+(k*11+4)=k*11+4 by omega]
 simp only [VL];simp;omega
def lJ:UW
 |[.roI [] 125 f 0,.x (.int .i64 k)]=>some ([0<=k/\k<=10,-1000000000000<=f (k.toNat*11+4)/\f (k.toNat*11+4)<=1000000000000],i (-(f (k.toNat*11+4))))
 |_=>none
theorem nW:VP VO 195 lJ:=by
 refine ⟨(UG Tryz.func195),?_⟩;intro avs ns Z h I;unfold lJ at h;split at h
 ·rename_i f k;cases h;have hk:0<=k/\k<=10:=I _ VV;have e:((k.toNat:Nat):Int)=k:=VJ;have h0:=nX f k.toNat VJ (I _ VV);rw [e] at h0;exact h0
 ·cases h
theorem TN(f:Nat->Int)(k:Nat)(VR:k<=10)(UE: -1000000000000<=f (k*11+4)/\f (k*11+4)<=1000000000000):VX VO 196 [.roI [] 125 f 0,i k] (i (f (k+4))):=by
 refine GV Tryz.func196 (t:=need [UJ 0 11] (need [UJ k 11] (need [k*1+4<125] (leaf (RV.x (.int .i64 (f (k*1+4)))))))) VT ?_;simp only [VM.sat,UB,G4,GJ,UD,UH,DZ];rw [show k*1+4=k+4 by omega]
 simp only [VL];simp;omega
def IS:UW
 |[.roI [] 125 f 0,.x (.int .i64 k)]=>some ([0<=k/\k<=10,-1000000000000<=f (k.toNat*11+4)/\f (k.toNat*11+4)<=1000000000000],i (f (k.toNat+4)))
 |_=>none
theorem TM:VP VO 196 IS:=by
 refine ⟨(UG Tryz.func196),?_⟩;intro avs ns Z h I;unfold IS at h;split at h
 ·rename_i f k;cases h;have hk:0<=k/\k<=10:=I _ VV;have e:((k.toNat:Nat):Int)=k:=VJ;have h0:=TN f k.toNat VJ (I _ VV);rw [e] at h0;exact h0
 ·cases h
def lI:UW
 |[]=>some ([],.agg [.fn (.func 195) [] []])
 |_=>none
theorem Ql2:VX VO 159 [] (.agg [.fn (.func 195) [] []]):=by
 refine GV Tryz.func159 (t:=leaf (RV.agg [RV.fn (Fn.func 195)])) VT ?_;exact V0
theorem Ql1:VP VO 159 lI:=by
 refine ⟨(UG Tryz.func159),?_⟩;intro avs ns Z h I;unfold lI at h;split at h
 ·cases h;exact Ql2
 ·cases h
def OV:UW
 |[]=>some ([],.agg [.fn (.func 196) [] []])
 |_=>none
theorem oT:VX VO 160 [] (.agg [.fn (.func 196) [] []]):=by
 refine GV Tryz.func160 (t:=leaf (RV.agg [RV.fn (Fn.func 196)])) VT ?_;exact V0
theorem oS:VP VO 160 OV:=by
 refine ⟨(UG Tryz.func160),?_⟩;intro avs ns Z h I;unfold OV at h;split at h
 ·cases h;exact oT
 ·cases h
theorem Qq2(f:Nat->Int)(k:Nat)(VR:k<=10)(UE: -1000000000000<=f (k*11+4)/\f (k*11+4)<=1000000000000):VX VO 119 [.roI [] 125 f 0,i k] (.agg [i (-(f (k*11+4))),i (f (k+4))]):=by
 refine U1 (L:=[]) (Ae nW (Ae TM (Ae Ql1 (Ae oS Aa)))) VY Tryz.func119 (UT Tryz.f119) U3 (t:=need [(0:Int)<=(k:Int)/\(k:Int)<=10,(-1000000000000:Int)<=f (k*11+4)/\f (k*11+4)<=1000000000000] (need [(0:Int)<=(k:Int)/\(k:Int)<=10,(-1000000000000:Int)<=f (k*11+4)/\f (k*11+4)<=1000000000000] (leaf (RV.agg [RV.x (.int .i64 (-f (k*11+4))),RV.x (.int .i64 (f (k+4)))])))) VT ?_;exact V0
def lN:UW
 |[.roI [] 125 f 0,.x (.int .i64 k)]=>some ([0<=k/\k<=10,-1000000000000<=f (k.toNat*11+4)/\f (k.toNat*11+4)<=1000000000000],.agg [i (-(f (k.toNat*11+4))),i (f (k.toNat+4))])
 |_=>none
theorem xK:VP VO 119 lN:=by
 refine ⟨(UG Tryz.func119),?_⟩;intro avs ns Z h I;unfold lN at h;split at h
 ·rename_i f k;cases h;have hk:0<=k/\k<=10:=I _ VV;have e:((k.toNat:Nat):Int)=k:=VJ;have h0:=Qq2 f k.toNat VJ (I _ VV);rw [e] at h0;exact h0
 ·cases h
def dbF(f:Nat->Int):Nat->Int
 | 0=>0
 |k+1=>max (dbF f k) (f (k+4)- -(f (k*11+4)))
theorem pD{f:Nat->Int}{c:Nat}(h: ∀k,k<=c->(-1000000000000<=f (k*11+4)/\f (k*11+4)<=1000000000000)/\(-1000000000000<=f (k+4)/\f (k+4)<=1000000000000)): ∀k,k<=c+1->0<=dbF f k/\dbF f k<=2000000000000
 | 0,_=>by simp [dbF]
 |k+1,hk=>by
  have:=pD h k VJ;have:=h k VJ;simp only [dbF];omega
abbrev KG(f:Nat->Int):AV:=roI [] 125 (λa=>f a) 0
def Zr7(c:Nat)(f:Nat->Int):St:={σ:=[KG f]++HH 9 [iI (f 0+1)]++HH 16 [],m:=[],nx:=8}
noncomputable def Jq9:Code:=U9 (VS (U7 Tryz.f233) 0)
section
variable (c:Nat)(f:Nat->Int)
def Wi4(k:Nat):St:=(upM [(2,i (dbF f k)),(11,i k)] (Zr7 c f))
def CV(k:Nat):G7->Option St
 | .exit 0=>some (upM [(2,i (dbF f (c+1))),(11,i ((c+1:Nat):Int))] (Zr7 c f))
 |_=>none
def Jm7:CT:= .leaf (.exit 0,(CV c f 0 (.exit 0)).getD (Zr7 c f))
def Xx5:UI:=(HG (Wi4 c f (0)) (Jm7 c f))
theorem Jh3(VR:c<=10)(UE:f 0=c)(HQ: ∀k,k<=c->(-1000000000000<=f (k*11+4)/\f (k*11+4)<=1000000000000)/\(-1000000000000<=f (k+4)/\f (k+4)<=1000000000000)):G8 VO (.loop Jq9) (Xx5 c f):=by
 refine HF (L:=[]) (Ae xK (Ae fQ Aa)) VY U3 (X:=Nat) (Wi4 c f) (λk=>k<=c+1) (λk=>c+1-k) (CV c f) (x0:=0) VV ?_ ?_ ?_
 ·rintro k;kernel_rfl
 ·rintro k y E h;unfold CV at h;split at h
  ·cases h;kernel_rfl
  ·cases h
 ·rintro Q hQ k hx;refine ⟨(k+1),?_⟩;(with_reducible refine DH (t:=branch (decide ((k:Int)<f 0+1)) (need [(0:Int)<=(k:Int)/\(k:Int)<=10,(-1000000000000:Int)<=f (k*11+4)/\f (k*11+4)<=1000000000000] (need [VL (f (k+4)- -f (k*11+4))] (need [VL ((k:Int)+1)] (need [KG f=KG f,max (dbF f k) (f (k+4)- -f (k*11+4))=dbF f (k+1),VZ (f 0+1),(k:Int)+1=(↑(k+1):Int)] (leaf G7.normal))))) (need [KG f=KG f,dbF f k=dbF f (c+1),VZ (f 0+1),(k:Int)=(↑(c+1):Int)] (leaf (G7.exit 0)))) VT ?_);simp only [Jm7,CV,VM.sat,GT] at hQ;simp only [VM.sat,UB,UH,HA,VL,CV,DZ];refine ⟨λh=>?_,λh=>?_⟩
  ·have h1:=HQ k VJ;have h2:=pD HQ k VJ;refine ⟨⟨VJ,h1.1⟩,VJ,VJ,⟨rfl,VJ⟩,VJ,VJ⟩
  ·obtain rfl:k=c+1:=VJ;exact ⟨⟨rfl,rfl⟩,λE hE=>by cases hE;exact hQ⟩
theorem Wq3(VR:c<=10)(UE:f 0=c)(HQ: ∀k,k<=c->(-1000000000000<=f (k*11+4)/\f (k*11+4)<=1000000000000)/\(-1000000000000<=f (k+4)/\f (k+4)<=1000000000000)):VX VO 233 [.roI [] 125 f 0] (i (dbF f (c+1))):=by
 refine U1 (L:=[Xx5 c f]) (Ae xK (Ae fQ Aa)) VY Tryz.func233 (UT Tryz.f233) (G0 (lpE (b:= .loop Jq9) VT<|Jh3 c f VR UE HQ)) (t:=need [0<125] (need [VL (f 0+1)] (need [KG f=KG f,(0:Int)=dbF f 0,VZ (f 0+1),(0:Int)=(↑(0:Nat):Int)] (leaf (RV.x (.int .i64 (dbF f (c+1)))))))) VT ?_
 simp only [VM.sat,UB,G4,GJ,UD,UH,DZ];simp only [VL];have h2:=pD HQ (c+1) VJ;all_goals exact V6
end
def Qe6:UW
 |[.roI [] 125 f 0]=>some ([0<=f 0/\f 0<=10,∀k,k<=(f 0).toNat->(-1000000000000<=f (k*11+4)/\f (k*11+4)<=1000000000000)/\(-1000000000000<=f (k+4)/\f (k+4)<=1000000000000)],i (dbF f ((f 0).toNat+1)))
 |_=>none
theorem Wq2:VP VO 233 Qe6:=by
 refine ⟨(UG Tryz.func233),?_⟩;intro avs ns Z h I;unfold Qe6 at h;split at h
 ·rename_i f;cases h;have hk:0<=f 0/\f 0<=10:=I _ VV;exact Wq3 (f 0).toNat f VJ VJ (I _ VV)
 ·cases h
section
variable (c T U O:Int)(n:Nat)(a b u v:Nat->Int)
abbrev bS:AV:=sZ c.toNat T U O n a b u v
def okB:Bool:=okR c.toNat T U O n a b u v
def qH(r:Bool):Int:=if flt c T U O n a b u v=0 then (if r then (if okB c T U O n a b u v then 0 else 9) else 2) else flt c T U O n a b u v
end
section
variable {c T U O:Int}{n:Nat}{a b u v:Nat->Int}
theorem kX:flt c T U O n a b u v=0↔BX c T U O=true/\n<=12/\D5 (λk=>rdB c (a k) (b k) (u k) (v k)) n=true:=by
 unfold flt MQ;split
 ·rename_i h1;split
  ·rename_i h2;constructor
   ·intro h;cases h
   ·intro h;omega
  ·rename_i h2;split
   ·rename_i h3;exact ⟨λ_=>⟨h1,VJ,h3⟩,λ_=>rfl⟩
   ·rename_i h3;constructor
    ·intro h;cases h
    ·intro h;exact absurd h.2.2 h3
 ·rename_i h1;constructor
  ·intro h;cases h
  ·intro h;exact absurd h.1 h1
theorem gD{r:Bool}:qH c T U O n a b u v r=0↔flt c T U O n a b u v=0/\r=true/\okB c T U O n a b u v=true:=by
 unfold qH;split
 ·rename_i h1;split
  ·rename_i h2;split
   ·rename_i h3;simp [h1,h2,h3]
   ·rename_i h3;simp [h1,h2,h3]
  ·rename_i h2;simp [h1,h2]
 ·rename_i h1;simp [h1]
end
theorem bF(c T U O:Int)(n:Nat)(a b u v:Nat->Int)(r:Bool):UN VO 118 [.agg [i c,i T,i U,i O],rds n a b u v,bl r] (.branch (decide (qH c T U O n a b u v r=0)) (.leaf (.tup [bS c T U O n a b u v,i 0])) (.leaf (.tup [nilP,i (qH c T U O n a b u v r)]))):=by
 refine GS (L:=[]) (Ae Wq7 Aa) (Aj Ab Ac (Ah wV (UA.nil _))) VY Tryz.func118 (UT Tryz.f118) G5 (t:=need [UF 4 n λk=>[i (a k),i (b k),i (u k),i (v k)]] (branch (flt c T U O n a b u v != 0) (leaf (tup [QV,iI (flt c T U O n a b u v)])) (branch (!r) (leaf (tup [QV,iI 2])) (need [UF 4 n λk=>[i (a k),i (b k),i (u k),i (v k)],(1:Int)<=c/\c<=10,(1:Int)<=U/\U<=O/\O<=200/\(1:Int)<=T/\T<=2000,n<=1000,D5 (λk=>rdB c (a k) (b k) (u k) (v k)) n=true] (branch (okR (Int.toNat c) T U O n a b u v) (leaf (tup [roI [] 125 (λk=>UC (↑(Int.toNat c):Int) T U O (fwM (Int.toNat c) T U O n a b u v) k) 0,iI 0])) (leaf (tup [QV,iI 9]))))))) VT ?_
 intro Q hQ;have e:c.toNat=c\/c<0:=VJ;simp only [VM.sat,UB,UH,RA,HA,Ax] at hQ ⊢;refine ⟨isRec4 n a b u v,λh1=>?_,λh1=>?_⟩
 ·refine ⟨.tup [nilP,i (flt c T U O n a b u v)],⟨rfl,⟨rfl,rfl⟩,Ak⟩,?_⟩;have h2:qH c T U O n a b u v r=flt c T U O n a b u v:=by unfold qH;rw [if_neg h1]
  rw [h2] at hQ;exact hQ.2 h1
 ·have hf:=kX.1 h1;have hb:=BG hf.1;refine ⟨λh2=>?_,λh2=>⟨⟨isRec4 n a b u v,hb.1,hb.2.1,by have:=hf.2.1;omega,hf.2.2⟩,λh3=>?_,λh3=>?_⟩⟩
  ·subst h2;have h4:qH c T U O n a b u v false=2:=by unfold qH;rw [if_pos h1];rfl
   rw [h4] at hQ;exact ⟨.tup [nilP,i 2],⟨rfl,⟨rfl,rfl⟩,Ak⟩,hQ.2 VJ⟩
  ·have h2:r=true:=by simpa using h2
   subst h2;have h4:qH c T U O n a b u v true=0:=gD.2 ⟨h1,rfl,h3⟩;exact ⟨.tup [bS c T U O n a b u v,i 0],⟨⟨rfl,rfl,λ_ _=>rfl,rfl⟩,⟨rfl,rfl⟩,Ak⟩,hQ.1 h4⟩
  ·have h2:r=true:=by simpa using h2
   subst h2;have h4:qH c T U O n a b u v true=9:=by unfold qH okB;rw [if_pos h1,h3];rfl
   rw [h4] at hQ;exact ⟨.tup [nilP,i 9],⟨rfl,⟨rfl,rfl⟩,Ak⟩,hQ.2 VJ⟩
def aV:DA:=λl=>match l with
 |[.agg [.x (.int .i64 c),.x (.int .i64 T),.x (.int .i64 U),.x (.int .i64 O)],.lst 4 n f,.x (.bool r)]=>some (.need [UF 4 n f] (.branch (decide (qH c T U O n (col 0 f) (col 1 f) (col 2 f) (col 3 f) r=0)) (.leaf (.tup [bS c T U O n (col 0 f) (col 1 f) (col 2 f) (col 3 f),i 0])) (.leaf (.tup [nilP,i (qH c T U O n (col 0 f) (col 1 f) (col 2 f) (col 3 f) r)]))))
 |[.agg [.x (.int .i64 c),.x (.int .i64 T),.x (.int .i64 U),.x (.int .i64 O)],.lst 4 n f,.lit r]=>some (.need [UF 4 n f] (.branch (decide (qH c T U O n (col 0 f) (col 1 f) (col 2 f) (col 3 f) r=0)) (.leaf (.tup [bS c T U O n (col 0 f) (col 1 f) (col 2 f) (col 3 f),i 0])) (.leaf (.tup [nilP,i (qH c T U O n (col 0 f) (col 1 f) (col 2 f) (col 3 f) r)]))))
 |_=>none
theorem U2.lits{e:UK}{w:World}{r:Bool}: ∀{l:List AV} {vs:List Value},U2 e w (l++[.lit r]) vs->U2 e w (l++[.x (.bool r)]) vs
 |[],vs,h=>by
  obtain ⟨v,vs',rfl,hv,hvs⟩:=h.cons_inv;cases hv;exact U2.cons (.x _) hvs
 |a::l,vs,h=>by
  obtain ⟨v,vs',rfl,hv,hvs⟩:=h.cons_inv;exact U2.cons hv (U2.lits hvs)
theorem UN.lits{P:Program}{f:FuncId}{l:List AV}{r:Bool}{t:VM AV}(h:UN P f (l++[.x (.bool r)]) t):UN P f (l++[.lit r]) t:=λQ hQ e w args hro hgl FM hr=>h Q hQ e w args hro hgl (λa ha=>by
 rcases List.mem_append.1 ha with h1|h1
 ·exact FM a (Bd _ h1)
 ·cases BC.1 h1;exact .x _) (U2.lits hr)
theorem gV:Enters VO 118/\ ∀avs t,aV avs=some t->UN VO 118 avs t:=by
 refine ⟨(UG Tryz.func118),?_⟩;intro avs t h;unfold aV at h;split at h
 ·rename_i c T U O n f r;cases h;intro Q hQ;have hr:UF 4 n f:=GC hQ.1 _ VV;exact UN.same (bF c T U O n (col 0 f) (col 1 f) (col 2 f) (col 3 f) r) (.cons (.refl _) (.cons (.lst 4 n _ _ hr) (.cons (.refl _) .nil))) Q hQ.2
 ·rename_i c T U O n f r;cases h;intro Q hQ;have hr:UF 4 n f:=GC hQ.1 _ VV;exact UN.lits (l:=[.agg [.x (.int .i64 c),.x (.int .i64 T),.x (.int .i64 U),.x (.int .i64 O)],.lst 4 n f]) (UN.same (bF c T U O n (col 0 f) (col 1 f) (col 2 f) (col 3 f) r) (.cons (.refl _) (.cons (.lst 4 n _ _ hr) (.cons (.refl _) .nil)))) Q hQ.2
 ·cases h
section
variable (c T U O:Int)(n:Nat)(a b u v:Nat->Int)
def eB:Int:=qH c T U O n a b u v true
def fwB:Nat->Nat->Int:=fwM c.toNat T U O n a b u v
def sfB:Nat->Int:=UC (c.toNat:Nat) T U O (fwB c T U O n a b u v)
def dtB:Int:=if eB c T U O n a b u v=0 then dbF (sfB c T U O n a b u v) (c.toNat+1) else 0
def rK:Nat:=if eB c T U O n a b u v=0 then c.toNat+1 else 0
end
theorem Xq6{c a b u v:Int}(h:rdB c a b u v=true):(0<=a/\a<=c-1)/\(a<=b/\b<=c)/\0<=u/\u<=v/\v<=2000:=by
 simp only [rdB,H6,bt_iff,insB_iff] at h;omega
theorem TR{c T U O:Int}{n:Nat}{a b u v:Nat->Int}(h:flt c T U O n a b u v=0)(x y:Nat): -1000000000000<=fwB c T U O n a b u v x y/\fwB c T U O n a b u v x y<=2000:=by
 have hf:=kX.1 h;have hb:=BG hf.1;have hl:=nC (c:=c.toNat) (a:=a) (b:=b) hb.2.1 (λj hj=>(Xq6 (GR.1 hf.2.2 j hj)).2.2) n (Am n)
 have h1:=Zo6 (c:=c.toNat) hl (c.toNat+1) x y;have h2:=Ja6 c.toNat VJ;rw [Int.pow_succ] at h1;unfold fwB fwM;omega
section
variable (c T U O:Int)(n:Nat)(a b u v:Nat->Int)
theorem Xq4:sfB c T U O n a b u v 0=c.toNat:=rfl
theorem SF(k:Nat):sfB c T U O n a b u v (k*11+4)=fwB c T U O n a b u v k 0:=BY _ _ _ _ _ VJ VJ
theorem bT{k:Nat}(hk:k<=10):sfB c T U O n a b u v (k+4)=fwB c T U O n a b u v 0 k:=BY _ _ _ _ _ VJ VJ
abbrev YH:Ext:={R:=[],H:=[],C:=[(118,aV)] }
theorem Wz7:VX VO 203 [.agg [i c,i T,i U,i O],rds n a b u v] (.tup [i (dtB c T U O n a b u v),i (eB c T U O n a b u v)]):=by
 refine GA (L:=[]) (Ae Wq2 Aa) (Aj Ab Ac (Ah gV (UA.nil _))) VY Tryz.func203 (UT Tryz.f203) G5 (t:=let A:=(fwM (Int.toNat c) T U O n a b u v);let W:=qH c T U O n a b u v true;(need [UF 4 n λk=>[i (a k),i (b k),i (u k),i (v k)]] (branch (decide (W=0)) (branch ((0:Int) != 0) (leaf (RV.tup [RV.x (JU),RV.x (JU)])) (need [(0:Int)<=UC (↑(Int.toNat c):Int) T U O A 0/\UC (↑(Int.toNat c):Int) T U O A 0<=10,∀(k:Nat),k<=(UC (↑(Int.toNat c):Int) T U O A 0).toNat->((-1000000000000:Int)<=UC (↑(Int.toNat c):Int) T U O A (k*11+4)/\UC (↑(Int.toNat c):Int) T U O A (k*11+4)<=1000000000000)/\(-1000000000000:Int)<=UC (↑(Int.toNat c):Int) T U O A (k+4)/\UC (↑(Int.toNat c):Int) T U O A (k+4)<=1000000000000] (leaf (RV.tup [RV.x (.int .i64 (dbF (UC (↑(Int.toNat c):Int) T U O A) ((UC (↑(Int.toNat c):Int) T U O A 0).toNat+1))),RV.x (JU)])))) (branch (W != 0) (leaf (RV.tup [RV.x (JU),RV.x (.int .i64 (W))])) VM.fail)))) VT ?_
 have eq: ∀k,UC (c.toNat:Nat) T U O (fwM c.toNat T U O n a b u v) k=sfB c T U O n a b u v k:=λ_=>rfl
 simp only [VM.sat,UB,UH,RA,HA,Ax,not_true_eq_false,false_imp_iff,eq,G4];refine ⟨isRec4 n a b u v,λh1 _=>?_,λh1=>⟨λ_=>?_,λh2=>h1 h2⟩⟩
 ·have hf:=(gD.1 h1).1;have hc:=(BG (kX.1 hf).1).1;have e0:(sfB c T U O n a b u v 0).toNat=c.toNat:=by rw [Xq4];omega
  refine ⟨⟨by rw [Xq4];omega,λk hk=>?_⟩,?_⟩
  ·rw [e0] at hk;rw [SF,bT _ _ _ _ _ _ _ _ _ VJ];have h2:=TR hf k 0;have h3:=TR hf 0 k;omega
  ·rw [e0];unfold dtB eB;rw [if_pos h1,h1];exact ⟨⟨rfl,rfl⟩,⟨rfl,rfl⟩,Ak⟩
 ·unfold dtB eB;rw [if_neg h1];exact ⟨⟨rfl,rfl⟩,⟨rfl,rfl⟩,Ak⟩
end
section
variable {sz k:Nat}{l:List AV}{x:AV}
theorem Qp7(h:x∈U4 sz l k):x∈l:=List.mem_of_mem_drop (List.mem_of_mem_take h)
theorem FG(hm:x∈U4 sz l k)(h: ∀y∈l,AV.one y=true):AV.one x=true:=h x (Qp7 hm)
end
theorem Ji1{k j:Nat}{a b:Nat->Int}{x y:Int}(h:j<k+1)(hx:x=a k)(hy:y=b k):GE k (λk=>[i (a k),i (b k)]) (U4 2 [i x,i y]) j=[i (a j),i (b j)]:=by
 have e:j-k=0:=VJ;show H0 (decide (j<k)) [i (a j),i (b j)] (U4 2 [i x,i y] (j-k))=_;rw [e];by_cases hj:j<k
 ·rw [show decide (j<k)=true by simp [hj]]
  rfl
 ·have hk:j=k:=VJ;rw [show decide (j<k)=false by simp [hj],hk,hx,hy]
  rfl
section
variable (c T U O:Int)(n:Nat)(a b u v:Nat->Int)
def Zq6:St:={σ:=[.agg [i c,i T,i U,i O],rds n a b u v,.ptr 0 0,.top,.x (.slice none 0 0),i 0,bS c T U O n a b u v,i 0,.top,.top,.top,.top,.top,.top,.top,.top,.top,.top,.top,.top,.top,i (c+1),.top,.top,.top,.top,.top,.top,.top,.top,.top,.top,.top],m:=[(900,.row 47 2 0 (λ_=>[])),(0,.cells 49 [i c,i T,i U,i O])],nx:=901}
noncomputable def Jp9:Code:=U9 (VS (U7 Tryz.f75) 0)
def Wh2(k:Nat):St:=(upE [(8,.row 900),(22,i k)] [(900,.row 47 2 (k) (λk=>[i (-(fwB c T U O n a b u v k 0)),i (fwB c T U O n a b u v 0 k)])),(0,.cells 49 [i c,i T,i U,i O])] (Zq6 c T U O n a b u v))
def CJ(k:Nat):G7->Option St
 | .exit 0=>some (upE [(8,.row 900)] [(900,.row 47 2 (c.toNat+1) (λk=>[i (-(fwB c T U O n a b u v k 0)),i (fwB c T U O n a b u v 0 k)])),(0,.cells 49 [i c,i T,i U,i O])] (Zq6 c T U O n a b u v))
 |_=>none
def Jl5:CT:= .leaf (.exit 0,(CJ c T U O n a b u v 0 (.exit 0)).getD (Zq6 c T U O n a b u v))
def Xw2:UI:=GK [(.slot 8,900,47,2)] (HG (Wh2 c T U O n a b u v (0)) (Jl5 c T U O n a b u v))
abbrev KF:AV:=AV.x (.slice none 0 0)
abbrev Y5:Prop:=(0:Int)=0
theorem Jd9(VR:flt c T U O n a b u v=0):G8 VO (.loop Jp9) (Xw2 c T U O n a b u v):=by
 refine zA [(.slot 8,900,47,2)] (L:=[]) (Ae xK Aa) VY U3 (X:=Nat) (Wh2 c T U O n a b u v) (λk=>k<=c.toNat+1) (λk=>c.toNat+1-k) (CJ c T U O n a b u v) (x0:=0) VV ?_ ?_ ?_
 ·rintro k;kernel_rfl
 ·rintro k y E h;unfold CJ at h;split at h
  ·cases h;kernel_rfl
  ·cases h
 ·rintro Q hQ k hx;refine ⟨(k+1),?_⟩;(with_reducible refine DH (t:=let A:=(fwM (Int.toNat c) T U O n a b u v);let W:=fwB c T U O n a b u v;let z2:=(VZ (roI [] 125 (λk=>UC (↑(Int.toNat c):Int) T U O A k) 0));let z3:=(UC (↑(Int.toNat c):Int) T U O A (k+4));(branch (decide ((k:Int)<c+1)) (need [(0:Int)<=(k:Int)/\(k:Int)<=10,(-1000000000000:Int)<=UC (↑(Int.toNat c):Int) T U O A (k*11+4)/\UC (↑(Int.toNat c):Int) T U O A (k*11+4)<=1000000000000] (need [(k+1)*16<=140737488355328,RT 1 (U4 2 [iI (-UC (↑(Int.toNat c):Int) T U O A (k*11+4)),iI z3])] (need [VL ((k:Int)+1)] (need [VZ (agg [iI c,iI T,iI U,iI O]),Q4 n a b u v,XI,KF=KF,Y5,z2,Y5,VZ (AV.row 900),VZ (c+1),(k:Int)+1=(↑(k+1):Int),k+1=k+1,GU (k+1) (GE k (λk=>[Bo.i (-W k 0),Bo.i (W 0 k)]) (U4 2 [iI (-UC (↑(Int.toNat c):Int) T U O A (k*11+4)),iI z3])) (λi=>[Bo.i (-W i 0),Bo.i (W 0 i)]),c=c,T=T,U=U,O=O] (leaf G7.normal))))) (need [VZ (agg [iI c,iI T,iI U,iI O]),Q4 n a b u v,XI,KF=KF,Y5,z2,Y5,VZ (AV.row 900),VZ (c+1),k=Int.toNat c+1,∀(i:Nat),i<Int.toNat c+1->[Bo.i (-W i 0),Bo.i (W 0 i)]=[Bo.i (-W i 0),Bo.i (W 0 i)],c=c,T=T,U=U,O=O] (leaf (G7.exit 0))))) VT ?_)
  simp only [Jl5,CJ,VM.sat,GT] at hQ;have hc:=(BG (kX.1 VR).1).1;have e0:((c.toNat:Nat):Int)=c:=VJ;have eq: ∀k,UC c.toNat T U O (fwM c.toNat T U O n a b u v) k=sfB c T U O n a b u v k:=λ_=>rfl
  simp only [VM.sat,UB,G4,GJ,UD,VL,UH,HA,FY,CJ,eq]
  refine ⟨λh=>?_,λh=>?_⟩
  ·have h2:=TR VR k 0;have h3:=TR VR 0 k;refine ⟨⟨VJ,by rw [SF];omega⟩,⟨VJ,λi O a ha=>FG ha (by simp [AV.one,Value.oneCell'])⟩,VJ,⟨VJ,λi O=>Ji1 O (by rw [SF]) (by rw [bT _ _ _ _ _ _ _ _ _ VJ])⟩,VJ,VJ⟩
  ·obtain rfl:k=c.toNat+1:=VJ;exact ⟨⟨rfl,λ_ _=>Ak⟩,λE hE=>by cases hE;exact hQ⟩
theorem mC(VR:qH c T U O n a b u v true=0)(UE:flt c T U O n a b u v=0):VX VO 75 [.agg [i c,i T,i U,i O],rds n a b u v] (.tup [.lst 2 (rK c T U O n a b u v) (λk=>[i (-(fwB c T U O n a b u v k 0)),i (fwB c T U O n a b u v 0 k)]),i (eB c T U O n a b u v)]):=by
 refine vZ (L:=[Xw2 c T U O n a b u v]) (Gd.go true (Gd.go false Gd.rest)) (Ae xK Aa) (Aj Ab Ac (Ah gV (UA.nil _))) VY Tryz.func75 (UT Tryz.f75) (G0 (lpE (b:= .loop Jp9) VT<|(Jd9 c T U O n a b u v UE).N)) (t:=let A:=fwB c T U O n a b u v;(need [UF 4 n λk=>[i (a k),i (b k),i (u k),i (v k)]] (need [decide (qH c T U O n a b u v true=0)=true] (need [((0:Int) != 0)=false] (need [VL (c+1)] (need [VZ (agg [iI c,iI T,iI U,iI O]),Q4 n a b u v,XI,KF=KF,Y5,VZ (roI [] 125 (λk=>UC (↑(Int.toNat c):Int) T U O (fwM (Int.toNat c) T U O n a b u v) k) 0),Y5,VZ (AV.row 900),VZ (c+1),(0:Int)=(↑(0:Nat):Int),0=0,∀(i:Nat),i<0->[]=[Bo.i (-A i 0),Bo.i (A 0 i)],c=c,T=T,U=U,O=O] (leaf (RV.tup [RV.lst 2 (Int.toNat c+1) λk=>[iI (-A k 0),iI (A 0 k)],RV.x (JU)])))))))) VT ?_
 have hc:=(BG (kX.1 UE).1).1;have hl:rK c T U O n a b u v=c.toNat+1:=if_pos VR;have he:eB c T U O n a b u v=0:=VR;rw [hl,he];simp only [VM.sat,UB,G4,GJ,UD,VL,UH]
 (with_reducible repeat' first|apply Al|intro _)
 all_goals first|exact Ak|with_reducible rfl|omega|exact isRec4 _ _ _ _ _|(simp [*];done)|(rename_i hm;simp only [GM,DO,or_false] at hm;rcases hm with rfl|rfl<;>exact Ak)
theorem mD(VR:qH c T U O n a b u v true≠0):VX VO 75 [.agg [i c,i T,i U,i O],rds n a b u v] (.tup [.lst 2 (rK c T U O n a b u v) (λk=>[i (-(fwB c T U O n a b u v k 0)),i (fwB c T U O n a b u v 0 k)]),i (eB c T U O n a b u v)]):=by
 refine vZ (L:=[]) (Gd.go false (Gd.go true Gd.rest)) (Ae xK Aa) (Aj Ab Ac (Ah gV (UA.nil _))) VY Tryz.func75 (UT Tryz.f75) G5 (t:=let A:=qH c T U O n a b u v true;(need [UF 4 n λk=>[i (a k),i (b k),i (u k),i (v k)]] (need [decide (A=0)=false] (need [(A != 0)=true] (leaf (RV.tup [RV.x (.slice none 0 0),RV.x (.int .i64 (A))])))))) VT ?_
 have hl:rK c T U O n a b u v=0:=if_neg VR;have he:eB c T U O n a b u v=qH c T U O n a b u v true:=rfl;rw [hl,he];simp only [VM.sat,UB,G4,GJ,UD,VL,UH]
 (with_reducible repeat' first|apply Al|intro _)
 all_goals first|exact Ak|with_reducible rfl|omega|exact isRec4 _ _ _ _ _|(simp [*];done)
end
def S_Heights:UW
 |[.agg [.x (.int .i64 c),.x (.int .i64 T),.x (.int .i64 U),.x (.int .i64 O)],.lst 4 n f]=>some ([UF 4 n f],.tup [.lst 2 (rK c T U O n (col 0 f) (col 1 f) (col 2 f) (col 3 f)) (λk=>[i (-(fwB c T U O n (col 0 f) (col 1 f) (col 2 f) (col 3 f) k 0)),i (fwB c T U O n (col 0 f) (col 1 f) (col 2 f) (col 3 f) 0 k)]),i (eB c T U O n (col 0 f) (col 1 f) (col 2 f) (col 3 f))])
 |_=>none
theorem vV(c T U O:Int)(n:Nat)(a b u v:Nat->Int):VX VO 75 [.agg [i c,i T,i U,i O],rds n a b u v] (.tup [.lst 2 (rK c T U O n a b u v) (λk=>[i (-(fwB c T U O n a b u v k 0)),i (fwB c T U O n a b u v 0 k)]),i (eB c T U O n a b u v)]):=by
 by_cases h:qH c T U O n a b u v true=0
 ·exact mC c T U O n a b u v h (gD.1 h).1
 ·exact mD c T U O n a b u v h
theorem Heights_ok:VP VO 75 S_Heights:=by
 refine ⟨(UG Tryz.func75),?_⟩;intro avs ns Z h I;unfold S_Heights at h;split at h
 ·rename_i c T U O n f;cases h;have hr:UF 4 n f:=I _ (GG);exact (vV c T U O n (col 0 f) (col 1 f) (col 2 f) (col 3 f)).same (.cons (.refl _) (.cons (.lst 4 n _ _ hr) .nil))
 ·cases h
end Go.Proofs.YtakpdkmhclhlnaaGreatDoor.Bo
