/- Contracts, put together. Conditions: those of each. -/
import Derived.Test.YtakpdkmhclhlnaaGreatDoorMc
import Derived.Test.YtakpdkmhclhlnaaGreatDoorRows
set_option linter.unusedSimpArgs false
set_option linter.unusedVariables false
set_option maxRecDepth 100000
namespace Go.Proofs.YtakpdkmhclhlnaaGreatDoor
noncomputable abbrev VQ:Go.Program:=Tryz.prog
abbrev Ad:=Go.Sx.VY.of (Go.Sx.VT.nil VQ) (Go.Sx.VP.nil VQ)
abbrev Aa:=Go.Sx.VM.nil VQ
abbrev Ab:=Go.Sx.VT.nil VQ
abbrev Ac:=Go.Sx.VP.nil VQ
abbrev Ae:=@Go.Sx.VM.cons
abbrev Af:=@Go.Sx.VT.cons
abbrev Ag:=@Go.Sx.VP.cons
abbrev Ah:=@Go.Sx.UB.cons
abbrev Ai:=@Go.Sx.VY.of
abbrev Aj:=@Go.Sx.VY.ofC
end Go.Proofs.YtakpdkmhclhlnaaGreatDoor
namespace Go.Proofs.YtakpdkmhclhlnaaGreatDoor.Pt
open Go Go.Sx Go.RowKit
open Go.Sx.VO (need branch leaf)
open Go.Sx.AV (lst ptr agg roI tup top)
theorem U0:Tryz.prog.follows .mixedOrders=true:=VX
abbrev i(n:Int):AV:= .x (.int .i64 n)
abbrev iI(n:Int):AV:= .x (.int .i64 n)
abbrev bl(b:Bool):AV:= .x (.bool b)
def bt(U n O:Int):Bool:=decide (U<=n)&&decide (n<=O)
def insB(U a b O:Int):Bool:=decide (U<=a)&&decide (a<=b)&&decide (b<=O)
theorem insB_iff(U a b O:Int):insB U a b O=true↔U<=a/\a<=b/\b<=O:=by simp [insB,and_assoc]
def scB(a b:Int):Bool:=bt (-1000) a 1000&&bt (-1000) b 1000&&(a != b)
def B9:G0
 |[.x (.int .i64 n),.x (.int .i64 U),.x (.int .i64 O)]=>some ([],bl (bt U n O))
 |_=>none
theorem wO(n U O:Int):VZ VQ 190 [i n,i U,i O] (bl (bt U n O)):=by
 refine GT Tryz.func190 (t:=branch (decide (U<=n)) (leaf (RV.x (.bool (decide (n<=O))))) (leaf (RV.x (.bool false)))) VX ?_;simp only [VO.sat,UE,G5,GL,UH,UK];all_goals (simp+contextual [bt,insB,scB,Bool.and_assoc]);all_goals omega
theorem RI:VS VQ 190 B9:=by
 refine ⟨(UJ Tryz.func190),?_⟩;intro avs ns W h hn;unfold B9 at h;split at h
 ·cases h;exact wO _ _ _
 ·cases h
def BA:G0
 |[.agg [.x (.int .i64 a),.x (.int .i64 b)],.x (.int .i64 U),.x (.int .i64 O)]=>some ([],bl (insB U a b O))
 |_=>none
theorem x9(a b U O:Int):VZ VQ 153 [.agg [i a,i b],i U,i O] (bl (insB U a b O)):=by
 refine GT Tryz.func153 (t:=branch (decide (U<=a)) (branch (decide (a<=b)) (leaf (RV.x (.bool (decide (b<=O))))) (leaf (RV.x (.bool false)))) (leaf (RV.x (.bool false)))) VX ?_;simp only [VO.sat,UE,G5,GL,UH,UK];all_goals (simp+contextual [bt,insB,scB,Bool.and_assoc]);all_goals omega
theorem PQ:VS VQ 153 BA:=by
 refine ⟨(UJ Tryz.func153),?_⟩;intro avs ns W h hn;unfold BA at h;split at h
 ·cases h;exact x9 _ _ _ _
 ·cases h
theorem mul_bd{x y X Y:Int}(hx: -X<=x/\x<=X)(hy: -Y<=y/\y<=Y): -(X*Y)<=x*y/\x*y<=X*Y:=by
 have h1:x.natAbs<=X.natAbs:=VL;have h2:y.natAbs<=Y.natAbs:=VL;have h3:(x*y).natAbs<=(X*Y).natAbs:=by rw [Int.natAbs_mul,Int.natAbs_mul];exact Nat.mul_le_mul h1 h2
 have h4:0<=X*Y:=Int.mul_nonneg VL VL;omega
abbrev scs(n:Nat)(a b:Nat->Int):AV:= .lst 2 n (λk=>[i (a k),i (b k)])
theorem isRec2(n:Nat)(a b:Nat->Int):UG 2 n (λk=>[i (a k),i (b k)]):=λ_ _=>rfl
def col(j:Nat)(f:Nat->List AV):Nat->Int:=λk=>Wh5 (f k) j
def AD(p q:Nat->Int)(k:Nat):Bool:=bt 1 (p k) 2000&&(bt 1 (q k) 2000&&(decide (k=0)||(decide (p (k-1)<p k)&&decide (q (k-1)<q k))))
section
variable (n:Nat)
def xT(p q:Nat->Int):Bool:=FN (AD p q) n
abbrev QS(p:Nat->Int)(q:Nat->Int):AV:=lst 2 n λk=>[iI (p k),iI (q k)]
def Wx2(p q:Nat->Int):St:={σ:=[QS n p q]++HK 10 [QS n p q,iI (n:Int)]++HK 42 [],m:=[],nx:=10}
noncomputable def Jl4:Code:=UC (VU (UA Tryz.f152) 0)
def We1(p q:Nat->Int)(k:Nat):St:=(upM [(13,i k)] (Wx2 n p q))
def yZ(p q:Nat->Int)(k:Nat):GB->Option St
 | .exit 0=>some (upM [] (Wx2 n p q))
 | .ret=>some (upM [(2,i 1)] (Wx2 n p q))
 |_=>none
def Jg8(p q:Nat->Int):CT:= .branch (xT n p q) (.leaf (.exit 0,(yZ n p q 0 (.exit 0)).getD (Wx2 n p q))) (.leaf (.ret,(yZ n p q 0 .ret).getD (Wx2 n p q)))
def Xr0(p q:Nat->Int):UL:=(HM (We1 n p q (0)) (Jg8 n p q))
abbrev JN(p:Nat->Int)(q:Nat->Int):Prop:=(QS n p q)=QS n p q
theorem Zs9(p q:Nat->Int)(VV:n<=100000):GD VQ (.loop Jl4) (Xr0 n p q):=by
 refine HT (L:=[]) (Ae RI Aa) U0 U7 (X:=Nat) (We1 n p q) (λk=>k<=n/\ ∀j,j<k->AD p q j=true) (λk=>n-k) (yZ n p q) (x0:=0) ⟨VL,λj hj=>VL⟩ ?_ ?_ ?_
 ·rintro k;kernel_rfl
 ·rintro k y E h;unfold yZ at h;split at h
  ·cases h;kernel_rfl
  ·cases h;kernel_rfl
  ·cases h
 ·rintro Q hQ k hx;refine ⟨(k+1),?_⟩;(with_reducible refine DU (t:=let A:=(need [JN n p q,U1 (1:Int),JN n p q,U1 (n:Int)] (leaf GB.ret));let I:=(need [VN ((k:Int)+1)] (need [JN n p q,JN n p q,U1 (n:Int),(k:Int)+1=(↑(k+1):Int)] (leaf GB.normal)));(branch (decide ((k:Int)<(n:Int))) (need [UN k n] (branch (!bt (1:Int) (p k) (2000:Int)) A (branch (!bt (1:Int) (q k) (2000:Int)) A (branch (decide ((k:Int)>0)) (need [VN ((k:Int)-1)] (need [UN ((k:Int)-1) n] (branch (decide (p k<=p ((k:Int)-1).toNat)) A (need [VN ((k:Int)-1)] (need [UN ((k:Int)-1) n] (branch (decide (q k<=q ((k:Int)-1).toNat)) A I)))))) I)))) (need [JN n p q,JN n p q,U1 (n:Int)] (leaf (GB.exit 0))))) VX ?_);simp only [Jg8,yZ,VO.sat,GX] at hQ;have Zh9:k<n->AD p q k=false->xT n p q=false:=by
   intro h1 h2;rw [←Bool.not_eq_true];intro h3;have:=H3.1 h3 k h1;rw [h2] at this;cases this
  have eO:AD p q k=true-> ∀j,j<k+1->AD p q j=true:=by
   intro h1 j hj;rcases (show j<k\/j=k by omega) with h|rfl
   ·exact hx.2 j h
   ·exact h1
  have PS: ¬k<n->xT n p q=true:=λh=>H3.2 (λj hj=>hx.2 j VL)
  have hQ1: ∀E,yZ n p q k .ret=some E->xT n p q=false->Q (.ret,E):=by
   intro E hE hf;cases hE;exact hQ.2 hf
  have hQ2: ∀E,yZ n p q k (.exit 0)=some E->xT n p q=true->Q (.exit 0,E):=by
   intro E hE hf;cases hE;exact hQ.1 hf
  have t1:((k:Int)-1).toNat=k-1:=VL;have hsb:AD p q k=(bt 1 (p k) 2000&&(bt 1 (q k) 2000&&(decide (k=0)||(decide (p (k-1)<p k)&&decide (q (k-1)<q k))))):=rfl
  simp only [VO.sat,UE,UK,HG,VN,FF,t1]
  with_reducible repeat' first|apply Al|intro _
  all_goals first|exact Ak|omega|exact hQ1 _ (by assumption) (Zh9 VL (by rw [hsb];grind))|exact hQ2 _ (by assumption) (PS VL)|exact eO (by rw [hsb];grind) _ (by assumption)
def tbE(p q:Nat->Int):Int:=if 8<n then 3 else if n<2 then 1 else if xT n p q then 0 else 1
end
def Qd1:G0
 |[.lst 2 n f]=>some ([UG 2 n f,n<=100000],i (tbE n (col 0 f) (col 1 f)))
 |_=>none
abbrev K7:Value:=Value.int IntKind.i64 (0:Int)
theorem Qw9(n:Nat)(p q:Nat->Int)(VV:n<=100000):VZ VQ 152 [scs n p q] (i (tbE n p q)):=by
 refine U4 (L:=[Xr0 n p q]) (Ae RI Aa) U0 Tryz.func152 (UV Tryz.f152) (GA (lpE (b:= .loop Jl4) VX<|Zs9 n p q VV)) (t:=let A:=(leaf (RV.x (.int .i64 (1:Int))));(branch (decide ((n:Int)>8)) (leaf (RV.x (.int .i64 (3:Int)))) (branch (decide ((n:Int)<2)) A (need [JN n p q,JN n p q,U1 (n:Int),(0:Int)=(↑(0:Nat):Int)] (branch (xT n p q) (leaf (RV.x (K7))) A))))) VX ?_
 simp only [VO.sat,UE,G5,UH,UK,HG,tbE,Int.natCast_zero];refine ⟨λh=>?_,λh=>⟨λh2=>?_,λh2=>⟨λh3=>?_,λh3=>?_⟩⟩⟩
 ·simp [show 8<n by omega]
 ·simp [show ¬8<n by omega,show n<2 by omega]
 ·simp [show ¬8<n by omega,show ¬n<2 by omega,h3]
 ·simp [show ¬8<n by omega,show ¬n<2 by omega,h3]
theorem Qw8:VS VQ 152 Qd1:=by
 refine ⟨(UJ Tryz.func152),?_⟩;intro avs ns W h hn;unfold Qd1 at h;split at h
 ·rename_i n f;cases h;have hr:UG 2 n f:=hn _ VW;exact (Qw9 n (col 0 f) (col 1 f) (hn _ VW)).same (.cons (.lst 2 n _ _ hr) .nil)
 ·cases h
def RN(n:Nat)(p:Nat->Int)(x:Int):Nat:=GW (λk=>decide (x<=p (k+1))) (n-1)
def dO(p q:Nat->Int)(x:Int)(k:Nat):Int:=q k+((q (k+1)-q k)*(x-p k)).tdiv (p (k+1)-p k)
def boilI(n:Nat)(p q:Nat->Int)(x:Int):Int:=dO p q x (RN n p x)
theorem LP{n:Nat}{p q:Nat->Int}(h:xT n p q=true){k:Nat}(hk:k<n):1<=p k/\p k<=2000/\1<=q k/\q k<=2000/\(k=0\/p (k-1)<p k/\q (k-1)<q k):=by
 have:=H3.1 h k hk;simp only [AD,bt,HA,Bl,gJ] at this;omega
theorem AC{n:Nat}{p q:Nat->Int}(h:xT n p q=true){j k:Nat}(hjk:j<=k)(hk:k<n):p j<=p k/\q j<=q k:=by
 induction k with
 |zero=>
      have:j=0:=VL;subst this;exact ⟨Int.le_refl _,Int.le_refl _⟩
 |succ k ih=>
  rcases (show j<=k\/j=k+1 by omega) with h1|rfl
  ·have:=ih h1 VL;have h2:=LP h hk;simp only [Bi] at h2;omega
  ·exact ⟨Int.le_refl _,Int.le_refl _⟩
theorem Xz2{n:Nat}{p:Nat->Int}{x:Int}(hn:2<=n)(hx:x<=p (n-1)):RN n p x<n-1:=by
 obtain ⟨h1,h2,h3⟩:=DZ (λk=>decide (x<=p (k+1))) (n-1)
 unfold RN;rcases An (GW (λk=>decide (x<=p (k+1))) (n-1)) (n-1) with h|h
 ·exact h
 ·have:=h2 (n-2) VL;rw [show n-2+1=n-1 by omega] at this
  simp at this;omega
theorem catF1{k j:Nat}{a:Nat->Int}{x:Int}(h:j<k+1)(hx:x=a k):GJ k (λk=>[i (a k)]) (U8 1 [i x]) j=[i (a j)]:=by
 have e:j-k=0:=VL;show HF (decide (j<k)) [i (a j)] (U8 1 [i x] (j-k))=_;rw [e];by_cases hj:j<k
 ·rw [show decide (j<k)=true by simp [hj]]
  rfl
 ·have hk:j=k:=VL;rw [show decide (j<k)=false by simp [hj],hk,hx]
  rfl
theorem Jf3(a b:Nat->Int):col 0 (λk=>[i (a k),i (b k)])=a:=rfl
theorem Jf2(a b:Nat->Int):col 1 (λk=>[i (a k),i (b k)])=b:=rfl
theorem AK{n:Nat}{p q:Nat->Int}{x:Int}(hn:2<=n)(ht:xT n p q=true)(hx:p 0<=x/\x<=p (n-1)):RN n p x<n-1/\p (RN n p x)<=x/\x<=p (RN n p x+1):=by
 have h1:=Xz2 hn hx.2;obtain ⟨f1,f2,f3⟩:=DZ (λk=>decide (x<=p (k+1))) (n-1)
 have h3:=f3 h1;refine ⟨h1,?_,wL h3⟩;rcases Nat.eq_zero_or_pos (RN n p x) with h|h
 ·rw [h];exact hx.1
 ·have:=f2 (RN n p x-1) (by unfold RN at h ⊢;omega)
  rw [show RN n p x-1+1=RN n p x by omega] at this
  simp at this;omega
theorem dN{p q:Nat->Int}{x:Int}{k:Nat}(hp:p k<p (k+1))(hq:q k<q (k+1))(h1:p k<=x)(h2:x<=p (k+1)):dO p q x k=q k+(q (k+1)-q k)*(x-p k) / (p (k+1)-p k)/\q k<=dO p q x k/\dO p q x k<=q (k+1):=by
 have m0:0<=(q (k+1)-q k)*(x-p k):=Int.mul_nonneg VL VL;have e:dO p q x k=q k+(q (k+1)-q k)*(x-p k) / (p (k+1)-p k):=by
  unfold dO;rw [Int.tdiv_eq_ediv_of_nonneg m0]
 have m1:(q (k+1)-q k)*(x-p k)<=(q (k+1)-q k)*(p (k+1)-p k):=Int.mul_le_mul_of_nonneg_left VL VL;have d0:0<=(q (k+1)-q k)*(x-p k) / (p (k+1)-p k):=Int.ediv_nonneg m0 VL;have d1:(q (k+1)-q k)*(x-p k) / (p (k+1)-p k)<=q (k+1)-q k:=Int.ediv_le_of_le_mul VL m1;rw [e];omega
theorem Qy0{n:Nat}{p:Nat->Int}{x y:Int}(h:x<=y):RN n p x<=RN n p y:=by
 obtain ⟨f1,f2,f3⟩:=DZ (λk=>decide (x<=p (k+1))) (n-1)
 obtain ⟨g1,g2,g3⟩:=DZ (λk=>decide (y<=p (k+1))) (n-1)
 unfold RN;rcases An (GW (λk=>decide (y<=p (k+1))) (n-1)) (GW (λk=>decide (x<=p (k+1))) (n-1)) with hl|hl
 ·have a1:=f2 _ hl;have a2:=g3 VL;simp at a1 a2;omega
 ·exact hl
theorem boil_spec{n:Nat}{p q:Nat->Int}{x:Int}(hn:2<=n)(ht:xT n p q=true)(hx:p 0<=x/\x<=p (n-1)):q 0<=boilI n p q x/\boilI n p q x<=q (n-1)/\1<=boilI n p q x/\boilI n p q x<=2000:=by
 obtain ⟨h1,h2,h3⟩:=AK hn ht hx;have s:=LP ht (show RN n p x+1<n by omega)
 simp only [Bi] at s;have b:=dN (p:=p) (q:=q) (x:=x) (k:=RN n p x) VL VL h2 h3;have m1:=AC ht (show 0<=RN n p x by omega) (show RN n p x<n by omega)
 have m2:=AC ht (show RN n p x+1<=n-1 by omega) (show n-1<n by omega)
 have z:=LP ht (show 0<n by omega)
 have z2:=LP ht (show n-1<n by omega)
 unfold boilI;omega
theorem boil_mono{n:Nat}{p q:Nat->Int}{x y:Int}(hn:2<=n)(ht:xT n p q=true)(hx:p 0<=x)(hxy:x<=y)(hy:y<=p (n-1)):boilI n p q x<=boilI n p q y:=by
 obtain ⟨h1,h2,h3⟩:=AK hn ht (x:=x) VL;obtain ⟨g1,g2,g3⟩:=AK hn ht (x:=y) VL;have s:=LP ht (show RN n p x+1<n by omega)
 have s':=LP ht (show RN n p y+1<n by omega)
 simp only [Bi] at s s';have b:=dN (p:=p) (q:=q) (x:=x) (k:=RN n p x) VL VL h2 h3;have b':=dN (p:=p) (q:=q) (x:=y) (k:=RN n p y) VL VL g2 g3;have hm:=Qy0 (n:=n) (p:=p) hxy;unfold boilI;rcases An (RN n p x) (RN n p y) with hl|hl
 ·have m:=AC ht (show RN n p x+1<=RN n p y by omega) (show RN n p y<n by omega)
  omega
 ·have e:RN n p x=RN n p y:=VL;rw [b.1,b'.1,e];rw [e] at s;have:=Int.ediv_le_ediv (show 0<p (RN n p y+1)-p (RN n p y) by omega) (Int.mul_le_mul_of_nonneg_left (show x-p (RN n p y)<=y-p (RN n p y) by omega) (show 0<=q (RN n p y+1)-q (RN n p y) by omega))
  omega
def a9:G0
 |[.lst 2 n f]=>some ([],.fn (.func 225) [] [.ro [.lst 2 n f]])
 |_=>none
theorem Qx5(n:Nat)(f:Nat->List AV):FO VQ 191 [.lst 2 n f] (.fn (.func 225) [] [.ro [.lst 2 n f]]):=by
 refine D2 (L:=[]) Aa Ad U0 Tryz.func191 (UV Tryz.f191) G4 (t:=leaf (AV.fn (Fn.func 225) [] [AV.ro [lst 2 n λa=>f a]])) VX ?_
 exact rfl
theorem MS:PI VQ 191 a9:=by
 refine ⟨(UJ Tryz.func191),?_⟩;intro avs ns W h hn;unfold a9 at h;split at h
 ·cases h;exact Qx5 _ _
 ·cases h
def stV(p q:Nat->Int)(k:Nat):Value:= .agg #[.int .i64 (p k),.int .i64 (q k)]
def spV(p q:Nat->Int)(k:Nat):List Value:=[stV p q k,stV p q (k+1)]
section
variable (l:Nat)
abbrev KS:AV:=AV.fn (Fn.yield l) [] []
def Wx3(n:Nat)(p q:Nat->Int):St:={σ:=[KS l,AV.ro [QS n p q],top,top,top,top,lst 2 (n-(1:Int).toNat) λi=>[iI (p ((1:Int).toNat+i)),iI (q ((1:Int).toNat+i))],iI (↑(n-(1:Int).toNat):Int)]++HK 14 [],m:=[],nx:=4,gh:=some 0}
noncomputable def Zo4:Code:=UC (VU (UA Tryz.f225) 0)
def T9(n:Nat)(p q:Nat->Int)(k:Nat):St:={σ:=H6 [(8,i k)] (Wx3 l n p q).σ,m:=[],nx:=0,gh:=some (k) }
def jH(n:Nat)(p q:Nat->Int)(k:Nat):GB->Option St
 | .exit 0=>some {σ:=H6 [] (Wx3 l n p q).σ,m:=[],nx:=0,gh:=some (n-1) }
 | .ret=>some {σ:=H6 [] (Wx3 l n p q).σ,m:=[],nx:=0,gh:=none}
 |_=>none
def Jh0(n:Nat)(p q:Nat->Int):CT:= .may True (.leaf (.exit 0,(jH l n p q 0 (.exit 0)).getD (Wx3 l n p q))) (.leaf (.ret,(jH l n p q 0 .ret).getD (Wx3 l n p q)))
def Xr2(n:Nat)(p q:Nat->Int):UL:=GN [] (HM (T9 l n p q (0)) (Jh0 l n p q))
theorem Zt2(n:Nat)(p q:Nat->Int)(VV:1<=n/\n<=100000){cx:Cx}(hX:VY VQ {Y:=some (l,(n-1),(spV p q)) } cx):HH VQ none cx (.loop Zo4) (Xr2 l n p q):=by
 refine FI [] (L:=[]) Aa hX U0 G4 (V:=Nat) (T9 l n p q) (λk=>k<=n-1) (λk=>n-k) (jH l n p q) (x0:=0) VW ?_ ?_ ?_
 ·rintro k;kernel_rfl
 ·rintro k y E h;unfold jH at h;split at h
  ·cases h;kernel_rfl
  ·cases h;kernel_rfl
  ·cases h
 ·rintro Q hQ k hx;refine ⟨(k+1),?_⟩;have e:HX VQ [] {Y:=some (l,(n-1),(spV p q)) } [] [] Zo4 (T9 l n p q k) (T9 l n p q ((k+1))) (jH l n p q k)=(let A:=(U1 (lst 2 (n-(1:Int).toNat) λi=>[iI (p ((1:Int).toNat+i)),iI (q ((1:Int).toNat+i))]));let I:=(U1 (↑(n-(1:Int).toNat):Int));(branch (decide ((k:Int)<(↑(n-(1:Int).toNat):Int))) (need [UN k (↑(n-(1:Int).toNat):Int)] (need [UN k n] (need [l=l,k<n-1,[Value.agg {toList:=[Value.int IntKind.i64 (p k),Value.int IntKind.i64 (q k)] },Value.agg {toList:=[Value.int IntKind.i64 (p ((1:Int).toNat+k)),Value.int IntKind.i64 (q ((1:Int).toNat+k))] }]=[Value.agg {toList:=[Value.int IntKind.i64 (p k),Value.int IntKind.i64 (q k)] },Value.agg {toList:=[Value.int IntKind.i64 (p (k+1)),Value.int IntKind.i64 (q (k+1))] }]] (VO.may True (need [VN ((k:Int)+1)] (need [KS l=KS l,U1 (AV.ro [QS n p q]),A,I,(k:Int)+1=(↑(k+1):Int),k+1=k+1] (leaf GB.normal))) (need [KS l=KS l,U1 (AV.ro [QS n p q]),A,I] (leaf GB.ret)))))) (need [KS l=KS l,U1 (AV.ro [QS n p q]),A,I,k=n-1] (leaf (GB.exit 0))))):=VX
  rw [e];simp only [Jh0,jH,VO.sat,GX] at hQ;have hQ1: ∀E,jH l n p q k (.exit 0)=some E->Q (.exit 0,E):=λE hE=>by cases hE;exact hQ.1 trivial
  have hQ2: ∀E,jH l n p q k .ret=some E->Q (.ret,E):=λE hE=>by cases hE;exact hQ.2
  have t1:(1:Int).toNat=1:=rfl;have t2:1+k=k+1:=VL;simp only [VO.sat,UE,UK,HG,VN,FF,t1,t2];clear e hQ;all_goals exact V6
end
section
variable (n:Nat)
theorem mG(p q:Nat->Int)(VV:1<=n/\n<=100000):B8 Tryz.prog 225 [.ro [scs n p q]] ((n-1)) (spV p q):=by
 refine BJ (L:=λl=>[Xr2 l n p q]) Aa U0 (UJ Tryz.func225) Tryz.func225 (UV Tryz.f225) VX (λl cx hX=>GA (lpE (b:= .loop Zo4) VX<|Zt2 l n p q VV hX)) (t:=λl=>(need [(0:Int)<=1/\(1:Int)<=(n:Int)/\(n:Int)<=(n:Int)] (need [U1 (AV.fn (Fn.yield l) [] []),U1 (AV.ro [QS n p q]),U1 (lst 2 (n-(1:Int).toNat) λi=>[iI (p ((1:Int).toNat+i)),iI (q ((1:Int).toNat+i))]),U1 (↑(n-(1:Int).toNat):Int),(0:Int)=(↑(0:Nat):Int),0=0] (VO.may True (need [n-1=n-1] (leaf PUnit.unit)) (leaf PUnit.unit))))) (λl=>VX) ?_
 intro l;simp only [VO.sat,UE,G5,GL,UH,VN,UK,HG,RX];all_goals exact V6
abbrev JZ(p:Nat->Int)(q:Nat->Int):AV:=AV.fn (Fn.func 225) [] [AV.ro [QS n p q]]
def sE(p q:Nat->Int)(y:Int):St:={σ:=[QS n p q,iI y,top,ptr 0 0,ptr 1 0,top,top,top,JZ n p q]++HK 25 [],m:=[(1,GQ.cells 3 [iI 0]),(0,GQ.cells 3 [iI y])],nx:=4}
def rfF:Option Code->Operand
 |some (.rangeFunc f _ _ _)=>f
 |_=> .const .nilFunc
def jE:Option Code->Array Nat
 |some (.rangeFunc _ ps _ _)=>ps
 |_=>#[]
def S9:Option Code->Code
 |some (.rangeFunc _ _ a _)=>a
 |_=> .skip
def S8:Option Code->Code
 |some (.rangeFunc _ _ _ b)=>b
 |_=> .skip
noncomputable def Zp2:Code:=S9 (VU (UA Tryz.f154) 0)
noncomputable def Qr1:Code:=S8 (VU (UA Tryz.f154) 0)
def vE(p q:Nat->Int)(y:Int)(k:Nat):St:=(upM [] (sE n p q y))
def PO(p q:Nat->Int)(y:Int)(k:Nat):GB->Option St
 | .ret=>some (upE [] [(1,.cells 3 [i (boilI n p q y)])] (sE n p q y))
 |_=>none
def Ws6(p q:Nat->Int)(y:Int):CT:= .leaf (.ret,(PO n p q y 0 .ret).getD (sE n p q y))
def lV(p q:Nat->Int)(y:Int):UL:=GN [] (HM (vE n p q y (0)) (Ws6 n p q y))
abbrev YV:Ext:={R:=[(191,a9)],H:=[] }
theorem Jf9(p q:Nat->Int)(y:Int)(VV:2<=n/\n<=100000)(UI:xT n p q=true)(HR: -100000<=y/\y<=p (n-1)):HQ VQ (.rangeFunc (rfF (VU (UA Tryz.f154) 0)) (jE (VU (UA Tryz.f154) 0)) Zp2 Qr1) (lV n p q y):=by
 refine PA [] (L:=[]) Aa (Ai (Af MS Ab) Ac) U0 U7 (V:=Nat) (vE n p q y) (λk=>k<=n-1/\ ∀j,j<k->decide (y<=p (j+1))=false) (λk=>k) (PO n p q y) (x0:=0) ⟨VL,λj hj=>VL⟩ rfl ?_ ?_ ?_ ?_ (g:=225) (caps:=[.ro [scs n p q]]) VX VX (mG n p q VL) (λ_=>rfl) ?_
 ·rintro k;kernel_rfl
 ·rintro k y E h;unfold PO at h;split at h
  ·cases h;kernel_rfl
  ·cases h
 ·rintro k;rfl
 ·rintro k y E h;unfold PO at h;split at h
  ·cases h;rfl
  ·cases h
 ·rintro Q hQ k hx;refine ⟨λhlt=>⟨(k+1),rfl,?_⟩,λPS=>?_⟩
  ·have e:AM VQ [] YV [] [] (jE (VU (UA Tryz.f154) 0)).toList ((spV p q) (k)) Zp2 Qr1 (vE n p q y k) (vE n p q y ((k+1))) (PO n p q y k)=(branch (decide (y<=p (k+1))) (need [VN (q (k+1)-q k)] (need [VN (y-p k)] (need [VN ((q (k+1)-q k)*(y-p k))] (need [VN (p (k+1)-p k)] (need [p (k+1)-p k≠0,VN (Int.tdiv ((q (k+1)-q k)*(y-p k)) (p (k+1)-p k))] (need [VN (q k+Int.tdiv ((q (k+1)-q k)*(y-p k)) (p (k+1)-p k))] (need [JN n p q,y=y,U1 (ptr 0 0),U1 (ptr 1 0),U1 (JZ n p q),q k+Int.tdiv ((q (k+1)-q k)*(y-p k)) (p (k+1)-p k)=boilI n p q y] (leaf GB.ret)))))))) (need [JN n p q,y=y,U1 (ptr 0 0),U1 (ptr 1 0),U1 (JZ n p q),U1 (0:Int),y=y] (leaf GB.normal))):=VX;rw [e];simp only [Ws6,PO,VO.sat,GX] at hQ;have hQ2: ∀E,PO n p q y k .ret=some E->Q (.ret,E):=λE hE=>by cases hE;exact hQ
   simp only [VO.sat,UE,UK,HG,VN];clear e hQ;have sl:=LP UI (show n-1<n by omega)
   have s0:=LP UI (show k<n by omega)
   have s1:=LP UI (show k+1<n by omega)
   simp only [Bi] at s1;have m:=mul_bd (x:=q (k+1)-q k) (y:=y-p k) (X:=2000) (Y:=200000) VL VL;have dv:(((q (k+1)-q k)*(y-p k)).tdiv (p (k+1)-p k)).natAbs<=((q (k+1)-q k)*(y-p k)).natAbs:=by
    rw [Int.natAbs_tdiv];exact Nat.div_le_self _ _
   refine ⟨λh=>?_,λh=>?_⟩
   ·have hf:RN n p y=k:=zI hlt (by simpa using h) hx.2
    have hbo:boilI n p q y=q k+((q (k+1)-q k)*(y-p k)).tdiv (p (k+1)-p k):=by unfold boilI;rw [hf];rfl
    rw [hbo];all_goals exact V6
   ·refine ⟨VL,λj hj=>?_⟩
    rcases (show j<k\/j=k by omega) with h1|rfl
    ·have:=hx.2 j h1;simpa using this
    ·exact h
  ·exfalso;have:=hx.2 (n-2) VL;rw [show n-2+1=n-1 by omega] at this
   simp at this;omega
theorem Xh5(p q:Nat->Int)(y:Int)(VV:2<=n/\n<=100000)(UI:xT n p q=true)(HR: -100000<=y/\y<=p (n-1)):VZ VQ 154 [scs n p q,i y] (i (boilI n p q y)):=by
 refine G9 (L:=[lV n p q y]) Aa (Ai (Af MS Ab) Ac) U0 Tryz.func154 (UV Tryz.f154) (GA (lpE (b:= .rangeFunc (rfF (VU (UA Tryz.f154) 0)) (jE (VU (UA Tryz.f154) 0)) Zp2 Qr1) VX<|Jf9 n p q y VV UI HR)) (t:=need [JN n p q,y=y,U1 (ptr 0 0),U1 (ptr 1 0),U1 (JZ n p q),U1 (0:Int),y=y] (leaf (RV.x (.int .i64 (boilI n p q y))))) VX ?_
 simp only [VO.sat,UE,G5,GL,UH,VN,UK];all_goals first|omega|grind
end
def Wt4:G0
 |[.lst 2 n f,.x (.int .i64 y)]=>some ([UG 2 n f,2<=n/\n<=100000,xT n (col 0 f) (col 1 f)=true,-100000<=y/\y<=col 0 f (n-1)],i (boilI n (col 0 f) (col 1 f) y))
 |_=>none
theorem Xh4:VS VQ 154 Wt4:=by
 refine ⟨(UJ Tryz.func154),?_⟩;intro avs ns W h hn;unfold Wt4 at h;split at h
 ·rename_i n f y;cases h;have hr:UG 2 n f:=hn _ VW;exact (Xh5 n (col 0 f) (col 1 f) y (hn _ VW) (hn _ VW) (hn _ VW)).same (.cons (.lst 2 n _ _ hr) (.cons (.refl _) .nil))
 ·cases h
section
variable (n:Nat)(p q:Nat->Int)(U O:Int)
def blE:Int:=if tbE n p q=0 then (if insB (p 0) U O (p (n-1)) then 0 else 2) else tbE n p q
def blLo:Int:=if blE n p q U O=0 then boilI n p q U else 0
def blHi:Int:=if blE n p q U O=0 then boilI n p q O else 0
end
theorem Qw7{n:Nat}{p q:Nat->Int}(h:tbE n p q=0):2<=n/\n<=8/\xT n p q=true:=by
 unfold tbE at h;split at h
 ·omega
 ·split at h
  ·omega
  ·split at h
   ·rename_i h3;exact ⟨VL,VL,h3⟩
   ·omega
theorem Wy3(n:Nat)(p q:Nat->Int)(U O:Int)(VV:n<=100000):VZ VQ 116 [scs n p q,.agg [i U,i O]] (.tup [.agg [i (blLo n p q U O),i (blHi n p q U O)],i (blE n p q U O)]):=by
 refine U4 (L:=[]) (Ae Qw8 (Ae PQ (Ae Xh4 Aa))) U0 Tryz.func116 (UV Tryz.f116) U7 (t:=need [UG 2 n λk=>[i (p k),i (q k)],n<=100000] (branch (tbE n p q != 0) (leaf (RV.tup [RV.agg [RV.x (K7),RV.x (K7)],RV.x (.int .i64 (tbE n p q))])) (need [UN 0 n] (need [VN ((n:Int)-1)] (need [UN ((n:Int)-1) n] (branch (!insB (p (0:Int).toNat) U O (p ((n:Int)-1).toNat)) (leaf (RV.tup [RV.agg [RV.x (K7),RV.x (K7)],RV.x (.int .i64 (2:Int))])) (need [UG 2 n λk=>[i (p k),i (q k)],2<=n/\n<=100000,xT n p q=true,(-100000:Int)<=U/\U<=p (n-1)] (need [UG 2 n λk=>[i (p k),i (q k)],2<=n/\n<=100000,xT n p q=true,(-100000:Int)<=O/\O<=p (n-1)] (leaf (RV.tup [RV.agg [RV.x (.int .i64 (boilI n p q U)),RV.x (.int .i64 (boilI n p q O))],RV.x (K7)])))))))))) VX ?_
 simp only [VO.sat,UE,G5,GL,UH,UK,Jf3,Jf2,VN,show (0:Int).toNat=0 from rfl];refine ⟨⟨isRec2 n p q,VV⟩,λh=>?_,λh=>?_⟩
 ·have h':tbE n p q≠0:=by simpa using h
  simp [blLo,blHi,blE,h']
 ·have h':tbE n p q=0:=by simpa using h
  obtain ⟨t1,t2,t3⟩:=Qw7 h';have e1:((n:Int)-1).toNat=n-1:=VL;have s0:=LP t3 (show 0<n by omega)
  simp only [e1];refine ⟨VL,VL,VL,λh2=>?_,λh2=>?_⟩
  ·have h2':insB (p 0) U O (p (n-1))=false:=by simpa using h2
   simp [blLo,blHi,blE,h',h2']
  ·have h2':insB (p 0) U O (p (n-1))=true:=by simpa using h2
   have b:=(insB_iff _ _ _ _).1 h2';refine ⟨⟨isRec2 n p q,VL,t3,VL⟩,⟨isRec2 n p q,VL,t3,VL⟩,?_⟩;simp [blLo,blHi,blE,h',h2']
def Qf1:G0
 |[.lst 2 n f,.agg [.x (.int .i64 U),.x (.int .i64 O)]]=>some ([UG 2 n f,n<=100000],.tup [.agg [i (blLo n (col 0 f) (col 1 f) U O),i (blHi n (col 0 f) (col 1 f) U O)],i (blE n (col 0 f) (col 1 f) U O)])
 |_=>none
theorem blE_ok{n:Nat}{p q:Nat->Int}{U O:Int}(h:blE n p q U O=0):2<=n/\n<=8/\xT n p q=true/\p 0<=U/\U<=O/\O<=p (n-1):=by
 unfold blE at h;split at h
 ·rename_i h1;obtain ⟨t1,t2,t3⟩:=Qw7 h1;split at h
  ·rename_i h2;have:=(insB_iff _ _ _ _).1 h2;exact ⟨t1,t2,t3,this⟩
  ·omega
 ·contradiction
theorem Boils_ok:VS VQ 116 Qf1:=by
 refine ⟨(UJ Tryz.func116),?_⟩;intro avs ns W h hn;unfold Qf1 at h;split at h
 ·rename_i n f U O;cases h;have hr:UG 2 n f:=hn _ VW;exact (Wy3 n (col 0 f) (col 1 f) U O (hn _ VW)).same (.cons (.lst 2 n _ _ hr) (.cons (.refl _) .nil))
 ·cases h
end Go.Proofs.YtakpdkmhclhlnaaGreatDoor.Pt
namespace Go.Proofs.YtakpdkmhclhlnaaGreatDoor.Bo
open Go Go.Sx Go.RowKit Go.ChangeShapes Go.WideShapes Go.ChangeAt
open Go.Sx.VO (need branch leaf)
open Go.Sx.AV (lst ptr agg roI tup top)
theorem U0:Tryz.prog.follows .mixedOrders=true:=VX
abbrev i(n:Int):AV:= .x (.int .i64 n)
abbrev iI(n:Int):AV:= .x (.int .i64 n)
abbrev bl(b:Bool):AV:= .x (.bool b)
def bt(U n O:Int):Bool:=decide (U<=n)&&decide (n<=O)
theorem bt_iff(U n O:Int):bt U n O=true↔U<=n/\n<=O:=by simp [bt]
def insB(U a b O:Int):Bool:=decide (U<=a)&&decide (a<=b)&&decide (b<=O)
theorem insB_iff(U a b O:Int):insB U a b O=true↔U<=a/\a<=b/\b<=O:=by simp [insB,and_assoc]
def BZ(c T U O:Int):Bool:=bt 1 c 10&&insB 1 U O 200&&bt 1 T 2000&&bt (c*U) T (c*O)
def rdB(c a b u v:Int):Bool:=bt 0 a (c-1)&&bt a b c&&insB 0 u v 2000
def B9:G0
 |[.x (.int .i64 n),.x (.int .i64 U),.x (.int .i64 O)]=>some ([],bl (bt U n O))
 |_=>none
abbrev YG:Value:=Value.bool false
theorem wO(n U O:Int):VZ VQ 155 [i n,i U,i O] (bl (bt U n O)):=by
 refine GT Tryz.func155 (t:=branch (decide (U<=n)) (leaf (RV.x (.bool (decide (n<=O))))) (leaf (RV.x (YG)))) VX ?_;simp only [VO.sat,UE,G5,GL,UH,UK];all_goals (simp+contextual [bt,insB,Bool.and_assoc]);all_goals omega
theorem RI:VS VQ 155 B9:=by
 refine ⟨(UJ Tryz.func155),?_⟩;intro avs ns W h hn;unfold B9 at h;split at h
 ·cases h;exact wO _ _ _
 ·cases h
def BA:G0
 |[.agg [.x (.int .i64 a),.x (.int .i64 b)],.x (.int .i64 U),.x (.int .i64 O)]=>some ([],bl (insB U a b O))
 |_=>none
theorem x9(a b U O:Int):VZ VQ 156 [.agg [i a,i b],i U,i O] (bl (insB U a b O)):=by
 refine GT Tryz.func156 (t:=branch (decide (U<=a)) (branch (decide (a<=b)) (leaf (RV.x (.bool (decide (b<=O))))) (leaf (RV.x (YG)))) (leaf (RV.x (YG)))) VX ?_;simp only [VO.sat,UE,G5,GL,UH,UK];all_goals (simp+contextual [bt,insB,Bool.and_assoc]);all_goals omega
theorem PQ:VS VQ 156 BA:=by
 refine ⟨(UJ Tryz.func156),?_⟩;intro avs ns W h hn;unfold BA at h;split at h
 ·cases h;exact x9 _ _ _ _
 ·cases h
theorem mul_bd{x y X Y:Int}(hx: -X<=x/\x<=X)(hy: -Y<=y/\y<=Y): -(X*Y)<=x*y/\x*y<=X*Y:=by
 have h1:=Int.mul_nonneg (show 0<=X-x by omega) (show 0<=Y-y by omega)
 have h2:=Int.mul_nonneg (show 0<=X+x by omega) (show 0<=Y+y by omega)
 have h3:=Int.mul_nonneg (show 0<=X-x by omega) (show 0<=Y+y by omega)
 have h4:=Int.mul_nonneg (show 0<=X+x by omega) (show 0<=Y-y by omega)
 rw [Int.sub_mul,Int.mul_sub,Int.mul_sub] at h1;rw [Int.add_mul,Int.mul_add,Int.mul_add] at h2;rw [Int.sub_mul,Int.mul_add,Int.mul_add] at h3;rw [Int.add_mul,Int.mul_sub,Int.mul_sub] at h4;omega
def fX:G0
 |[.agg [.x (.int .i64 c),.x (.int .i64 T),.x (.int .i64 U),.x (.int .i64 O)]]=>some ([],i (if BZ c T U O then 0 else 1))
 |_=>none
abbrev JT:Value:=Value.int IntKind.i64 (0:Int)
abbrev Y9:Value:=Value.int IntKind.i64 (1:Int)
theorem aJ(c T U O:Int):VZ VQ 117 [.agg [i c,i T,i U,i O]] (i (if BZ c T U O then 0 else 1)):=by
 refine U4 (L:=[]) (Ae RI (Ae PQ Aa)) U0 Tryz.func117 (UV Tryz.f117) U7 (t:=branch (!bt (1:Int) c (10:Int)) (leaf (RV.x (Y9))) (branch (!insB (1:Int) U O (200:Int)) (leaf (RV.x (Y9))) (branch (!bt (1:Int) T (2000:Int)) (leaf (RV.x (Y9))) (need [VN (c*U)] (need [VN (c*O)] (branch (!bt (c*U) T (c*O)) (leaf (RV.x (Y9))) (leaf (RV.x (JT))))))))) VX ?_;simp only [VO.sat,UE,G5,UH,UK,VN,BZ];rcases Bool.eq_false_or_eq_true (bt 1 c 10) with h1|h1
 rotate_left
 ·simp [h1]
 rcases Bool.eq_false_or_eq_true (insB 1 U O 200) with h2|h2
 rotate_left
 ·simp [h1,h2]
 rcases Bool.eq_false_or_eq_true (bt 1 T 2000) with h3|h3
 rotate_left
 ·simp [h1,h2,h3]
 have e1:=(bt_iff _ _ _).1 h1;have e2:=(insB_iff _ _ _ _).1 h2;have m1:=mul_bd (x:=c) (y:=U) (X:=10) (Y:=200) VL VL;have m2:=mul_bd (x:=c) (y:=O) (X:=10) (Y:=200) VL VL;rcases Bool.eq_false_or_eq_true (bt (c*U) T (c*O)) with h4|h4<;>simp [h1,h2,h3,h4]<;>omega
theorem CheckTube_ok:VS VQ 117 fX:=by
 refine ⟨(UJ Tryz.func117),?_⟩;intro avs ns W h hn;unfold fX at h;split at h
 ·cases h;exact aJ _ _ _ _
 ·cases h
def OE:G0
 |[.agg [.x (.int .i64 c),.x (.int .i64 T),.x (.int .i64 U),.x (.int .i64 O)],.agg [.x (.int .i64 a),.x (.int .i64 b),.x (.int .i64 u),.x (.int .i64 v)]]=>some ([1<=c/\c<=10],bl (rdB c a b u v))
 |_=>none
theorem mS(c T U O a b u v:Int)(VV:1<=c/\c<=10):VZ VQ 192 [.agg [i c,i T,i U,i O],.agg [i a,i b,i u,i v]] (bl (rdB c a b u v)):=by
 refine U4 (L:=[]) (Ae RI (Ae PQ Aa)) U0 Tryz.func192 (UV Tryz.f192) U7 (t:=need [VN (c-1)] (branch (bt (0:Int) a (c-1)) (branch (bt a b c) (leaf (RV.x (.bool (insB (0:Int) u v (2000:Int))))) (leaf (RV.x (YG)))) (leaf (RV.x (YG))))) VX ?_;simp only [VO.sat,UE,G5,UH,UK,VN,rdB];refine ⟨VL,?_⟩;cases h1:bt 0 a (c-1)<;>cases h2:bt a b c<;>cases h3:insB 0 u v 2000<;>simp
theorem mR:VS VQ 192 OE:=by
 refine ⟨(UJ Tryz.func192),?_⟩;intro avs ns W h hn;unfold OE at h;split at h
 ·cases h;exact mS _ _ _ _ _ _ _ _ (hn _ VW)
 ·cases h
end Go.Proofs.YtakpdkmhclhlnaaGreatDoor.Bo
namespace Go.Proofs.YtakpdkmhclhlnaaGreatDoor.Bo
open Go Go.Sx Go.RowKit
open Go.Sx.VO (need branch leaf)
open Go.Sx.AV (lst ptr agg roI tup top)
theorem Wz9(a b:Int):VZ VQ 135 [.lst 1 2 (λk=>[i (if k=0 then a else b)])] (i (min a b)):=by
 refine U4 (L:=[λs=>some (xS Tryz.prog [] [] (UC (VU (UA Tryz.f135) 0)) 3 s)]) Aa U0 Tryz.func135 (UV Tryz.f135) (GA (lpE (b:= .loop (UC (VU (UA Tryz.f135) 0))) VX<|L8 Aa U0 U7 _)) (t:=let A:=(min (if (0:Int).toNat=0 then a else b) (if (1:Int).toNat=0 then a else b));(branch (decide ((↑(2:Nat):Int)<1)) VO.fail (need [UN 0 2] (branch (decide ((1:Int)<(↑(2:Nat):Int))) (need [UN 1 2] (need [VN ((1:Int)+1)] (branch (decide ((1:Int)+1<(↑(2:Nat):Int))) (need [(0:Int)<=1+1/\(1:Int)+1<(↑(2:Nat):Int)] (need [VN ((1:Int)+1+1)] (branch (decide ((1:Int)+1+1<(↑(2:Nat):Int))) (need [(0:Int)<=1+1+1/\(1:Int)+1+1<(↑(2:Nat):Int)] (need [VN ((1:Int)+1+1+1)] VO.fail)) (leaf (RV.x (.int .i64 (min A (if ((1:Int)+1).toNat=0 then a else b)))))))) (leaf (RV.x (.int .i64 A)))))) (leaf (RV.x (.int .i64 (if (0:Int).toNat=0 then a else b)))))))) VX ?_
 simp [VO.sat,UE,G5,GL,UH,VN]
theorem Xa0(a b:Int):VZ VQ 136 [.lst 1 2 (λk=>[i (if k=0 then a else b)])] (i (max a b)):=by
 refine U4 (L:=[λs=>some (xS Tryz.prog [] [] (UC (VU (UA Tryz.f136) 0)) 3 s)]) Aa U0 Tryz.func136 (UV Tryz.f136) (GA (lpE (b:= .loop (UC (VU (UA Tryz.f136) 0))) VX<|L8 Aa U0 U7 _)) (t:=let A:=(max (if (0:Int).toNat=0 then a else b) (if (1:Int).toNat=0 then a else b));(branch (decide ((↑(2:Nat):Int)<1)) VO.fail (need [UN 0 2] (branch (decide ((1:Int)<(↑(2:Nat):Int))) (need [UN 1 2] (need [VN ((1:Int)+1)] (branch (decide ((1:Int)+1<(↑(2:Nat):Int))) (need [(0:Int)<=1+1/\(1:Int)+1<(↑(2:Nat):Int)] (need [VN ((1:Int)+1+1)] (branch (decide ((1:Int)+1+1<(↑(2:Nat):Int))) (need [(0:Int)<=1+1+1/\(1:Int)+1+1<(↑(2:Nat):Int)] (need [VN ((1:Int)+1+1+1)] VO.fail)) (leaf (RV.x (.int .i64 (max A (if ((1:Int)+1).toNat=0 then a else b)))))))) (leaf (RV.x (.int .i64 A)))))) (leaf (RV.x (.int .i64 (if (0:Int).toNat=0 then a else b)))))))) VX ?_
 simp [VO.sat,UE,G5,GL,UH,VN]
def kD:G0
 |[.lst 1 2 f]=>(match f 0,f 1 with
  |[.x (.int .i64 a)],[.x (.int .i64 b)]=>some ([],i (min a b))
  |_,_=>none)
 |_=>none
theorem S7:VS VQ 135 kD:=by
 refine ⟨(UJ Tryz.func135),?_⟩;intro avs ns W h hn;unfold kD at h;split at h
 ·rename_i f;split at h
  ·rename_i a b h0 h1;cases h;refine (Wz9 a b).same (.cons (.lst 1 2 _ _ ?_) .nil);intro k hk;rcases (show k=0\/k=1 by omega) with rfl|rfl
   ·exact h0
   ·exact h1
  ·cases h
 ·cases h
def dQ:G0
 |[.lst 1 2 f]=>(match f 0,f 1 with
  |[.x (.int .i64 a)],[.x (.int .i64 b)]=>some ([],i (max a b))
  |_,_=>none)
 |_=>none
theorem sP:VS VQ 136 dQ:=by
 refine ⟨(UJ Tryz.func136),?_⟩;intro avs ns W h hn;unfold dQ at h;split at h
 ·rename_i f;split at h
  ·rename_i a b h0 h1;cases h;refine (Xa0 a b).same (.cons (.lst 1 2 _ _ ?_) .nil);intro k hk;rcases (show k=0\/k=1 by omega) with rfl|rfl
   ·exact h0
   ·exact h1
  ·cases h
 ·cases h
theorem Wd1(a b:Int):VZ VQ 228 [.lst 1 2 (λk=>[i (if k=0 then a else b)])] (i (min a b)):=by
 refine U4 (L:=[]) (Ae S7 Aa) U0 Tryz.func228 (UV Tryz.f228) U7 (t:=leaf (RV.x (.int .i64 (min (if 0=0 then a else b) (if 1=0 then a else b))))) VX ?_
 simp [VO.sat,G5,UH]
def rZ:G0:=kD
theorem LT:VS VQ 228 rZ:=by
 refine ⟨(UJ Tryz.func228),?_⟩;intro avs ns W h hn;unfold rZ kD at h;split at h
 ·rename_i f;split at h
  ·rename_i a b h0 h1;cases h;refine (Wd1 a b).same (.cons (.lst 1 2 _ _ ?_) .nil);intro k hk;rcases (show k=0\/k=1 by omega) with rfl|rfl
   ·exact h0
   ·exact h1
  ·cases h
 ·cases h
theorem i9(a b:Int):VZ VQ 251 [.lst 1 2 (λk=>[i (if k=0 then a else b)])] (i (max a b)):=by
 refine U4 (L:=[]) (Ae sP Aa) U0 Tryz.func251 (UV Tryz.f251) U7 (t:=leaf (RV.x (.int .i64 (max (if 0=0 then a else b) (if 1=0 then a else b))))) VX ?_
 simp [VO.sat,G5,UH]
def IN:G0:=dQ
theorem fM:VS VQ 251 IN:=by
 refine ⟨(UJ Tryz.func251),?_⟩;intro avs ns W h hn;unfold IN dQ at h;split at h
 ·rename_i f;split at h
  ·rename_i a b h0 h1;cases h;refine (i9 a b).same (.cons (.lst 1 2 _ _ ?_) .nil);intro k hk;rcases (show k=0\/k=1 by omega) with rfl|rfl
   ·exact h0
   ·exact h1
  ·cases h
 ·cases h
noncomputable def Qg9:D0:=rJ Tryz.prog [(228,rZ)] {} [] Tryz.f194 (UA Tryz.f194)
abbrev J8:List (Nat×G0):=[(228,rZ)]
theorem LI:GC VQ 194 Qg9:=
 RK (G:=J8) (X:={}) (L:=[]) (Ae LT Aa) Ad U0 (UJ Tryz.func194) Tryz.func194 (UV Tryz.f194) U7
def UD(c T U O:Int)(M:Nat->Nat->Int)(k:Nat):Int:=if k=0 then c else if k=1 then T else if k=2 then U else if k=3 then O else M ((k-4) / 11) ((k-4)%11)
section
variable (M:Nat->Nat->Int)(a b:Nat)(v:Int)
def wU:Nat->Nat->Int:=λx y=>if x=a/\y=b then v else M x y
def bnd:Nat->Nat->Int:=wU M a b (min (M a b) v)
end
def ini(c:Nat)(k j:Nat):Nat->Nat->Int:=λx y=>if ((x<k/\y<=c)\/(x=k/\y<j))/\x≠y then 2000 else 0
theorem Qx8(c T U O:Int)(cc:Nat): ∀k,U9 (c::T::U::O::List.replicate 121 0) k=UD c T U O (ini cc 0 0) k:=by
 intro k;rcases k with _|_|_|_|k
 ·rfl
 ·rfl
 ·rfl
 ·rfl
 ·have h:U9 (c::T::U::O::List.replicate 121 0) (k+4)=U9 (List.replicate 121 0) k:=rfl;rw [h,gI (by decide)]
  simp [UD,ini]
theorem GS(q:Nat)(v:Int)(f:Nat->Int):j5 q [v] f=US q v f:=rfl
section
variable (c T U O:Int)
theorem qA(M:Nat->Nat->Int){a b q:Nat}(hq:q=4+a*11+b)(hb:b<11):UD c T U O M q=M a b:=by
 unfold UD;rw [if_neg VL,if_neg VL,if_neg VL,if_neg VL,show (q-4) / 11=a by omega,show (q-4)%11=b by omega]
theorem yS{M M':Nat->Nat->Int}(h: ∀x y,x<11->y<11->M x y=M' x y){k:Nat}(hk:k<125):UD c T U O M k=UD c T U O M' k:=by
 unfold UD;split
 ·rfl
 split
 ·rfl
 split
 ·rfl
 split
 ·rfl
 exact h _ _ VL VL
theorem bK(M:Nat->Nat->Int){a b q:Nat}(hq:q=4+a*11+b)(hb:b<11)(v:Int)(k:Nat):US q v (UD c T U O M) k=UD c T U O (wU M a b v) k:=by
 unfold US;by_cases hk:k=q
 ·rw [if_pos hk,qA _ _ _ _ _ (hk.trans hq) hb];simp [wU]
 ·rw [if_neg hk];unfold UD;by_cases h0:k=0
  ·rw [if_pos h0,if_pos h0]
  by_cases h1:k=1
  ·rw [if_neg h0,if_neg h0,if_pos h1,if_pos h1]
  by_cases h2:k=2
  ·rw [if_neg h0,if_neg h0,if_neg h1,if_neg h1,if_pos h2,if_pos h2]
  by_cases h3:k=3
  ·rw [if_neg h0,if_neg h0,if_neg h1,if_neg h1,if_neg h2,if_neg h2,if_pos h3,if_pos h3]
  rw [if_neg h0,if_neg h0,if_neg h1,if_neg h1,if_neg h2,if_neg h2,if_neg h3,if_neg h3];unfold wU;rw [if_neg VL]
end
theorem Wh7(c k j:Nat)(hj:j<=c)(h:k≠j)(x y:Nat):wU (ini c k j) k j 2000 x y=ini c k (j+1) x y:=by
 unfold wU ini;split
 ·rename_i hxy;rw [if_pos ⟨.inr VL,VL⟩]
 ·rename_i hxy;by_cases h1:((x<k/\y<=c)\/(x=k/\y<j))/\x≠y
  ·rw [if_pos h1,if_pos VL]
  ·rw [if_neg h1,if_neg VL]
theorem Wh8(c k:Nat)(x y:Nat):ini c k k x y=ini c k (k+1) x y:=by
 unfold ini;by_cases h1:((x<k/\y<=c)\/(x=k/\y<k))/\x≠y
 ·rw [if_pos h1,if_pos VL]
 ·rw [if_neg h1,if_neg VL]
theorem Xd3(c k:Nat)(x y:Nat):ini c k (c+1) x y=ini c (k+1) 0 x y:=by
 unfold ini;by_cases h1:((x<k/\y<=c)\/(x=k/\y<c+1))/\x≠y
 ·rw [if_pos h1,if_pos VL]
 ·rw [if_neg h1,if_neg VL]
abbrev rds(n:Nat)(a b u v:Nat->Int):AV:= .lst 4 n (λk=>[i (a k),i (b k),i (u k),i (v k)])
abbrev QU:AV:=AV.x (.pointer none)
abbrev X5(n:Nat)(a:Nat->Int)(b:Nat->Int)(u:Nat->Int)(v:Nat->Int):AV:=lst 4 n λk=>[iI (a k),iI (b k),iI (u k),iI (v k)]
section
variable (c:Nat)(T U O:Int)(n:Nat)(a b u v:Nat->Int)
def Zm5:St:={σ:=[agg [iI (c:Int),iI T,iI U,iI O],X5 n a b u v,ptr 0 0,top,QU,AV.lit false,ptr 5 0]++HK 15 [iI ((c:Int)+1)]++HK 155 [],m:=[(5,GQ.ints 301 [] 125 λa=>U9 ([(c:Int),T,U,O]++aN 121) a),(0,GQ.cells 49 [iI (c:Int),iI T,iI U,iI O])],nx:=11}
noncomputable def Zo6:Code:=UC (VU (UA Tryz.f158) 0)
def Wf1(k:Nat):St:=(upE [(23,i k)] [(5,.ints 301 [] 125 (UD c T U O (ini c k 0))),(0,.cells 49 [i c,i T,i U,i O])] (Zm5 c T U O n a b u v))
def C7(k:Nat):GB->Option St
 | .exit 0=>some (upE [(23,i ((c:Int)+1))] [(5,.ints 301 [] 125 (UD c T U O (ini c (c+1) 0))),(0,.cells 49 [i c,i T,i U,i O])] (Zm5 c T U O n a b u v))
 |_=>none
def Jh9:CT:= .leaf (.exit 0,(C7 c T U O n a b u v 0 (.exit 0)).getD (Zm5 c T U O n a b u v))
def Xs1:UL:=GN [] (HM (Wf1 c T U O n a b u v (0)) (Jh9 c T U O n a b u v))
def Zm4(k:Nat):St:={σ:=[agg [iI (c:Int),iI T,iI U,iI O],X5 n a b u v,ptr 0 0,top,QU,AV.lit false,ptr 5 0,iI (k:Int)]++HK 14 [iI ((c:Int)+1),iI (k:Int),top,top,top,top,iI ((c:Int)+1)]++HK 149 [],m:=[(5,GQ.ints 301 [] 125 λk_1=>UD (c:Int) T U O (ini c k 0) k_1),(0,GQ.cells 49 [iI (c:Int),iI T,iI U,iI O])],nx:=18}
noncomputable def Jm2:Code:=(UC (VU (UC (VU (UA Tryz.f158) 0)) 0))
def Wf0(k:Nat)(j:Nat):St:=(upE [(29,i j)] [(5,.ints 301 [] 125 (UD c T U O (ini c k j))),(0,.cells 49 [i c,i T,i U,i O])] (Zm4 c T U O n a b u v k))
def C6(k:Nat)(j:Nat):GB->Option St
 | .exit 2=>some (upE [(29,i ((c:Int)+1))] [(5,.ints 301 [] 125 (UD c T U O (ini c k (c+1)))),(0,.cells 49 [i c,i T,i U,i O])] (Zm4 c T U O n a b u v k))
 |_=>none
def Jh8(k:Nat):CT:= .leaf (.exit 2,(C6 c T U O n a b u v k 0 (.exit 2)).getD (Zm4 c T U O n a b u v k))
def Xs0(k:Nat):UL:=GN [] (HM (Wf0 c T U O n a b u v k (0)) (Jh8 c T U O n a b u v k))
end
abbrev Q4(n:Nat)(a:Nat->Int)(b:Nat->Int)(u:Nat->Int)(v:Nat->Int):Prop:=(X5 n a b u v)=lst 4 n λk=>[iI (a k),iI (b k),iI (u k),iI (v k)]
abbrev WN:Prop:=AV.lit false=AV.lit false
noncomputable abbrev XF:Ext:={R:=[],H:=[(194,Qg9)] }
abbrev XI:Prop:=ptr 0 0=ptr 0 0
abbrev XV:Prop:=ptr 5 0=ptr 5 0
section
variable (c:Nat)(T U O:Int)(n:Nat)(a b u v:Nat->Int)
theorem Zw1(k:Nat)(VV:1<=c/\c<=10)(UI:1<=U/\U<=O/\O<=200/\1<=T/\T<=2000)(HR:k<=c):GD VQ (.loop Jm2) (Xs0 c T U O n a b u v k):=by
 refine G6 [] (L:=[]) (Ae LT Aa) (Ai Ab (Ag LI Ac)) U0 U7 (X:=Nat) (Wf0 c T U O n a b u v k) (λj=>j<=c+1) (λj=>c+1-j) (C6 c T U O n a b u v k) (x0:=0) VW ?_ ?_ ?_
 ·rintro j;kernel_rfl
 ·rintro j y E h;unfold C6 at h;split at h
  ·cases h;kernel_rfl
  ·cases h
 ·rintro Q hQ j hx;refine ⟨(j+1),?_⟩;(with_reducible refine DU (t:=let A:=(U1 ((c:Int)+1));let I:=(U1 (agg [iI (c:Int),iI T,iI U,iI O]));(branch (decide ((j:Int)<(c:Int)+1)) (branch ((k:Int) != (j:Int)) (need [UN k 11] (need [UN j 11] (need [j*1+(k*11+4)+1<=125] (need [VN ((j:Int)+1)] (need [I,Q4 n a b u v,XI,QU=QU,WN,XV,U1 (k:Int),A,U1 (k:Int),A,(j:Int)+1=(↑(j+1):Int),125=125,GV 125 (US (j*1+(k*11+4)) (2000:Int) (UD (c:Int) T U O (ini c k j))) (UD (c:Int) T U O (ini c k (j+1))),U1 (c:Int),T=T,U=U,O=O] (leaf GB.normal)))))) (need [VN ((j:Int)+1)] (need [I,Q4 n a b u v,XI,QU=QU,WN,XV,U1 (k:Int),A,U1 (k:Int),A,(j:Int)+1=(↑(j+1):Int),125=125,GV 125 (UD (c:Int) T U O (ini c k j)) (UD (c:Int) T U O (ini c k (j+1))),U1 (c:Int),T=T,U=U,O=O] (leaf GB.normal)))) (need [I,Q4 n a b u v,XI,QU=QU,WN,XV,U1 (k:Int),A,U1 (k:Int),A,(j:Int)=(c:Int)+1,125=125,GV 125 (UD (c:Int) T U O (ini c k j)) (UD (c:Int) T U O (ini c k (c+1))),U1 (c:Int),T=T,U=U,O=O] (leaf (GB.exit 2))))) VX ?_);simp only [Jh8,C6,VO.sat,GX] at hQ;simp only [VO.sat,UE,G5,GL,UH,VN,UK,HG,RX,RP,LO,GS,C6]
  refine ⟨λh=>⟨λhne=>?_,λheq=>?_⟩,λh=>?_⟩
  ·(with_reducible repeat' first|apply Al|intro _)
   all_goals first|exact PM|(exact (bK c T U O _ VL VL _ _).trans (yS c T U O (λx y _ _=>Wh7 c k j VL VL x y) (by assumption)))
  ·obtain rfl:k=j:=VL
   (with_reducible repeat' first|apply Al|intro _)
   all_goals first|exact PM|(exact yS c T U O (λx y _ _=>Wh8 c k x y) (by assumption))
  ·obtain rfl:j=c+1:=VL
   (with_reducible repeat' first|apply Al|intro _)
   all_goals first|exact Ak|omega|with_reducible rfl|(rename_i E hE;cases hE;exact hQ)|rfl
theorem Zw2(VV:1<=c/\c<=10)(UI:1<=U/\U<=O/\O<=200/\1<=T/\T<=2000):GD VQ (.loop Zo6) (Xs1 c T U O n a b u v):=by
 refine G6 [] (L:=[BG 7 (λk=>RO [k<=c] (Xs0 c T U O n a b u v k))]) (Ae LT Aa) (Ai Ab (Ag LI Ac)) U0 (GA (λcj hcj=>by
  have e:VU Zo6 0=some (.loop Jm2):=VX;rw [e] at hcj;cases hcj;exact P4 (λk=>FH (λh=>Zw1 c T U O n a b u v k VV UI h)))) (X:=Nat) (Wf1 c T U O n a b u v) (λk=>k<=c+1) (λk=>c+1-k) (C7 c T U O n a b u v) (x0:=0) VW ?_ ?_ ?_
 ·rintro k;kernel_rfl
 ·rintro k y E h;unfold C7 at h;split at h
  ·cases h;kernel_rfl
  ·cases h
 ·rintro Q hQ k hx;refine ⟨(k+1),?_⟩;(with_reducible refine DU (t:=let A:=(U1 (agg [iI (c:Int),iI T,iI U,iI O]));let I:=(U1 ((c:Int)+1));(branch (decide ((k:Int)<(c:Int)+1)) (need [VN ((c:Int)+1)] (need [k<=c] (need [A,Q4 n a b u v,XI,QU=QU,WN,XV,U1 (k:Int),I,U1 (k:Int),I,(0:Int)=(↑(0:Nat):Int),125=125,GO 125 (UD (c:Int) T U O (ini c k 0)),U1 (c:Int),T=T,U=U,O=O] (need [VN ((k:Int)+1)] (need [A,Q4 n a b u v,XI,QU=QU,WN,XV,I,(k:Int)+1=(↑(k+1):Int),125=125,GV 125 (UD (c:Int) T U O (ini c k (c+1))) (UD (c:Int) T U O (ini c (k+1) 0)),U1 (c:Int),T=T,U=U,O=O] (leaf GB.normal)))))) (need [A,Q4 n a b u v,XI,QU=QU,WN,XV,I,(k:Int)=(c:Int)+1,125=125,GV 125 (UD (c:Int) T U O (ini c k 0)) (UD (c:Int) T U O (ini c (c+1) 0)),U1 (c:Int),T=T,U=U,O=O] (leaf (GB.exit 0))))) VX ?_);simp only [Jh9,C7,VO.sat,GX] at hQ;simp only [VO.sat,UE,G5,GL,UH,VN,UK,HG,RX,RP,LO,GS,C7]
  refine ⟨λh=>?_,λh=>?_⟩
  ·(with_reducible repeat' first|apply Al|intro _)
   all_goals first|exact PM|(exact yS c T U O (λx y _ _=>Xd3 c k x y) (by assumption))
  ·obtain rfl:k=c+1:=VL
   (with_reducible repeat' first|apply Al|intro _)
   all_goals first|exact Ak|omega|with_reducible rfl|(rename_i E hE;cases hE;exact hQ)|rfl
end
def cel(c:Nat)(U O:Int):Nat->Nat->Nat->Int
 | 0=>ini c (c+1) 0
 |k+1=>bnd (bnd (cel c U O k) k (k+1) O) (k+1) k (-U)
theorem zP{c T U O:Int}{M:Nat->Nat->Int}{a b q:Nat}{v:Int}(hq:q=4+a*11+b)(hb:b<11):US q (min (UD c T U O M q) v) (UD c T U O M)=UD c T U O (bnd M a b v):=by
 funext k;rw [bK c T U O M hq hb,qA c T U O M hq hb];rfl
section
variable (c:Nat)(T U O:Int)(n:Nat)(a b u v:Nat->Int)
def Zm3:St:={σ:=[agg [iI (c:Int),iI T,iI U,iI O],X5 n a b u v,ptr 0 0,top,QU,AV.lit false,ptr 5 0]++HK 15 [iI ((c:Int)+1),iI ((c:Int)+1)]++HK 21 [iI (c:Int)]++HK 132 [],m:=[(5,GQ.ints 301 [] 125 λk=>UD (c:Int) T U O (ini c (c+1) 0) k),(0,GQ.cells 49 [iI (c:Int),iI T,iI U,iI O])],nx:=14}
noncomputable def Jm1:Code:=UC (VU (UA Tryz.f158) 1)
def We9(k:Nat):St:=(upE [(46,i k)] [(5,.ints 301 [] 125 (UD c T U O (cel c U O k))),(0,.cells 49 [i c,i T,i U,i O])] (Zm3 c T U O n a b u v))
def C5(k:Nat):GB->Option St
 | .exit 4=>some (upE [(46,i c)] [(5,.ints 301 [] 125 (UD c T U O (cel c U O c))),(0,.cells 49 [i c,i T,i U,i O])] (Zm3 c T U O n a b u v))
 |_=>none
def Jh7:CT:= .leaf (.exit 4,(C5 c T U O n a b u v 0 (.exit 4)).getD (Zm3 c T U O n a b u v))
def Xr9:UL:=GN [] (HM (We9 c T U O n a b u v (0)) (Jh7 c T U O n a b u v))
theorem Zw0(VV:1<=c/\c<=10)(UI:1<=U/\U<=O/\O<=200/\1<=T/\T<=2000):GD VQ (.loop Jm1) (Xr9 c T U O n a b u v):=by
 refine G6 [] (L:=[]) (Ae LT Aa) (Ai Ab (Ag LI Ac)) U0 U7 (X:=Nat) (We9 c T U O n a b u v) (λk=>k<=c) (λk=>c-k) (C5 c T U O n a b u v) (x0:=0) VW ?_ ?_ ?_
 ·rintro k;kernel_rfl
 ·rintro k y E h;unfold C5 at h;split at h
  ·cases h;kernel_rfl
  ·cases h
 ·rintro Q hQ k hx;refine ⟨(k+1),?_⟩;(with_reducible refine DU (t:=let A:=(UD (c:Int) T U O (cel c U O k) (((k:Int)+1).toNat*1+(k*11+4)));let I:=(US (((k:Int)+1).toNat*1+(k*11+4)) (min A O) (UD (c:Int) T U O (cel c U O k)) (k*1+(((k:Int)+1).toNat*11+4)));let z2:=(U1 ((c:Int)+1));(branch (decide ((k:Int)<(c:Int))) (need [VN ((k:Int)+1)] (need [UN k 11] (need [UN ((k:Int)+1) 11] (need [((k:Int)+1).toNat*1+(k*11+4)<125] (need [UN k 11] (need [UN ((k:Int)+1) 11] (need [((k:Int)+1).toNat*1+(k*11+4)+List.length [min A O]<=125] (need [VN ((k:Int)+1)] (need [VN (-U)] (need [UN ((k:Int)+1) 11] (need [UN k 11] (need [k*1+(((k:Int)+1).toNat*11+4)<125] (need [UN ((k:Int)+1) 11] (need [UN k 11] (need [k*1+(((k:Int)+1).toNat*11+4)+List.length [min I (-U)]<=125] (need [VN ((k:Int)+1)] (need [U1 (agg [iI (c:Int),iI T,iI U,iI O]),Q4 n a b u v,XI,QU=QU,WN,XV,z2,z2,U1 (c:Int),(k:Int)+1=(↑(k+1):Int),125=125,GV 125 (US (k*1+(((k:Int)+1).toNat*11+4)) (min I (-U)) (j5 (((k:Int)+1).toNat*1+(k*11+4)) [min A O] (UD (c:Int) T U O (cel c U O k)))) (UD (c:Int) T U O (cel c U O (k+1))),U1 (c:Int),T=T,U=U,O=O] (leaf GB.normal)))))))))))))))))) (need [U1 (agg [iI (c:Int),iI T,iI U,iI O]),Q4 n a b u v,XI,QU=QU,WN,XV,z2,z2,U1 (c:Int),(k:Int)=(c:Int),125=125,GV 125 (UD (c:Int) T U O (cel c U O k)) (UD (c:Int) T U O (cel c U O c)),U1 (c:Int),T=T,U=U,O=O] (leaf (GB.exit 4))))) VX ?_);simp only [Jh7,C5,VO.sat,GX] at hQ;simp only [VO.sat,UE,G5,GL,UH,VN,UK,HG,RX,RP,LO,GS,C5]
  refine ⟨λh=>?_,λh=>?_⟩
  ·have h1: ∀M v,US (((k:Int)+1).toNat*1+(k*11+4)) (min (UD c T U O M (((k:Int)+1).toNat*1+(k*11+4))) v) (UD c T U O M)=UD c T U O (bnd M k (k+1) v):=λM v=>zP VL VL
   have h2: ∀M v,US (k*1+(((k:Int)+1).toNat*11+4)) (min (UD c T U O M (k*1+(((k:Int)+1).toNat*11+4))) v) (UD c T U O M)=UD c T U O (bnd M (k+1) k v):=λM v=>zP VL VL
   simp only [h1,h2]
   (with_reducible repeat' first|apply Al|intro _)
   all_goals first|exact Ak|omega|with_reducible rfl|(rename_i E hE;cases hE;exact hQ)|rfl
  ·obtain rfl:k=c:=VL
   (with_reducible repeat' first|apply Al|intro _)
   all_goals first|exact Ak|omega|with_reducible rfl|(rename_i E hE;cases hE;exact hQ)|rfl
end
def rdS(c:Nat)(M:Nat->Nat->Int)(a b u v:Int):Nat->Nat->Int:=if b<(c:Int) then bnd (bnd M a.toNat b.toNat v) (b+1).toNat a.toNat (-u-1) else bnd M a.toNat b.toNat v
def rdM(c:Nat)(T U O:Int)(a b u v:Nat->Int):Nat->Nat->Nat->Int
 | 0=>bnd (bnd (cel c U O c) 0 c T) c 0 (-T)
 |j+1=>rdS c (rdM c T U O a b u v j) (a j) (b j) (u j) (v j)
def rdV(a b u v:Int):Value:= .agg #[.int .i64 a,.int .i64 b,.int .i64 u,.int .i64 v]
def sn(a b u v:Nat->Int)(k:Nat)(x:Value):Prop:= ∃j,j<k/\x=rdV (a j) (b j) (u j) (v j)
def Ja2(x:Value):Prop:= ∃a b u v,x=rdV a b u v
theorem Qy9(a b u v:Int)(e:UM)(w:World):Rep e w (.agg [i a,i b,i u,i v]) (rdV a b u v):=
 Rep.aggL (U3.cons (.x _) (U3.cons (.x _) (U3.cons (.x _) (U3.one (.x _)))))
theorem Qk6(a b u v:Int):F8 Tryz.prog 303 Ja2 (rdV a b u v) (.bool false):=by
 refine ⟨⟨145,4,(match Tryz.prog.underlying 145 with|some (.struct fs)=>fs|_=>#[]),VX,VX,?_,?_,?_⟩,by simp [Instr.sameBits,rdV]⟩
 ·intro b' w;kernel_rfl
 ·rintro k' ⟨a',b',u',v',rfl⟩ w;refine ⟨a==a'&&(b==b'&&(u==u'&&(v==v'&&true)&&true)),xG (P:=Tryz.prog) (e:=PE w w) Op.maxDepth 145 (.agg [i a,i b,i u,i v]) (.agg [i a',i b',i u',i v']) _ _ _ VX (Qy9 ..) (Qy9 ..),λh=>?_⟩
  simp only [Bool.and_true,HA,beq_iff_eq] at h;obtain ⟨rfl,rfl,rfl,rfl⟩:=h;rfl
 ·intro w;kernel_rfl
theorem Xn9{a b u v:Nat->Int}{k:Nat}{x:Value}(h:sn a b u v k x):Ja2 x:=by
 obtain ⟨j,_,h⟩:=h;exact ⟨_,_,_,_,h⟩
section
variable (M:Nat->Nat->Int)(a b:Nat)(v:Int)
theorem wK(x y:Nat):bnd M a b v x y<=M x y:=by
 unfold bnd wU;split
 ·rename_i h;rw [h.1,h.2];omega
 ·omega
theorem TV:bnd M a b v a b<=v:=by
 unfold bnd wU;rw [if_pos ⟨rfl,rfl⟩];omega
end
theorem Wq3{M:Nat->Nat->Int}{a b:Nat}{v:Int}(h:M a b<=v):bnd M a b v=M:=by
 funext x y;unfold bnd wU;split
 ·rename_i h';rw [h'.1,h'.2];omega
 ·rfl
section
variable (c:Nat)(M:Nat->Nat->Int)(a b u v:Int)
theorem Zc6(x y:Nat):rdS c M a b u v x y<=M x y:=by
 unfold rdS;split
 ·exact Int.le_trans (wK _ _ _ _ _ _) (wK _ _ _ _ _ _)
 ·exact wK _ _ _ _ _ _
theorem Zc8:rdS c M a b u v a.toNat b.toNat<=v/\(b<c->rdS c M a b u v (b+1).toNat a.toNat<= -u-1):=by
 unfold rdS;split
 ·exact ⟨Int.le_trans (wK _ _ _ _ _ _) (TV _ _ _ _),λ_=>TV _ _ _ _⟩
 ·exact ⟨TV _ _ _ _,λh=>VL⟩
end
theorem Zc7{c:Nat}{M:Nat->Nat->Int}{a b u v:Int}(h:M a.toNat b.toNat<=v)(h2:b<c->M (b+1).toNat a.toNat<= -u-1):rdS c M a b u v=M:=by
 unfold rdS;rw [Wq3 h];split
 ·rename_i hb;exact Wq3 (h2 hb)
 ·rfl
theorem AS(c:Nat)(T U O:Int)(a b u v:Nat->Int)(j:Nat): ∀(k:Nat),j<=k-> ∀x y,rdM c T U O a b u v k x y<=rdM c T U O a b u v j x y
 | 0,h,x,y=>by
           obtain rfl:j=0:=VL;exact Int.le_refl _
 |k+1,h,x,y=>by
  rcases (show j=k+1\/j<=k by omega) with rfl|h
  ·exact Int.le_refl _
  ·exact Int.le_trans (Zc6 _ _ _ _ _ _ _ _) (AS c T U O a b u v j k h x y)
theorem Qz5{c:Nat}{T U O:Int}{a b u v:Nat->Int}{k:Nat}(h:sn a b u v k (rdV (a k) (b k) (u k) (v k))):rdM c T U O a b u v (k+1)=rdM c T U O a b u v k:=by
 obtain ⟨j,hj,he⟩:=h;unfold rdV at he;injection he with he
 injection he with he
 have e:a k=a j/\b k=b j/\u k=u j/\v k=v j:=by simpa using he
 have h1:=Zc8 c (rdM c T U O a b u v j) (a j) (b j) (u j) (v j);have m:=AS c T U O a b u v (j+1) k VL;refine Zc7 ?_ (λhb=>?_)
 ·rw [e.1,e.2.1,e.2.2.2];exact Int.le_trans (m _ _) h1.1
 ·rw [e.1,e.2.1,e.2.2.1];exact Int.le_trans (m _ _) (h1.2 (by rw [←e.2.1];exact hb))
section
variable (c:Nat)(T U O:Int)(n:Nat)(a b u v:Nat->Int)
def Zm2:St:={σ:=[agg [iI (c:Int),iI T,iI U,iI O],X5 n a b u v,ptr 0 0,top,QU,AV.lit false,ptr 5 0,top,top,top,AV.mp 63]++HK 11 [iI ((c:Int)+1),iI ((c:Int)+1)]++HK 21 [iI (c:Int),iI (c:Int)]++HK 34 [X5 n a b u v,iI (n:Int)]++HK 95 [],m:=[(63,GQ.memo (λx=>False) λv=>v),(56,GQ.row 3 1 2 (U8 1 [iI (US (c*1+4) (min (UD (c:Int) T U O (cel c U O c) (c*1+4)) T) (UD (c:Int) T U O (cel c U O c)) (0+(c*11+4))),iI (-T)])),(31,GQ.row 3 1 2 (U8 1 [iI (UD (c:Int) T U O (cel c U O c) (c*1+4)),iI T])),(5,GQ.ints 301 [] 125 λa=>US (0+(c*11+4)) (min (US (c*1+4) (min (UD (c:Int) T U O (cel c U O c) (c*1+4)) T) (UD (c:Int) T U O (cel c U O c)) (0+(c*11+4))) (-T)) (j5 (c*1+4) [min (UD (c:Int) T U O (cel c U O c) (c*1+4)) T] (UD (c:Int) T U O (cel c U O c))) a),(0,GQ.cells 49 [iI (c:Int),iI T,iI U,iI O])],nx:=68}
noncomputable def Jm0:Code:=UC (VU (UA Tryz.f158) 2)
def We8(k:Nat):St:=(upE [(83,i k)] [(5,.ints 301 [] 125 (UD c T U O (rdM c T U O a b u v k))),(0,.cells 49 [i c,i T,i U,i O]),(63,.memo (sn a b u v k) (λ_=> .bool true))] (Zm2 c T U O n a b u v))
def C4(k:Nat):GB->Option St
 | .exit 6=>some (upE [(83,i n)] [(5,.ints 301 [] 125 (UD c T U O (rdM c T U O a b u v n))),(0,.cells 49 [i c,i T,i U,i O]),(63,.memo (sn a b u v n) (λ_=> .bool true))] (Zm2 c T U O n a b u v))
 |_=>none
def Jh6:CT:= .leaf (.exit 6,(C4 c T U O n a b u v 0 (.exit 6)).getD (Zm2 c T U O n a b u v))
def Xr8:UL:=GN [] (HM (We8 c T U O n a b u v (0)) (Jh6 c T U O n a b u v))
abbrev ZH:Prop:=AV.mp 63=AV.mp 63
theorem Zv8(VV:1<=c/\c<=10)(UI:1<=U/\U<=O/\O<=200/\1<=T/\T<=2000)(HR:n<=1000)(DY:FN (λk=>rdB c (a k) (b k) (u k) (v k)) n=true):GD VQ (.loop Jm0) (Xr8 c T U O n a b u v):=by
 refine G6 [] (L:=[]) (Ae LT Aa) (Ai Ab (Ag LI Ac)) U0 U7 (X:=Nat) (We8 c T U O n a b u v) (λk=>k<=n) (λk=>n-k) (C4 c T U O n a b u v) (x0:=0) VW ?_ ?_ ?_
 ·rintro k;kernel_rfl
 ·rintro k y E h;unfold C4 at h;split at h
  ·cases h;kernel_rfl
  ·cases h
 ·rintro Q hQ k hx;refine ⟨(k+1),?_⟩;(with_reducible refine DU (t:=let z9:=sn a b u v k;let Z:=(Value.agg #[Value.int IntKind.i64 (a k),Value.int IntKind.i64 (b k),Value.int IntKind.i64 (u k),Value.int IntKind.i64 (v k)]);let z7:=(rdM c T U O a b u v k);let z2:=(UD (c:Int) T U O z7 ((b k).toNat*1+((a k).toNat*11+4)));let z10:=(UD (c:Int) T U O z7);let z5:=(US ((b k).toNat*1+((a k).toNat*11+4)) (min z2 (v k)) z10 ((a k).toNat*1+((b k+1).toNat*11+4)));let z6:=(U1 (agg [iI (c:Int),iI T,iI U,iI O]));let z8:=Q4 n a b u v;let z4:=(U1 ((c:Int)+1));let z11:=(rdM c T U O a b u v (k+1));let A:=(need [∀(u_1:Value),z9 u_1->Value.bool true=Value.bool true,F8 Tryz.prog 303 (λu_1=>z9 u_1\/u_1=Value.agg #[Value.int IntKind.i64 (a k),Value.int IntKind.i64 (b k),Value.int IntKind.i64 (u k),Value.int IntKind.i64 (v k)]) Z (YG)] (need [UN (a k) 11] (need [UN (b k) 11] (need [(b k).toNat*1+((a k).toNat*11+4)<125] (need [UN (a k) 11] (need [UN (b k) 11] (need [(b k).toNat*1+((a k).toNat*11+4)+List.length [min z2 (v k)]<=125] (branch (decide (b k<(c:Int))) (need [VN (b k+1)] (need [VN (-u k)] (need [VN (-u k-1)] (need [UN (b k+1) 11] (need [UN (a k) 11] (need [(a k).toNat*1+((b k+1).toNat*11+4)<125] (need [UN (b k+1) 11] (need [UN (a k) 11] (need [(a k).toNat*1+((b k+1).toNat*11+4)+List.length [min z5 (-u k-1)]<=125] (need [VN ((k:Int)+1)] (need [z6,z8,XI,QU=QU,WN,XV,ZH,z4,z4,U1 (c:Int),U1 (c:Int),z8,U1 (n:Int),(k:Int)+1=(↑(k+1):Int),125=125,GV 125 (US ((a k).toNat*1+((b k+1).toNat*11+4)) (min z5 (-u k-1)) (j5 ((b k).toNat*1+((a k).toNat*11+4)) [min z2 (v k)] z10)) (UD (c:Int) T U O z11),U1 (c:Int),T=T,U=U,O=O,∀(k_1:Value),z9 k_1\/k_1=Value.agg #[Value.int IntKind.i64 (a k),Value.int IntKind.i64 (b k),Value.int IntKind.i64 (u k),Value.int IntKind.i64 (v k)]->sn a b u v (k+1) k_1/\Value.bool true=Value.bool true] (leaf GB.normal)))))))))))) (need [VN ((k:Int)+1)] (need [z6,z8,XI,QU=QU,WN,XV,ZH,z4,z4,U1 (c:Int),U1 (c:Int),z8,U1 (n:Int),(k:Int)+1=(↑(k+1):Int),125=125,GV 125 (US ((b k).toNat*1+((a k).toNat*11+4)) (min z2 (v k)) z10) (UD (c:Int) T U O z11),U1 (c:Int),T=T,U=U,O=O,∀(k_1:Value),z9 k_1\/k_1=Value.agg #[Value.int IntKind.i64 (a k),Value.int IntKind.i64 (b k),Value.int IntKind.i64 (u k),Value.int IntKind.i64 (v k)]->sn a b u v (k+1) k_1/\Value.bool true=Value.bool true] (leaf GB.normal)))))))))));let I:=(need [VN ((k:Int)+1)] (need [z6,z8,XI,QU=QU,WN,XV,ZH,z4,z4,U1 (c:Int),U1 (c:Int),z8,U1 (n:Int),(k:Int)+1=(↑(k+1):Int),125=125,GV 125 (UD (c:Int) T U O z7) (UD (c:Int) T U O z11),U1 (c:Int),T=T,U=U,O=O,∀(k_1:Value),z9 k_1->sn a b u v (k+1) k_1/\Value.bool true=Value.bool true] (leaf GB.normal)));(branch (decide ((k:Int)<(n:Int))) (need [UN k n] (need [F8 Tryz.prog 303 (z9) Z (YG)] (VO.may (z9 Z) (branch true I A) (branch false I A)))) (need [z6,z8,XI,QU=QU,WN,XV,ZH,z4,z4,U1 (c:Int),U1 (c:Int),z8,U1 (n:Int),(k:Int)=(n:Int),125=125,GV 125 (UD (c:Int) T U O z7) (UD (c:Int) T U O (rdM c T U O a b u v n)),U1 (c:Int),T=T,U=U,O=O,∀(k_1:Value),z9 k_1->sn a b u v n k_1/\Value.bool true=Value.bool true] (leaf (GB.exit 6))))) VX ?_)
  simp only [Jh6,C4,VO.sat,GX] at hQ;simp only [VO.sat,UE,G5,GL,UH,VN,UK,HG,RX,RP,LO,GS,C4]
  have hv: ∀j,j<n->(0<=a j/\a j<=c-1)/\(a j<=b j/\b j<=c)/\0<=u j/\u j<=v j/\v j<=2000:=by
   intro j hj;have:=H3.1 DY j hj;simp only [rdB,HA,bt_iff,insB_iff] at this;omega
  refine ⟨λh=>?_,λh=>?_⟩
  ·have hk:=hv k VL;have mk:=Qk6 (a k) (b k) (u k) (v k);have q1:F8 Tryz.prog 303 (sn a b u v k) (rdV (a k) (b k) (u k) (v k)) (.bool false):=mk.mono (λx hx=>Xn9 hx)
   have q2:F8 Tryz.prog 303 (λx=>sn a b u v k x\/x=rdV (a k) (b k) (u k) (v k)) (rdV (a k) (b k) (u k) (v k)) (.bool false):=mk.mono (λx hx=>hx.elim Xn9 (λhe=>⟨_,_,_,_,he⟩))
   have sn1: ∀x,sn a b u v k x->sn a b u v (k+1) x:=λx ⟨j,hj,he⟩=>⟨j,VL,he⟩
   have sn2:sn a b u v (k+1) (rdV (a k) (b k) (u k) (v k)):=⟨k,VL,rfl⟩;refine ⟨VL,q1,λhs=>⟨λ_=>?_,λhc=>absurd hc (by decide)⟩,λhc=>absurd hc (by decide),λ_=>?_⟩
   ·rw [Qz5 hs]
    (with_reducible repeat' first|apply Al|intro _)
    all_goals first|exact PM|(exact sn1 _ (by assumption))
   ·have h1: ∀M w,US ((b k).toNat*1+((a k).toNat*11+4)) (min (UD c T U O M ((b k).toNat*1+((a k).toNat*11+4))) w) (UD c T U O M)=UD c T U O (bnd M (a k).toNat (b k).toNat w):=λM w=>zP VL VL
    refine ⟨⟨λ_ _=>trivial,q2⟩,?_⟩
    simp only [h1];refine ⟨VL,VL,VL,VL,VL,VL,λhb=>?_,λhb=>?_⟩
    ·have h2: ∀M w,US ((a k).toNat*1+((b k+1).toNat*11+4)) (min (UD c T U O M ((a k).toNat*1+((b k+1).toNat*11+4))) w) (UD c T U O M)=UD c T U O (bnd M (b k+1).toNat (a k).toNat w):=λM w=>zP VL VL
     have e3:rdM c T U O a b u v (k+1)=bnd (bnd (rdM c T U O a b u v k) (a k).toNat (b k).toNat (v k)) (b k+1).toNat (a k).toNat (-u k-1):=by
      show rdS _ _ _ _ _ _=_;unfold rdS;rw [if_pos hb]
     simp only [h2,e3];exact VI
    ·have e3:rdM c T U O a b u v (k+1)=bnd (rdM c T U O a b u v k) (a k).toNat (b k).toNat (v k):=by
      show rdS _ _ _ _ _ _=_;unfold rdS;rw [if_neg hb]
     simp only [e3];exact VI
  ·obtain rfl:k=n:=VL
   (with_reducible repeat' first|apply Al|intro _)
   all_goals first|exact PM|(assumption)
end
def fwS(M:Nat->Nat->Int)(o f t:Nat):Nat->Nat->Int:=bnd M f t (M f o+M o t)
def fwT(M:Nat->Nat->Int)(o f:Nat):Nat->Nat->Nat->Int
 | 0=>M
 |t+1=>fwS (fwT M o f t) o f t
def fwF(c:Nat)(M:Nat->Nat->Int)(o:Nat):Nat->Nat->Nat->Int
 | 0=>M
 |f+1=>fwT (fwF c M o f) o f (c+1)
def fwO(c:Nat)(M:Nat->Nat->Int):Nat->Nat->Nat->Int
 | 0=>M
 |o+1=>fwF c (fwO c M o) o (c+1)
def LB(B:Int)(M:Nat->Nat->Int):Prop:= ∀x y,-B<=M x y/\M x y<=2000
def JB(B:Int)(o f t:Nat)(M:Nat->Nat->Int):Prop:= ∀x y,M x y<=2000/\ -(6*B)<=M x y/\(x=o-> -(3*B)<=M x y)/\(y=o-> -(3*B)<=M x y)/\(x=o->y=o-> -(2*B)<=M x y)/\(¬(x<f\/(x=f/\y<t))-> -B<=M x y)
theorem Ww2{B:Int}{o:Nat}{M:Nat->Nat->Int}(hB:0<=B)(h:LB B M):JB B o 0 0 M:=by
 intro x y;have:=h x y;refine ⟨VL,VL,λ_=>VL,λ_=>VL,λ_ _=>VL,λ_=>VL⟩
theorem Xk1{B:Int}{o f t:Nat}{M:Nat->Nat->Int}(hB:0<=B)(h:JB B o f t M):JB B o f (t+1) (fwS M o f t):=by
 have hft:=h f t;have hfo:=h f o;have hot:=h o t;have hoo:=h o o;have hn:=hft.2.2.2.2.2 VL;intro x y;have hxy:=h x y;unfold fwS bnd wU;by_cases hc:x=f/\y=t
 ·exact V1
 ·rw [if_neg hc];exact ⟨hxy.1,hxy.2.1,hxy.2.2.1,hxy.2.2.2.1,hxy.2.2.2.2.1,λhv=>hxy.2.2.2.2.2 VL⟩
theorem Zl4{B:Int}{o f:Nat}{M:Nat->Nat->Int}(hB:0<=B)(h:JB B o f 0 M): ∀t,JB B o f t (fwT M o f t)
 | 0=>h
 |t+1=>Xk1 hB (Zl4 hB h t)
theorem Zl3{B:Int}{o f t:Nat}{M:Nat->Nat->Int}(h:JB B o f t M):JB B o (f+1) 0 M:=by
 intro x y;have hxy:=h x y;exact ⟨hxy.1,hxy.2.1,hxy.2.2.1,hxy.2.2.2.1,hxy.2.2.2.2.1,λhv=>hxy.2.2.2.2.2 VL⟩
theorem Zl5{B:Int}{c o:Nat}{M:Nat->Nat->Int}(hB:0<=B)(h:LB B M): ∀f,JB B o f 0 (fwF c M o f)
 | 0=>Ww2 hB h
 |f+1=>Zl3 (Zl4 hB (Zl5 hB h f) (c+1))
theorem Zl2{c:Nat}{M:Nat->Nat->Int}(h:LB 2001 M): ∀o,LB (2001*6^o) (fwO c M o)
 | 0=>by
  rw [show (2001:Int)*6^0=2001 by decide]
  exact h
 |o+1=>by
  have ih:=Zl2 (c:=c) h o;have hp:(0:Int)<=2001*6^o:=Int.mul_nonneg VL (Int.pow_nonneg VL);have hj:=Zl5 (c:=c) (o:=o) hp ih (c+1);intro x y;have:=hj x y;have e:(2001:Int)*6^(o+1)=6*(2001*6^o):=by rw [Int.pow_succ];omega
  rw [e];exact ⟨this.2.1,this.1⟩
theorem Zw5: ∀o:Nat,o<=10->(6:Int)^o<=60466176:=by
 intro o ho;rcases (show o=0\/o=1\/o=2\/o=3\/o=4\/o=5\/o=6\/o=7\/o=8\/o=9\/o=10 by omega) with rfl|rfl|rfl|rfl|rfl|rfl|rfl|rfl|rfl|rfl|rfl<;>decide
theorem Jd4{c:Nat}{M:Nat->Nat->Int}(h:LB 2001 M){o f t:Nat}(ho:o<=10)(x y:Nat): -800000000000<=fwT (fwF c (fwO c M o) o f) o f t x y/\fwT (fwF c (fwO c M o) o f) o f t x y<=2000:=by
 have ih:=Zl2 (c:=c) h o;have hp:(0:Int)<=2001*6^o:=Int.mul_nonneg VL (Int.pow_nonneg VL);have hj:=Zl4 hp (Zl5 (c:=c) (o:=o) hp ih f) t x y;have:=Zw5 o ho;omega
theorem vM{B:Int}{M:Nat->Nat->Int}(h:LB B M){a b:Nat}{v:Int}(hv: -B<=v):LB B (bnd M a b v):=by
 intro x y;have h1:=h a b;have h2:=h x y;unfold bnd wU;split<;>omega
theorem Wp5{c:Nat}{U O:Int}(h:1<=U/\U<=O/\O<=200): ∀k,LB 2001 (cel c U O k)
 | 0=>by
  intro x y;unfold cel ini;split<;>omega
 |k+1=>vM (vM (Wp5 h k) VL) VL
theorem mU{c:Nat}{T U O:Int}{a b u v:Nat->Int}{n:Nat}(h:1<=U/\U<=O/\O<=200/\1<=T/\T<=2000)(hv: ∀j,j<n->0<=u j/\u j<=v j/\v j<=2000): ∀k,k<=n->LB 2001 (rdM c T U O a b u v k)
 | 0,_=>vM (vM (Wp5 VL c) VL) VL
 |k+1,hk=>by
  have ih:=mU (c:=c) (a:=a) (b:=b) h hv k VL;have:=hv k VL;show LB 2001 (rdS _ _ _ _ _ _);unfold rdS;split
  ·exact vM (vM ih VL) VL
  ·exact vM ih VL
section
variable (c:Nat)(T U O:Int)(n:Nat)(a b u v:Nat->Int)
def sD:St:={σ:=[agg [iI (c:Int),iI T,iI U,iI O],X5 n a b u v,ptr 0 0,top,QU,AV.lit false,ptr 5 0,top,top,top,AV.mp 63]++HK 11 [iI ((c:Int)+1),iI ((c:Int)+1)]++HK 21 [iI (c:Int),iI (c:Int)]++HK 34 [X5 n a b u v,iI (n:Int),iI (n:Int)]++HK 37 [iI ((c:Int)+1)]++HK 56 [],m:=[(5,GQ.ints 301 [] 125 λk=>UD (c:Int) T U O (rdM c T U O a b u v n) k),(0,GQ.cells 49 [iI (c:Int),iI T,iI U,iI O]),(63,GQ.memo (λx=>sn a b u v n x) λx=>Value.bool true)],nx:=72}
noncomputable def Qr0:Code:=UC (VU (UA Tryz.f158) 3)
def E7(o:Nat):St:=(upE [(122,i o)] [(5,.ints 301 [] 125 (UD c T U O (fwO c (rdM c T U O a b u v n) o))),(0,.cells 49 [i c,i T,i U,i O])] (sD c T U O n a b u v))
def qE(o:Nat):GB->Option St
 | .exit 8=>some (upE [(122,i ((c:Int)+1))] [(5,.ints 301 [] 125 (UD c T U O (fwO c (rdM c T U O a b u v n) (c+1)))),(0,.cells 49 [i c,i T,i U,i O])] (sD c T U O n a b u v))
 |_=>none
def Ws5:CT:= .leaf (.exit 8,(qE c T U O n a b u v 0 (.exit 8)).getD (sD c T U O n a b u v))
def lU:UL:=GN [] (HM (E7 c T U O n a b u v (0)) (Ws5 c T U O n a b u v))
def Zm1(o:Nat):St:={σ:=[agg [iI (c:Int),iI T,iI U,iI O],X5 n a b u v,ptr 0 0,top,QU,AV.lit false,ptr 5 0,top,top,top,AV.mp 63,top,top,iI (o:Int)]++HK 8 [iI ((c:Int)+1),iI ((c:Int)+1)]++HK 21 [iI (c:Int),iI (c:Int)]++HK 34 [X5 n a b u v,iI (n:Int),iI (n:Int)]++HK 37 [iI ((c:Int)+1),iI (o:Int),top,top,top,top,iI ((c:Int)+1)]++HK 50 [],m:=[(5,GQ.ints 301 [] 125 λk=>UD (c:Int) T U O (fwO c (rdM c T U O a b u v n) o) k),(0,GQ.cells 49 [iI (c:Int),iI T,iI U,iI O])],nx:=79}
noncomputable def Zo5:Code:=(UC (VU (UC (VU (UA Tryz.f158) 3)) 0))
def We7(o:Nat)(f:Nat):St:=(upE [(128,i f)] [(5,.ints 301 [] 125 (UD c T U O (fwF c (fwO c (rdM c T U O a b u v n) o) o f))),(0,.cells 49 [i c,i T,i U,i O])] (Zm1 c T U O n a b u v o))
def C3(o:Nat)(f:Nat):GB->Option St
 | .exit 10=>some (upE [(128,i ((c:Int)+1))] [(5,.ints 301 [] 125 (UD c T U O (fwF c (fwO c (rdM c T U O a b u v n) o) o (c+1)))),(0,.cells 49 [i c,i T,i U,i O])] (Zm1 c T U O n a b u v o))
 |_=>none
def Jh5(o:Nat):CT:= .leaf (.exit 10,(C3 c T U O n a b u v o 0 (.exit 10)).getD (Zm1 c T U O n a b u v o))
def Xr7(o:Nat):UL:=GN [] (HM (We7 c T U O n a b u v o (0)) (Jh5 c T U O n a b u v o))
def Zm0(o:Nat)(f:Nat):St:={σ:=[agg [iI (c:Int),iI T,iI U,iI O],X5 n a b u v,ptr 0 0,top,QU,AV.lit false,ptr 5 0,top,top,top,AV.mp 63,top,top,iI (o:Int),iI (f:Int)]++HK 7 [iI ((c:Int)+1),iI ((c:Int)+1)]++HK 21 [iI (c:Int),iI (c:Int)]++HK 34 [X5 n a b u v,iI (n:Int),iI (n:Int)]++HK 37 [iI ((c:Int)+1),iI (o:Int),top,top,top,top,iI ((c:Int)+1),iI (f:Int),top,top,top,top,iI ((c:Int)+1)]++HK 44 [],m:=[(5,GQ.ints 301 [] 125 λk=>UD (c:Int) T U O (fwF c (fwO c (rdM c T U O a b u v n) o) o f) k),(0,GQ.cells 49 [iI (c:Int),iI T,iI U,iI O])],nx:=86}
noncomputable def Jl9:Code:=(UC (VU (UC (VU (UC (VU (UA Tryz.f158) 3)) 0)) 0))
def We6(o:Nat)(f:Nat)(t:Nat):St:=(upE [(134,i t)] [(5,.ints 301 [] 125 (UD c T U O (fwT (fwF c (fwO c (rdM c T U O a b u v n) o) o f) o f t))),(0,.cells 49 [i c,i T,i U,i O])] (Zm0 c T U O n a b u v o f))
def C2(o:Nat)(f:Nat)(t:Nat):GB->Option St
 | .exit 12=>some (upE [(134,i ((c:Int)+1))] [(5,.ints 301 [] 125 (UD c T U O (fwT (fwF c (fwO c (rdM c T U O a b u v n) o) o f) o f (c+1)))),(0,.cells 49 [i c,i T,i U,i O])] (Zm0 c T U O n a b u v o f))
 |_=>none
def Jh4(o:Nat)(f:Nat):CT:= .leaf (.exit 12,(C2 c T U O n a b u v o f 0 (.exit 12)).getD (Zm0 c T U O n a b u v o f))
def Xr6(o:Nat)(f:Nat):UL:=GN [] (HM (We6 c T U O n a b u v o f (0)) (Jh4 c T U O n a b u v o f))
theorem Zv3(o:Nat)(f:Nat)(VV:1<=c/\c<=10)(UI:1<=U/\U<=O/\O<=200/\1<=T/\T<=2000)(HR:n<=1000)(DY:FN (λk=>rdB c (a k) (b k) (u k) (v k)) n=true)(BM:o<=c)(xZ:f<=c):GD VQ (.loop Jl9) (Xr6 c T U O n a b u v o f):=by
 refine G6 [] (L:=[]) (Ae LT Aa) (Ai Ab (Ag LI Ac)) U0 U7 (X:=Nat) (We6 c T U O n a b u v o f) (λt=>t<=c+1) (λt=>c+1-t) (C2 c T U O n a b u v o f) (x0:=0) VW ?_ ?_ ?_
 ·rintro t;kernel_rfl
 ·rintro t y E h;unfold C2 at h;split at h
  ·cases h;kernel_rfl
  ·cases h
 ·rintro Q hQ t hx;refine ⟨(t+1),?_⟩;(with_reducible refine DU (t:=let z2:=(fwF c (fwO c (rdM c T U O a b u v n) o) o f);let A:=(fwT z2 o f t);let I:=(U1 ((c:Int)+1));let Z:=(UD (c:Int) T U O A (t*1+(f*11+4)));(branch (decide ((t:Int)<(c:Int)+1)) (need [UN f 11] (need [UN o 11] (need [o*1+(f*11+4)<125] (need [UN o 11] (need [UN t 11] (need [t*1+(o*11+4)<125] (need [VN (UD (c:Int) T U O A (o*1+(f*11+4))+UD (c:Int) T U O A (t*1+(o*11+4)))] (need [UN f 11] (need [UN t 11] (need [t*1+(f*11+4)<125] (need [UN f 11] (need [UN t 11] (need [t*1+(f*11+4)+List.length [min Z (UD (c:Int) T U O A (o*1+(f*11+4))+UD (c:Int) T U O A (t*1+(o*11+4)))]<=125] (need [VN ((t:Int)+1)] (need [U1 (agg [iI (c:Int),iI T,iI U,iI O]),Q4 n a b u v,XI,QU=QU,WN,XV,ZH,U1 (o:Int),U1 (f:Int),I,I,U1 (c:Int),U1 (c:Int),Q4 n a b u v,U1 (n:Int),U1 (n:Int),I,U1 (o:Int),I,U1 (f:Int),I,(t:Int)+1=(↑(t+1):Int),125=125,GV 125 (US (t*1+(f*11+4)) (min Z (UD (c:Int) T U O A (o*1+(f*11+4))+UD (c:Int) T U O A (t*1+(o*11+4)))) (UD (c:Int) T U O A)) (UD (c:Int) T U O (fwT z2 o f (t+1))),U1 (c:Int),T=T,U=U,O=O] (leaf GB.normal)))))))))))))))) (need [U1 (agg [iI (c:Int),iI T,iI U,iI O]),Q4 n a b u v,XI,QU=QU,WN,XV,ZH,U1 (o:Int),U1 (f:Int),I,I,U1 (c:Int),U1 (c:Int),Q4 n a b u v,U1 (n:Int),U1 (n:Int),I,U1 (o:Int),I,U1 (f:Int),I,(t:Int)=(c:Int)+1,125=125,GV 125 (UD (c:Int) T U O A) (UD (c:Int) T U O (fwT z2 o f (c+1))),U1 (c:Int),T=T,U=U,O=O] (leaf (GB.exit 12))))) VX ?_);simp only [Jh4,C2,VO.sat,GX] at hQ;simp only [VO.sat,UE,G5,GL,UH,VN,UK,HG,RX,RP,LO,GS,C2]
  have hv: ∀j,j<n->0<=u j/\u j<=v j/\v j<=2000:=by
   intro j hj;have:=H3.1 DY j hj;simp only [rdB,HA,bt_iff,insB_iff] at this;omega
  have hl:=λx y=>Jd4 (c:=c) (mU (c:=c) (a:=a) (b:=b) UI hv n (Am _)) (o:=o) (f:=f) (t:=t) VL x y
  have hfo:=hl f o;have hot:=hl o t;refine ⟨λh=>?_,λh=>?_⟩
  ·have h1: ∀M,UD c T U O M (o*1+(f*11+4))=M f o:=λM=>qA _ _ _ _ _ VL VL
   have h2: ∀M,UD c T U O M (t*1+(o*11+4))=M o t:=λM=>qA _ _ _ _ _ VL VL
   have h3: ∀M v,US (t*1+(f*11+4)) (min (UD c T U O M (t*1+(f*11+4))) v) (UD c T U O M)=UD c T U O (bnd M f t v):=λM v=>zP VL VL
   simp only [h3];simp only [h1,h2]
   (with_reducible repeat' first|apply Al|intro _)
   all_goals first|exact Ak|omega|with_reducible rfl|(rename_i E hE;cases hE;exact hQ)|rfl
  ·obtain rfl:t=c+1:=VL
   (with_reducible repeat' first|apply Al|intro _)
   all_goals first|exact Ak|omega|with_reducible rfl|(rename_i E hE;cases hE;exact hQ)|rfl
theorem Zv4(o:Nat)(VV:1<=c/\c<=10)(UI:1<=U/\U<=O/\O<=200/\1<=T/\T<=2000)(HR:n<=1000)(DY:FN (λk=>rdB c (a k) (b k) (u k) (v k)) n=true)(BM:o<=c):GD VQ (.loop Zo5) (Xr7 c T U O n a b u v o):=by
 refine G6 [] (L:=[BG 14 (λk=>RO [k<=c] (Xr6 c T U O n a b u v o k))]) (Ae LT Aa) (Ai Ab (Ag LI Ac)) U0 (GA (λcj hcj=>by
  have e:VU Zo5 0=some (.loop Jl9):=VX;rw [e] at hcj;cases hcj;exact P4 (λk=>FH (λh=>Zv3 c T U O n a b u v o k VV UI HR DY BM h)))) (X:=Nat) (We7 c T U O n a b u v o) (λf=>f<=c+1) (λf=>c+1-f) (C3 c T U O n a b u v o) (x0:=0) VW ?_ ?_ ?_
 ·rintro f;kernel_rfl
 ·rintro f y E h;unfold C3 at h;split at h
  ·cases h;kernel_rfl
  ·cases h
 ·rintro Q hQ f hx;refine ⟨(f+1),?_⟩;(with_reducible refine DU (t:=let A:=(U1 ((c:Int)+1));let I:=(fwO c (rdM c T U O a b u v n) o);let z2:=(U1 (agg [iI (c:Int),iI T,iI U,iI O]));let Z:=Q4 n a b u v;(branch (decide ((f:Int)<(c:Int)+1)) (need [VN ((c:Int)+1)] (need [f<=c] (need [z2,Z,XI,QU=QU,WN,XV,ZH,U1 (o:Int),U1 (f:Int),A,A,U1 (c:Int),U1 (c:Int),Z,U1 (n:Int),U1 (n:Int),A,U1 (o:Int),A,U1 (f:Int),A,(0:Int)=(↑(0:Nat):Int),125=125,GV 125 (UD (c:Int) T U O (fwF c I o f)) (UD (c:Int) T U O (fwT (fwF c I o f) o f 0)),U1 (c:Int),T=T,U=U,O=O] (need [VN ((f:Int)+1)] (need [z2,Z,XI,QU=QU,WN,XV,ZH,U1 (o:Int),A,A,U1 (c:Int),U1 (c:Int),Z,U1 (n:Int),U1 (n:Int),A,U1 (o:Int),A,(f:Int)+1=(↑(f+1):Int),125=125,GV 125 (UD (c:Int) T U O (fwT (fwF c I o f) o f (c+1))) (UD (c:Int) T U O (fwF c I o (f+1))),U1 (c:Int),T=T,U=U,O=O] (leaf GB.normal)))))) (need [z2,Z,XI,QU=QU,WN,XV,ZH,U1 (o:Int),A,A,U1 (c:Int),U1 (c:Int),Z,U1 (n:Int),U1 (n:Int),A,U1 (o:Int),A,(f:Int)=(c:Int)+1,125=125,GV 125 (UD (c:Int) T U O (fwF c I o f)) (UD (c:Int) T U O (fwF c I o (c+1))),U1 (c:Int),T=T,U=U,O=O] (leaf (GB.exit 10))))) VX ?_);simp only [Jh5,C3,VO.sat,GX] at hQ;simp only [VO.sat,UE,G5,GL,UH,VN,UK,HG,RX,RP,LO,GS,C3]
  refine ⟨λh=>?_,λh=>?_⟩
  ·(with_reducible repeat' first|apply Al|intro _)
   all_goals first|exact Ak|omega|with_reducible rfl|(rename_i E hE;cases hE;exact hQ)|rfl
  ·obtain rfl:f=c+1:=VL
   (with_reducible repeat' first|apply Al|intro _)
   all_goals first|exact Ak|omega|with_reducible rfl|(rename_i E hE;cases hE;exact hQ)|rfl
theorem Qz3(VV:1<=c/\c<=10)(UI:1<=U/\U<=O/\O<=200/\1<=T/\T<=2000)(HR:n<=1000)(DY:FN (λk=>rdB c (a k) (b k) (u k) (v k)) n=true):GD VQ (.loop Qr0) (lU c T U O n a b u v):=by
 refine G6 [] (L:=[BG 13 (λk=>RO [k<=c] (Xr7 c T U O n a b u v k))]) (Ae LT Aa) (Ai Ab (Ag LI Ac)) U0 (GA (λcj hcj=>by
  have e:VU Qr0 0=some (.loop Zo5):=VX;rw [e] at hcj;cases hcj;exact P4 (λk=>FH (λh=>Zv4 c T U O n a b u v k VV UI HR DY h)))) (X:=Nat) (E7 c T U O n a b u v) (λo=>o<=c+1) (λo=>c+1-o) (qE c T U O n a b u v) (x0:=0) VW ?_ ?_ ?_
 ·rintro o;kernel_rfl
 ·rintro o y E h;unfold qE at h;split at h
  ·cases h;kernel_rfl
  ·cases h
 ·rintro Q hQ o hx;refine ⟨(o+1),?_⟩;(with_reducible refine DU (t:=let A:=(U1 ((c:Int)+1));let I:=(rdM c T U O a b u v n);let z2:=(U1 (agg [iI (c:Int),iI T,iI U,iI O]));let Z:=Q4 n a b u v;(branch (decide ((o:Int)<(c:Int)+1)) (need [VN ((c:Int)+1)] (need [o<=c] (need [z2,Z,XI,QU=QU,WN,XV,ZH,U1 (o:Int),A,A,U1 (c:Int),U1 (c:Int),Z,U1 (n:Int),U1 (n:Int),A,U1 (o:Int),A,(0:Int)=(↑(0:Nat):Int),125=125,GV 125 (UD (c:Int) T U O (fwO c I o)) (UD (c:Int) T U O (fwF c (fwO c I o) o 0)),U1 (c:Int),T=T,U=U,O=O] (need [VN ((o:Int)+1)] (need [z2,Z,XI,QU=QU,WN,XV,ZH,A,A,U1 (c:Int),U1 (c:Int),Z,U1 (n:Int),U1 (n:Int),A,(o:Int)+1=(↑(o+1):Int),125=125,GV 125 (UD (c:Int) T U O (fwF c (fwO c I o) o (c+1))) (UD (c:Int) T U O (fwO c I (o+1))),U1 (c:Int),T=T,U=U,O=O] (leaf GB.normal)))))) (need [z2,Z,XI,QU=QU,WN,XV,ZH,A,A,U1 (c:Int),U1 (c:Int),Z,U1 (n:Int),U1 (n:Int),A,(o:Int)=(c:Int)+1,125=125,GV 125 (UD (c:Int) T U O (fwO c I o)) (UD (c:Int) T U O (fwO c I (c+1))),U1 (c:Int),T=T,U=U,O=O] (leaf (GB.exit 8))))) VX ?_);simp only [Ws5,qE,VO.sat,GX] at hQ;simp only [VO.sat,UE,G5,GL,UH,VN,UK,HG,RX,RP,LO,GS,qE]
  refine ⟨λh=>?_,λh=>?_⟩
  ·(with_reducible repeat' first|apply Al|intro _)
   all_goals first|exact Ak|omega|with_reducible rfl|(rename_i E hE;cases hE;exact hQ)|rfl
  ·obtain rfl:o=c+1:=VL
   (with_reducible repeat' first|apply Al|intro _)
   all_goals first|exact Ak|omega|with_reducible rfl|(rename_i E hE;cases hE;exact hQ)|rfl
def fwM:Nat->Nat->Int:=fwO c (rdM c T U O a b u v n) (c+1)
def okR:Bool:=FN (λk=>decide (0<=fwM c T U O n a b u v k k)) (c+1)
def Wx4:St:={σ:=[agg [iI (c:Int),iI T,iI U,iI O],X5 n a b u v,ptr 0 0,top,top,top,ptr 5 0,top,top,top,AV.mp 63]++HK 11 [iI ((c:Int)+1),iI ((c:Int)+1)]++HK 21 [iI (c:Int),iI (c:Int)]++HK 34 [X5 n a b u v,iI (n:Int),iI (n:Int)]++HK 37 [iI ((c:Int)+1),iI ((c:Int)+1)]++HK 40 [iI ((c:Int)+1)]++HK 14 [],m:=[(5,GQ.ints 301 [] 125 λk=>UD (c:Int) T U O (fwO c (rdM c T U O a b u v n) (c+1)) k),(0,GQ.cells 49 [iI (c:Int),iI T,iI U,iI O])],nx:=76}
noncomputable def Jl8:Code:=UC (VU (UA Tryz.f158) 4)
def We5(k:Nat):St:=(upE [(164,i k)] [(5,.ints 301 [] 125 (UD c T U O (fwM c T U O n a b u v))),(0,.cells 49 [i c,i T,i U,i O])] (Wx4 c T U O n a b u v))
def hO(k:Nat):GB->Option St
 | .ret=>some (upE [(4,.x (.pointer none)),(5,.lit false),(164,.top)] [(5,.ints 301 [] 125 (UD c T U O (fwM c T U O n a b u v))),(0,.cells 49 [i c,i T,i U,i O])] (Wx4 c T U O n a b u v))
 | .exit 14=>some (upE [(164,.top)] [(5,.ints 301 [] 125 (UD c T U O (fwM c T U O n a b u v))),(0,.cells 49 [i c,i T,i U,i O])] (Wx4 c T U O n a b u v))
 |_=>none
def Jh3:CT:= .branch (okR c T U O n a b u v) (.leaf (.exit 14,(hO c T U O n a b u v 0 (.exit 14)).getD (Wx4 c T U O n a b u v))) (.leaf (.ret,(hO c T U O n a b u v 0 .ret).getD (Wx4 c T U O n a b u v)))
def Xr5:UL:=GN [] (HM (We5 c T U O n a b u v (0)) (Jh3 c T U O n a b u v))
theorem Zv2(VV:1<=c/\c<=10)(UI:1<=U/\U<=O/\O<=200/\1<=T/\T<=2000)(HR:n<=1000)(DY:FN (λk=>rdB c (a k) (b k) (u k) (v k)) n=true):GD VQ (.loop Jl8) (Xr5 c T U O n a b u v):=by
 refine G6 [] (L:=[]) (Ae LT Aa) (Ai Ab (Ag LI Ac)) U0 U7 (X:=Nat) (We5 c T U O n a b u v) (λk=>k<=c+1/\ ∀j,j<k->0<=fwM c T U O n a b u v j j) (λk=>c+1-k) (hO c T U O n a b u v) (x0:=0) VW ?_ ?_ ?_
 ·rintro k;kernel_rfl
 ·rintro k y E h;unfold hO at h;split at h
  ·cases h;kernel_rfl
  ·cases h;kernel_rfl
  ·cases h
 ·rintro Q hQ k hx;refine ⟨(k+1),?_⟩;(with_reducible refine DU (t:=let A:=(U1 ((c:Int)+1));let I:=(fwM c T U O n a b u v);let z2:=(U1 (agg [iI (c:Int),iI T,iI U,iI O]));let Z:=Q4 n a b u v;(branch (decide ((k:Int)<(c:Int)+1)) (need [UN k 11] (need [UN k 11] (need [k*1+(k*11+4)<125] (branch (decide (UD (c:Int) T U O I (k*1+(k*11+4))<0)) (need [z2,Z,XI,QU=QU,WN,XV,ZH,A,A,U1 (c:Int),U1 (c:Int),Z,U1 (n:Int),U1 (n:Int),A,A,A,125=125,GO 125 (UD (c:Int) T U O I),U1 (c:Int),T=T,U=U,O=O] (leaf GB.ret)) (need [VN ((k:Int)+1)] (need [z2,Z,XI,XV,ZH,A,A,U1 (c:Int),U1 (c:Int),Z,U1 (n:Int),U1 (n:Int),A,A,A,(k:Int)+1=(↑(k+1):Int),125=125,GO 125 (UD (c:Int) T U O I),U1 (c:Int),T=T,U=U,O=O] (leaf GB.normal))))))) (need [z2,Z,XI,XV,ZH,A,A,U1 (c:Int),U1 (c:Int),Z,U1 (n:Int),U1 (n:Int),A,A,A,125=125,GO 125 (UD (c:Int) T U O I),U1 (c:Int),T=T,U=U,O=O] (leaf (GB.exit 14))))) VX ?_);simp only [Jh3,hO,VO.sat,GX] at hQ;simp only [VO.sat,UE,G5,GL,UH,VN,UK,HG,RX,RP,LO,GS,hO]
  have h1:UD c T U O (fwM c T U O n a b u v) (k*1+(k*11+4))=fwM c T U O n a b u v k k\/11<=k:=by
   rcases An k 11 with h|h
   ·exact .inl (qA _ _ _ _ _ VL h)
   ·exact .inr h
  refine ⟨λh=>?_,λh=>?_⟩
  ·have h2:=h1.resolve_right VL;rw [h2];refine ⟨VL,VL,VL,λhneg=>?_,λWj3=>?_⟩
   ·have hno:okR c T U O n a b u v=false:=by
     cases ho:okR c T U O n a b u v
     ·rfl
     ·have:=H3.1 ho k VL;simp at this;omega
    (with_reducible repeat' first|apply Al|intro _)
    all_goals first|exact PM|(rename_i E hE;cases hE;exact hQ.2 hno)
   ·exact VF
  ·obtain ⟨hx1,hx2⟩:=hx;obtain rfl:k=c+1:=VL;have Wi1:okR c T U O n a b u v=true:=H3.2 (λj hj=>by simpa using hx2 j hj)
   (with_reducible repeat' first|apply Al|intro _)
   all_goals first|exact PM|(rename_i E hE;cases hE;exact hQ.1 Wi1)
end
theorem vK{S:Code->UL->Prop}{c:Code}{s0 s1 s2 s3 s4:UL}(h0: ∀cj,VU c 0=some cj->S cj s0)(h1: ∀cj,VU c 1=some cj->S cj s1)(h2: ∀cj,VU c 2=some cj->S cj s2)(h3: ∀cj,VU c 3=some cj->S cj s3)(h4: ∀cj,VU c 4=some cj->S cj s4):
  ∀j cj,VU c j=some cj-> ∀sp,[s0,s1,s2,s3,s4][j]? =some sp->S cj sp:=by
 intro j cj hj sp hsp
 match j with
 | 0=>simp at hsp;subst hsp;exact h0 cj hj
 | 1=>simp at hsp;subst hsp;exact h1 cj hj
 | 2=>simp at hsp;subst hsp;exact h2 cj hj
 | 3=>simp at hsp;subst hsp;exact h3 cj hj
 | 4=>simp at hsp;subst hsp;exact h4 cj hj
 |j+5=>simp at hsp
theorem UP.same{P:Program}{f:FuncId}{avs avs':List AV}{t:VO AV}(h:UP P f avs' t)(k:LW avs avs'):UP P f avs t:=λQ hQ e w args hro hgl FL hr=>h Q hQ e w args hro hgl (k.idf FL) (k.rep hr)
section
variable (c:Nat)(T U O:Int)(n:Nat)(a b u v:Nat->Int)
abbrev sN:AV:= .roI [] 125 (UD c T U O (fwM c T U O n a b u v)) 0
abbrev nilP:AV:= .x (.pointer none)
theorem SC(VV:1<=c/\c<=10)(UI:1<=U/\U<=O/\O<=200/\1<=T/\T<=2000)(HR:n<=1000)(DY:FN (λk=>rdB c (a k) (b k) (u k) (v k)) n=true):UP VQ 158 [.agg [i c,i T,i U,i O],rds n a b u v] (.branch (okR c T U O n a b u v) (.leaf (.tup [sN c T U O n a b u v,.lit true])) (.leaf (.tup [nilP,.lit false]))):=by
 refine GU (L:=[Xs1 c T U O n a b u v,Xr9 c T U O n a b u v,Xr8 c T U O n a b u v,lU c T U O n a b u v,Xr5 c T U O n a b u v]) (Ae LT Aa) (Ai Ab (Ag LI Ac)) U0 Tryz.func158 (UV Tryz.f158) (vK (lpE (b:= .loop Zo6) VX<|(Zw2 c T U O n a b u v VV UI).N) (lpE (b:= .loop Jm1) VX<|(Zw0 c T U O n a b u v VV UI).N) (lpE (b:= .loop Jm0) VX<|(Zv8 c T U O n a b u v VV UI HR DY).N) (lpE (b:= .loop Qr0) VX<|(Qz3 c T U O n a b u v VV UI HR DY).N) (lpE (b:= .loop Jl8) VX<|(Zv2 c T U O n a b u v VV UI HR DY).N)) (t:=let A:=(U1 ((c:Int)+1));let I:=(U1 (agg [iI (c:Int),iI T,iI U,iI O]));let z2:=(UD (c:Int) T U O (cel c U O c) (c*1+4));let Z:=(US (c*1+4) (min z2 T) (UD (c:Int) T U O (cel c U O c)) (0+(c*11+4)));let z4:=Q4 n a b u v;(need [VN ((c:Int)+1)] (need [I,z4,XI,QU=QU,WN,XV,A,(0:Int)=(↑(0:Nat):Int),List.length ([(c:Int),T,U,O]++aN 121)=125,GV 125 (U9 ([(c:Int),T,U,O]++aN 121)) (UD (c:Int) T U O (ini c 0 0)),U1 (c:Int),T=T,U=U,O=O] (need [I,z4,XI,QU=QU,WN,XV,A,A,U1 (c:Int),(0:Int)=(↑(0:Nat):Int),125=125,GV 125 (UD (c:Int) T U O (ini c (c+1) 0)) (UD (c:Int) T U O (cel c U O 0)),U1 (c:Int),T=T,U=U,O=O] (need [UN 0 11] (need [UN c 11] (need [c*1+4<125] (need [UN 0 11] (need [UN c 11] (need [c*1+4+List.length [min z2 T]<=125] (need [VN (-T)] (need [UN c 11] (need [UN 0 11] (need [0+(c*11+4)<125] (need [UN c 11] (need [UN 0 11] (need [0+(c*11+4)+List.length [min Z (-T)]<=125] (need [I,z4,XI,QU=QU,WN,XV,ZH,A,A,U1 (c:Int),U1 (c:Int),z4,U1 (n:Int),(0:Int)=(↑(0:Nat):Int),125=125,GV 125 (US (0+(c*11+4)) (min Z (-T)) (j5 (c*1+4) [min z2 T] (UD (c:Int) T U O (cel c U O c)))) (UD (c:Int) T U O (rdM c T U O a b u v 0)),U1 (c:Int),T=T,U=U,O=O,∀(k:Value),False->sn a b u v 0 k/\k=Value.bool true] (need [VN ((c:Int)+1)] (need [I,z4,XI,QU=QU,WN,XV,ZH,A,A,U1 (c:Int),U1 (c:Int),z4,U1 (n:Int),U1 (n:Int),A,(0:Int)=(↑(0:Nat):Int),125=125,GV 125 (UD (c:Int) T U O (rdM c T U O a b u v n)) (UD (c:Int) T U O (fwO c (rdM c T U O a b u v n) 0)),U1 (c:Int),T=T,U=U,O=O] (need [VN ((c:Int)+1)] (need [I,z4,XI,XV,ZH,A,A,U1 (c:Int),U1 (c:Int),z4,U1 (n:Int),U1 (n:Int),A,A,A,(0:Int)=(↑(0:Nat):Int),125=125,GV 125 (UD (c:Int) T U O (fwO c (rdM c T U O a b u v n) (c+1))) (UD (c:Int) T U O (fwM c T U O n a b u v)),U1 (c:Int),T=T,U=U,O=O] (branch (okR c T U O n a b u v) (leaf (tup [roI [] 125 (λk=>UD (c:Int) T U O (fwM c T U O n a b u v) k) 0,AV.lit true])) (leaf (tup [QU,AV.lit false]))))))))))))))))))))))))) VX ?_
 intro Q hQ;have h1: ∀M w,US (c*1+4) (min (UD c T U O M (c*1+4)) w) (UD c T U O M)=UD c T U O (bnd M 0 c w):=λM w=>zP VL VL
 have h2: ∀M w,US (0+(c*11+4)) (min (UD c T U O M (0+(c*11+4))) w) (UD c T U O M)=UD c T U O (bnd M c 0 w):=λM w=>zP VL VL
 simp only [VO.sat,UE,UK,VN,LO,GS,h1,h2] at hQ ⊢
 (with_reducible repeat' first|apply Al|intro _)
 all_goals first|exact Ak|omega|with_reducible rfl|rfl|exact Qx8 _ _ _ _ _ _|(rename_i h;exact h.elim)|(rename_i h;exact ⟨.tup [sN c T U O n a b u v,.lit true],⟨⟨rfl,rfl,λ_ _=>rfl,rfl⟩,rfl,Ak⟩,hQ.1 h⟩)|(rename_i h;exact ⟨.tup [nilP,.lit false],⟨rfl,rfl,Ak⟩,hQ.2 h⟩)
end
def col(j:Nat)(f:Nat->List AV):Nat->Int:=λk=>Wh5 (f k) j
def dZ:D8:=λl=>match l with
 |[.agg [.x (.int .i64 c),.x (.int .i64 T),.x (.int .i64 U),.x (.int .i64 O)],.lst 4 n f]=>some (.need [UG 4 n f,1<=c/\c<=10,1<=U/\U<=O/\O<=200/\1<=T/\T<=2000,n<=1000,FN (λk=>rdB c (col 0 f k) (col 1 f k) (col 2 f k) (col 3 f k)) n=true]
   (.branch (okR c.toNat T U O n (col 0 f) (col 1 f) (col 2 f) (col 3 f)) (.leaf (.tup [sN c.toNat T U O n (col 0 f) (col 1 f) (col 2 f) (col 3 f),.lit true])) (.leaf (.tup [nilP,.lit false]))))
 |_=>none
theorem wX:Enters VQ 158/\ ∀avs t,dZ avs=some t->UP VQ 158 avs t:=by
 refine ⟨(UJ Tryz.func158),?_⟩;intro avs t h;unfold dZ at h;split at h
 ·rename_i c T U O n f;cases h;intro Q hQ;have hn:=GE hQ.1;have hr:UG 4 n f:=hn _ VW;have hc:1<=c/\c<=10:=hn _ VW;have HY:FN (λk=>rdB c (col 0 f k) (col 1 f k) (col 2 f k) (col 3 f k)) n=true:=hn _ VW
  have e:((c.toNat:Nat):Int)=c:=VL;have h0:=SC c.toNat T U O n (col 0 f) (col 1 f) (col 2 f) (col 3 f) VL (hn _ VW) (hn _ VW) (by rw [e];exact HY)
  rw [e] at h0;exact UP.same h0 (.cons (.refl _) (.cons (.lst 4 n _ _ hr) .nil)) Q hQ.2
 ·cases h
theorem PJ.same{P:Program}{f:FuncId}{avs avs':List AV}{t:VO AV}(h:PJ P f avs' t)(k:LW avs avs'):PJ P f avs t:=λQ hQ e w args hro hgl FL hr=>h Q hQ e w args hro hgl (k.idf FL) (k.rep hr)
def Qe8:G0
 |[.agg [.x (.int .i64 a),.x (.int .i64 b),.x (.int .i64 u),.x (.int .i64 v)],.ro [.fn (.func 192) [.agg [.x (.int .i64 c),.x (.int .i64 T),.x (.int .i64 U),.x (.int .i64 O)]] []]]=>some ([1<=c/\c<=10],bl (!rdB c a b u v))
 |_=>none
theorem Wr8(c T U O a b u v:Int)(VV:1<=c/\c<=10):VZ VQ 227 [.agg [i a,i b,i u,i v],.ro [.fn (.func 192) [.agg [i c,i T,i U,i O]] []]] (bl (!rdB c a b u v)):=by
 refine U4 (L:=[]) (Ae mR Aa) U0 Tryz.func227 (UV Tryz.f227) U7 (t:=need [(1:Int)<=c/\c<=10] (leaf (RV.x (.bool !rdB c a b u v)))) VX ?_;simp [VO.sat,UE,G5,UH];exact VV
theorem iY:VS VQ 227 Qe8:=by
 refine ⟨(UJ Tryz.func227),?_⟩;intro avs ns W h hn;unfold Qe8 at h;split at h
 ·cases h;exact Wr8 _ _ _ _ _ _ _ _ (hn _ VW)
 ·cases h
def y7(c:Int)(a b u v:Nat->Int)(k:Nat):Bool:= !rdB c (a k) (b k) (u k) (v k)
def MH(c:Int)(n:Nat)(a b u v:Nat->Int):Bool:=FN (λk=>rdB c (a k) (b k) (u k) (v k)) n
abbrev X2(c:Int)(T:Int)(U:Int)(O:Int):AV:=AV.fn (Fn.func 227) [] [AV.ro [AV.fn (Fn.func 192) [agg [iI c,iI T,iI U,iI O]] []]]
section
variable (c T U O:Int)(n:Nat)(a b u v:Nat->Int)
def m8:St:={σ:=[X5 n a b u v,X2 c T U O]++HK 5 [iI (n:Int)]++HK 11 [],m:=[],nx:=4}
noncomputable def Xu9:Code:=UC (VU (UA Tryz.f245) 0)
def tP(k:Nat):St:=(upM [(8,i k)] (m8 c T U O n a b u v))
def kN(k:Nat):GB->Option St
 | .ret=>some (upM [(4,i (GW (y7 c a b u v) n))] (m8 c T U O n a b u v))
 | .exit 0=>some (upM [] (m8 c T U O n a b u v))
 |_=>none
def Xp5:CT:= .branch (decide (GW (y7 c a b u v) n<n)) (.leaf (.ret,(kN c T U O n a b u v 0 .ret).getD (m8 c T U O n a b u v))) (.leaf (.exit 0,(kN c T U O n a b u v 0 (.exit 0)).getD (m8 c T U O n a b u v)))
def Wv4:UL:=(HM (tP c T U O n a b u v (0)) (Xp5 c T U O n a b u v))
theorem Xv2(VV:n<=100000)(UI:1<=c/\c<=10):GD VQ (.loop Xu9) (Wv4 c T U O n a b u v):=by
 refine HT (L:=[]) (Ae iY Aa) U0 U7 (X:=Nat) (tP c T U O n a b u v) (λk=>k<=n/\ ∀j,j<k->y7 c a b u v j=false) (λk=>n-k) (kN c T U O n a b u v) (x0:=0) VW ?_ ?_ ?_
 ·rintro k;kernel_rfl
 ·rintro k y E h;unfold kN at h;split at h
  ·cases h;kernel_rfl
  ·cases h;kernel_rfl
  ·cases h
 ·rintro Q hQ k hx;refine ⟨(k+1),?_⟩;(with_reducible refine DU (t:=branch (decide ((k:Int)<(n:Int))) (need [UN k n] (need [(1:Int)<=c/\c<=10] (branch (!rdB c (a k) (b k) (u k) (v k)) (need [Q4 n a b u v,U1 (X2 c T U O),(k:Int)=(↑(GW (y7 c a b u v) n):Int),U1 (n:Int)] (leaf GB.ret)) (need [VN ((k:Int)+1)] (need [Q4 n a b u v,U1 (X2 c T U O),U1 (n:Int),(k:Int)+1=(↑(k+1):Int)] (leaf GB.normal)))))) (need [Q4 n a b u v,U1 (X2 c T U O),U1 (n:Int)] (leaf (GB.exit 0)))) VX ?_);simp only [Xp5,kN,VO.sat,GX,HG] at hQ;simp only [VO.sat,UE,UK,HG,VN,kN,FF];refine ⟨λh=>⟨VL,UI,λhb=>?_,λhb=>?_⟩,λh=>?_⟩
  ·have hf:GW (y7 c a b u v) n=k:=zI VL hb hx.2;refine ⟨VL,λE hE=>?_⟩
   cases hE;exact hQ.1 VL
  ·refine ⟨VL,VL,⟨VL,λj hj=>?_⟩,VL⟩
   rcases (show j<k\/j=k by omega) with h1|rfl
   ·exact hx.2 j h1
   ·exact hb
  ·have hf:GW (y7 c a b u v) n=n:=BX (λj hj=>hx.2 j VL)
   intro E hE;cases hE;exact hQ.2 VL
theorem Xv3(VV:n<=100000)(UI:1<=c/\c<=10):VZ VQ 245 [rds n a b u v,.fn (.func 227) [] [.ro [.fn (.func 192) [.agg [i c,i T,i U,i O]] []]]] (i (if GW (y7 c a b u v) n<n then (GW (y7 c a b u v) n:Int) else -1)):=by
 refine U4 (L:=[Wv4 c T U O n a b u v]) (Ae iY Aa) U0 Tryz.func245 (UV Tryz.f245) (GA (lpE (b:= .loop Xu9) VX<|Xv2 c T U O n a b u v VV UI)) (t:=need [Q4 n a b u v,U1 (X2 c T U O),U1 (n:Int),(0:Int)=(↑(0:Nat):Int)] (branch (decide (GW (y7 c a b u v) n<n)) (leaf (RV.x (.int .i64 (↑(GW (y7 c a b u v) n):Int)))) (leaf (RV.x (.int .i64 (-1:Int)))))) VX ?_
 exact VB
end
theorem isRec4(n:Nat)(a b u v:Nat->Int):UG 4 n (λk=>[i (a k),i (b k),i (u k),i (v k)]):=λ_ _=>rfl
def Xp8:G0
 |[.lst 4 n f,.fn (.func 227) [] [.ro [.fn (.func 192) [.agg [.x (.int .i64 c),.x (.int .i64 T),.x (.int .i64 U),.x (.int .i64 O)]] []]]]=>some ([UG 4 n f,n<=100000,1<=c/\c<=10],i (if GW (y7 c (col 0 f) (col 1 f) (col 2 f) (col 3 f)) n<n then (GW (y7 c (col 0 f) (col 1 f) (col 2 f) (col 3 f)) n:Int) else -1))
 |_=>none
def Xq3:G0
 |[.lst 4 n f,.fn (.func 227) [] [.ro [.fn (.func 192) [.agg [.x (.int .i64 c),.x (.int .i64 T),.x (.int .i64 U),.x (.int .i64 O)]] []]]]=>some ([UG 4 n f,n<=100000,1<=c/\c<=10],bl (!MH c n (col 0 f) (col 1 f) (col 2 f) (col 3 f)))
 |_=>none
def Wt8:G0
 |[.lst 4 n f,.fn (.func 192) [.agg [.x (.int .i64 c),.x (.int .i64 T),.x (.int .i64 U),.x (.int .i64 O)]] []]=>some ([UG 4 n f,n<=100000,1<=c/\c<=10],bl (MH c n (col 0 f) (col 1 f) (col 2 f) (col 3 f)))
 |_=>none
def flt(c T U O:Int)(n:Nat)(a b u v:Nat->Int):Int:=if BZ c T U O then (if 12<n then 3 else if MH c n a b u v then 0 else 2) else 1
def Qe2:G0
 |[.agg [.x (.int .i64 c),.x (.int .i64 T),.x (.int .i64 U),.x (.int .i64 O)],.lst 4 n f]=>some ([UG 4 n f],i (flt c T U O n (col 0 f) (col 1 f) (col 2 f) (col 3 f)))
 |_=>none
theorem Xv1:VS VQ 245 Xp8:=by
 refine ⟨(UJ Tryz.func245),?_⟩;intro avs ns W h hn;unfold Xp8 at h;split at h
 ·cases h;have hr:UG 4 _ _:=hn _ (GI);exact (Xv3 _ _ _ _ _ (col 0 _) (col 1 _) (col 2 _) (col 3 _) (hn _ VW) (hn _ VW)).same (.cons (.lst 4 _ _ _ hr) (.cons (.refl _) .nil))
 ·cases h
section
variable (c T U O:Int)(n:Nat)(a b u v:Nat->Int)
theorem Zj1(VV:n<=100000)(UI:1<=c/\c<=10):VZ VQ 226 [rds n a b u v,.fn (.func 227) [] [.ro [.fn (.func 192) [.agg [i c,i T,i U,i O]] []]]] (bl (!MH c n a b u v)):=by
 refine U4 (L:=[]) (Ae Xv1 Aa) U0 Tryz.func226 (UV Tryz.f226) U7 (t:=need [UG 4 n λk=>[i (a k),i (b k),i (u k),i (v k)],n<=100000,(1:Int)<=c/\c<=10] (leaf (RV.x (.bool (decide ((if GW (y7 c a b u v) n<n then (↑(GW (y7 c a b u v) n):Int) else (-1:Int))>=(0:Int))))))) VX ?_
 simp only [VO.sat,UE,G5,UH,UK];refine ⟨⟨isRec4 n _ _ _ _,VV,UI⟩,?_⟩;unfold MH;rw [kB];have:=DZ (y7 c a b u v) n;have e:(λk=> !(λk=>rdB c (a k) (b k) (u k) (v k)) k)=y7 c a b u v:=rfl
 rw [e];split<;>simp<;>omega
theorem Zj0:VS VQ 226 Xq3:=by
 refine ⟨(UJ Tryz.func226),?_⟩;intro avs ns W h hn;unfold Xq3 at h;split at h
 ·cases h;have hr:UG 4 _ _:=hn _ (GI);exact (Zj1 _ _ _ _ _ (col 0 _) (col 1 _) (col 2 _) (col 3 _) (hn _ VW) (hn _ VW)).same (.cons (.lst 4 _ _ _ hr) (.cons (.refl _) .nil))
 ·cases h
theorem Xi9(VV:n<=100000)(UI:1<=c/\c<=10):VZ VQ 193 [rds n a b u v,.fn (.func 192) [.agg [i c,i T,i U,i O]] []] (bl (MH c n a b u v)):=by
 refine U4 (L:=[]) (Ae Zj0 Aa) U0 Tryz.func193 (UV Tryz.f193) U7 (t:=need [UG 4 n λk=>[i (a k),i (b k),i (u k),i (v k)],n<=100000,(1:Int)<=c/\c<=10] (leaf (RV.x (.bool !!MH c n a b u v)))) VX ?_
 simp only [VO.sat,UE,G5,UH,UK];refine ⟨⟨isRec4 n _ _ _ _,VV,UI⟩,?_⟩;simp
end
theorem Xi8:VS VQ 193 Wt8:=by
 refine ⟨(UJ Tryz.func193),?_⟩;intro avs ns W h hn;unfold Wt8 at h;split at h
 ·cases h;have hr:UG 4 _ _:=hn _ (GI);exact (Xi9 _ _ _ _ _ (col 0 _) (col 1 _) (col 2 _) (col 3 _) (hn _ VW) (hn _ VW)).same (.cons (.lst 4 _ _ _ hr) (.cons (.refl _) .nil))
 ·cases h
theorem BI{c T U O:Int}(h:BZ c T U O=true):(1<=c/\c<=10)/\(1<=U/\U<=O/\O<=200/\1<=T/\T<=2000)/\c*U<=T/\T<=c*O:=by
 simp only [BZ,HA,bt_iff,insB_iff] at h;omega
theorem Wp3(c T U O:Int)(n:Nat)(a b u v:Nat->Int):VZ VQ 157 [.agg [i c,i T,i U,i O],rds n a b u v] (i (flt c T U O n a b u v)):=by
 refine U4 (L:=[]) (Ae CheckTube_ok (Ae Xi8 Aa)) U0 Tryz.func157 (UV Tryz.f157) U7 (t:=branch ((if BZ c T U O=true then (0:Int) else (1:Int)) != 0) (leaf (RV.x (.int .i64 (if BZ c T U O=true then (0:Int) else (1:Int))))) (branch (decide ((n:Int)>12)) (leaf (RV.x (.int .i64 (3:Int)))) (need [UG 4 n λk=>[i (a k),i (b k),i (u k),i (v k)],n<=100000,(1:Int)<=c/\c<=10] (branch (!MH c n a b u v) (leaf (RV.x (.int .i64 (2:Int)))) (leaf (RV.x (JT))))))) VX ?_
 simp only [VO.sat,UE,G5,UH,UK,flt];by_cases ht:BZ c T U O=true
 ·have hb:=BI ht;by_cases hn:12<n
  ·simp [ht,hn];omega
  ·cases ha:MH c n a b u v<;>simp [ht,hn,ha,isRec4 n a b u v]<;>omega
 ·simp [ht]
theorem Wp2:VS VQ 157 Qe2:=by
 refine ⟨(UJ Tryz.func157),?_⟩;intro avs ns W h hn;unfold Qe2 at h;split at h
 ·cases h;have hr:UG 4 _ _:=hn _ (GI);exact (Wp3 _ _ _ _ _ (col 0 _) (col 1 _) (col 2 _) (col 3 _)).same (.cons (.refl _) (.cons (.lst 4 _ _ _ hr) .nil))
 ·cases h
theorem nP(f:Nat->Int)(k:Nat)(VV:k<=10)(UI: -1000000000000<=f (k*11+4)/\f (k*11+4)<=1000000000000):VZ VQ 195 [.roI [] 125 f 0,i k] (i (-(f (k*11+4)))):=by
 refine GT Tryz.func195 (t:=need [UN k 11] (need [UN 0 11] (need [0+(k*11+4)<125] (need [VN (-f (0+(k*11+4)))] (leaf (RV.x (.int .i64 (-f (0+(k*11+4)))))))))) VX ?_;simp only [VO.sat,UE,G5,GL,UH,UK,FF];rw [show 0+(k*11+4)=k*11+4 by omega]
 simp only [VN];simp;omega
def lC:G0
 |[.roI [] 125 f 0,.x (.int .i64 k)]=>some ([0<=k/\k<=10,-1000000000000<=f (k.toNat*11+4)/\f (k.toNat*11+4)<=1000000000000],i (-(f (k.toNat*11+4))))
 |_=>none
theorem nO:VS VQ 195 lC:=by
 refine ⟨(UJ Tryz.func195),?_⟩;intro avs ns W h hn;unfold lC at h;split at h
 ·rename_i f k;cases h;have hk:0<=k/\k<=10:=hn _ VW;have e:((k.toNat:Nat):Int)=k:=VL;have h0:=nP f k.toNat VL (hn _ VW);rw [e] at h0;exact h0
 ·cases h
theorem TE(f:Nat->Int)(k:Nat)(VV:k<=10)(UI: -1000000000000<=f (k*11+4)/\f (k*11+4)<=1000000000000):VZ VQ 196 [.roI [] 125 f 0,i k] (i (f (k+4))):=by
 refine GT Tryz.func196 (t:=need [UN 0 11] (need [UN k 11] (need [k*1+4<125] (leaf (RV.x (.int .i64 (f (k*1+4)))))))) VX ?_;simp only [VO.sat,UE,G5,GL,UH,UK,FF];rw [show k*1+4=k+4 by omega]
 simp only [VN];simp;omega
def IK:G0
 |[.roI [] 125 f 0,.x (.int .i64 k)]=>some ([0<=k/\k<=10,-1000000000000<=f (k.toNat*11+4)/\f (k.toNat*11+4)<=1000000000000],i (f (k.toNat+4)))
 |_=>none
theorem TD:VS VQ 196 IK:=by
 refine ⟨(UJ Tryz.func196),?_⟩;intro avs ns W h hn;unfold IK at h;split at h
 ·rename_i f k;cases h;have hk:0<=k/\k<=10:=hn _ VW;have e:((k.toNat:Nat):Int)=k:=VL;have h0:=TE f k.toNat VL (hn _ VW);rw [e] at h0;exact h0
 ·cases h
def lB:G0
 |[]=>some ([],.agg [.fn (.func 195) [] []])
 |_=>none
theorem Qk8:VZ VQ 159 [] (.agg [.fn (.func 195) [] []]):=by
 refine GT Tryz.func159 (t:=leaf (RV.agg [RV.fn (Fn.func 195)])) VX ?_;exact YZ
theorem Qk7:VS VQ 159 lB:=by
 refine ⟨(UJ Tryz.func159),?_⟩;intro avs ns W h hn;unfold lB at h;split at h
 ·cases h;exact Qk8
 ·cases h
def OI:G0
 |[]=>some ([],.agg [.fn (.func 196) [] []])
 |_=>none
theorem oF:VZ VQ 160 [] (.agg [.fn (.func 196) [] []]):=by
 refine GT Tryz.func160 (t:=leaf (RV.agg [RV.fn (Fn.func 196)])) VX ?_;exact YZ
theorem oE:VS VQ 160 OI:=by
 refine ⟨(UJ Tryz.func160),?_⟩;intro avs ns W h hn;unfold OI at h;split at h
 ·cases h;exact oF
 ·cases h
theorem Qp3(f:Nat->Int)(k:Nat)(VV:k<=10)(UI: -1000000000000<=f (k*11+4)/\f (k*11+4)<=1000000000000):VZ VQ 119 [.roI [] 125 f 0,i k] (.agg [i (-(f (k*11+4))),i (f (k+4))]):=by
 refine U4 (L:=[]) (Ae nO (Ae TD (Ae Qk7 (Ae oE Aa)))) U0 Tryz.func119 (UV Tryz.f119) U7 (t:=need [(0:Int)<=(k:Int)/\(k:Int)<=10,(-1000000000000:Int)<=f (k*11+4)/\f (k*11+4)<=1000000000000] (need [(0:Int)<=(k:Int)/\(k:Int)<=10,(-1000000000000:Int)<=f (k*11+4)/\f (k*11+4)<=1000000000000] (leaf (RV.agg [RV.x (.int .i64 (-f (k*11+4))),RV.x (.int .i64 (f (k+4)))])))) VX ?_;exact YZ
def lG:G0
 |[.roI [] 125 f 0,.x (.int .i64 k)]=>some ([0<=k/\k<=10,-1000000000000<=f (k.toNat*11+4)/\f (k.toNat*11+4)<=1000000000000],.agg [i (-(f (k.toNat*11+4))),i (f (k.toNat+4))])
 |_=>none
theorem xM:VS VQ 119 lG:=by
 refine ⟨(UJ Tryz.func119),?_⟩;intro avs ns W h hn;unfold lG at h;split at h
 ·rename_i f k;cases h;have hk:0<=k/\k<=10:=hn _ VW;have e:((k.toNat:Nat):Int)=k:=VL;have h0:=Qp3 f k.toNat VL (hn _ VW);rw [e] at h0;exact h0
 ·cases h
def dbF(f:Nat->Int):Nat->Int
 | 0=>0
 |k+1=>max (dbF f k) (f (k+4)- -(f (k*11+4)))
theorem oU{f:Nat->Int}{c:Nat}(h: ∀k,k<=c->(-1000000000000<=f (k*11+4)/\f (k*11+4)<=1000000000000)/\(-1000000000000<=f (k+4)/\f (k+4)<=1000000000000)): ∀k,k<=c+1->0<=dbF f k/\dbF f k<=2000000000000
 | 0,_=>by simp [dbF]
 |k+1,hk=>by
  have:=oU h k VL;have:=h k VL;simp only [dbF];omega
abbrev KF(f:Nat->Int):AV:=roI [] 125 (λa=>f a) 0
def Zo1(c:Nat)(f:Nat->Int):St:={σ:=[KF f]++HK 9 [iI (f 0+1)]++HK 16 [],m:=[],nx:=8}
noncomputable def Jn9:Code:=UC (VU (UA Tryz.f233) 0)
section
variable (c:Nat)(f:Nat->Int)
def Wh1(k:Nat):St:=(upM [(2,i (dbF f k)),(11,i k)] (Zo1 c f))
def CN(k:Nat):GB->Option St
 | .exit 0=>some (upM [(2,i (dbF f (c+1))),(11,i ((c+1:Nat):Int))] (Zo1 c f))
 |_=>none
def Jk0:CT:= .leaf (.exit 0,(CN c f 0 (.exit 0)).getD (Zo1 c f))
def Xu5:UL:=(HM (Wh1 c f (0)) (Jk0 c f))
theorem Je8(VV:c<=10)(UI:f 0=c)(HR: ∀k,k<=c->(-1000000000000<=f (k*11+4)/\f (k*11+4)<=1000000000000)/\(-1000000000000<=f (k+4)/\f (k+4)<=1000000000000)):GD VQ (.loop Jn9) (Xu5 c f):=by
 refine HT (L:=[]) (Ae xM (Ae fM Aa)) U0 U7 (X:=Nat) (Wh1 c f) (λk=>k<=c+1) (λk=>c+1-k) (CN c f) (x0:=0) VW ?_ ?_ ?_
 ·rintro k;kernel_rfl
 ·rintro k y E h;unfold CN at h;split at h
  ·cases h;kernel_rfl
  ·cases h
 ·rintro Q hQ k hx;refine ⟨(k+1),?_⟩;(with_reducible refine DU (t:=branch (decide ((k:Int)<f 0+1)) (need [(0:Int)<=(k:Int)/\(k:Int)<=10,(-1000000000000:Int)<=f (k*11+4)/\f (k*11+4)<=1000000000000] (need [VN (f (k+4)- -f (k*11+4))] (need [VN ((k:Int)+1)] (need [KF f=KF f,max (dbF f k) (f (k+4)- -f (k*11+4))=dbF f (k+1),U1 (f 0+1),(k:Int)+1=(↑(k+1):Int)] (leaf GB.normal))))) (need [KF f=KF f,dbF f k=dbF f (c+1),U1 (f 0+1),(k:Int)=(↑(c+1):Int)] (leaf (GB.exit 0)))) VX ?_);simp only [Jk0,CN,VO.sat,GX] at hQ;simp only [VO.sat,UE,UK,HG,VN,CN,FF];refine ⟨λh=>?_,λh=>?_⟩
  ·have h1:=HR k VL;have h2:=oU HR k VL;refine ⟨⟨VL,h1.1⟩,VL,VL,⟨rfl,VL⟩,VL,VL⟩
  ·obtain rfl:k=c+1:=VL;exact ⟨⟨rfl,rfl⟩,λE hE=>by cases hE;exact hQ⟩
theorem Wo8(VV:c<=10)(UI:f 0=c)(HR: ∀k,k<=c->(-1000000000000<=f (k*11+4)/\f (k*11+4)<=1000000000000)/\(-1000000000000<=f (k+4)/\f (k+4)<=1000000000000)):VZ VQ 233 [.roI [] 125 f 0] (i (dbF f (c+1))):=by
 refine U4 (L:=[Xu5 c f]) (Ae xM (Ae fM Aa)) U0 Tryz.func233 (UV Tryz.f233) (GA (lpE (b:= .loop Jn9) VX<|Je8 c f VV UI HR)) (t:=need [0<125] (need [VN (f 0+1)] (need [KF f=KF f,(0:Int)=dbF f 0,U1 (f 0+1),(0:Int)=(↑(0:Nat):Int)] (leaf (RV.x (.int .i64 (dbF f (c+1)))))))) VX ?_
 simp only [VO.sat,UE,G5,GL,UH,UK,FF];simp only [VN];have h2:=oU HR (c+1) VL;all_goals exact V6
end
def Qe1:G0
 |[.roI [] 125 f 0]=>some ([0<=f 0/\f 0<=10,∀k,k<=(f 0).toNat->(-1000000000000<=f (k*11+4)/\f (k*11+4)<=1000000000000)/\(-1000000000000<=f (k+4)/\f (k+4)<=1000000000000)],i (dbF f ((f 0).toNat+1)))
 |_=>none
theorem Wo7:VS VQ 233 Qe1:=by
 refine ⟨(UJ Tryz.func233),?_⟩;intro avs ns W h hn;unfold Qe1 at h;split at h
 ·rename_i f;cases h;have hk:0<=f 0/\f 0<=10:=hn _ VW;exact Wo8 (f 0).toNat f VL VL (hn _ VW)
 ·cases h
section
variable (c T U O:Int)(n:Nat)(a b u v:Nat->Int)
abbrev bL:AV:=sN c.toNat T U O n a b u v
def okB:Bool:=okR c.toNat T U O n a b u v
def qJ(r:Bool):Int:=if flt c T U O n a b u v=0 then (if r then (if okB c T U O n a b u v then 0 else 9) else 2) else flt c T U O n a b u v
end
section
variable {c T U O:Int}{n:Nat}{a b u v:Nat->Int}
theorem kV:flt c T U O n a b u v=0↔BZ c T U O=true/\n<=12/\FN (λk=>rdB c (a k) (b k) (u k) (v k)) n=true:=by
 unfold flt MH;split
 ·rename_i h1;split
  ·rename_i h2;constructor
   ·intro h;cases h
   ·intro h;omega
  ·rename_i h2;split
   ·rename_i h3;exact ⟨λ_=>⟨h1,VL,h3⟩,λ_=>rfl⟩
   ·rename_i h3;constructor
    ·intro h;cases h
    ·intro h;exact absurd h.2.2 h3
 ·rename_i h1;constructor
  ·intro h;cases h
  ·intro h;exact absurd h.1 h1
theorem gA{r:Bool}:qJ c T U O n a b u v r=0↔flt c T U O n a b u v=0/\r=true/\okB c T U O n a b u v=true:=by
 unfold qJ;split
 ·rename_i h1;split
  ·rename_i h2;split
   ·rename_i h3;simp [h1,h2,h3]
   ·rename_i h3;simp [h1,h2,h3]
  ·rename_i h2;simp [h1,h2]
 ·rename_i h1;simp [h1]
end
theorem b6(c T U O:Int)(n:Nat)(a b u v:Nat->Int)(r:Bool):UP VQ 118 [.agg [i c,i T,i U,i O],rds n a b u v,bl r] (.branch (decide (qJ c T U O n a b u v r=0)) (.leaf (.tup [bL c T U O n a b u v,i 0])) (.leaf (.tup [nilP,i (qJ c T U O n a b u v r)]))):=by
 refine GU (L:=[]) (Ae Wp2 Aa) (Aj Ab Ac (Ah wX (UB.nil _))) U0 Tryz.func118 (UV Tryz.f118) G4 (t:=need [UG 4 n λk=>[i (a k),i (b k),i (u k),i (v k)]] (branch (flt c T U O n a b u v != 0) (leaf (tup [QU,iI (flt c T U O n a b u v)])) (branch (!r) (leaf (tup [QU,iI 2])) (need [UG 4 n λk=>[i (a k),i (b k),i (u k),i (v k)],(1:Int)<=c/\c<=10,(1:Int)<=U/\U<=O/\O<=200/\(1:Int)<=T/\T<=2000,n<=1000,FN (λk=>rdB c (a k) (b k) (u k) (v k)) n=true] (branch (okR (Int.toNat c) T U O n a b u v) (leaf (tup [roI [] 125 (λk=>UD (↑(Int.toNat c):Int) T U O (fwM (Int.toNat c) T U O n a b u v) k) 0,iI 0])) (leaf (tup [QU,iI 9]))))))) VX ?_
 intro Q hQ;have e:c.toNat=c\/c<0:=VL;simp only [VO.sat,UE,UK,RP,HG,Ax] at hQ ⊢;refine ⟨isRec4 n a b u v,λh1=>?_,λh1=>?_⟩
 ·refine ⟨.tup [nilP,i (flt c T U O n a b u v)],⟨rfl,⟨rfl,rfl⟩,Ak⟩,?_⟩;have h2:qJ c T U O n a b u v r=flt c T U O n a b u v:=by unfold qJ;rw [if_neg h1]
  rw [h2] at hQ;exact hQ.2 h1
 ·have hf:=kV.1 h1;have hb:=BI hf.1;refine ⟨λh2=>?_,λh2=>⟨⟨isRec4 n a b u v,hb.1,hb.2.1,by have:=hf.2.1;omega,hf.2.2⟩,λh3=>?_,λh3=>?_⟩⟩
  ·subst h2;have h4:qJ c T U O n a b u v false=2:=by unfold qJ;rw [if_pos h1];rfl
   rw [h4] at hQ;exact ⟨.tup [nilP,i 2],⟨rfl,⟨rfl,rfl⟩,Ak⟩,hQ.2 VL⟩
  ·have h2:r=true:=by simpa using h2
   subst h2;have h4:qJ c T U O n a b u v true=0:=gA.2 ⟨h1,rfl,h3⟩;exact ⟨.tup [bL c T U O n a b u v,i 0],⟨⟨rfl,rfl,λ_ _=>rfl,rfl⟩,⟨rfl,rfl⟩,Ak⟩,hQ.1 h4⟩
  ·have h2:r=true:=by simpa using h2
   subst h2;have h4:qJ c T U O n a b u v true=9:=by unfold qJ okB;rw [if_pos h1,h3];rfl
   rw [h4] at hQ;exact ⟨.tup [nilP,i 9],⟨rfl,⟨rfl,rfl⟩,Ak⟩,hQ.2 VL⟩
def aK:D8:=λl=>match l with
 |[.agg [.x (.int .i64 c),.x (.int .i64 T),.x (.int .i64 U),.x (.int .i64 O)],.lst 4 n f,.x (.bool r)]=>some (.need [UG 4 n f] (.branch (decide (qJ c T U O n (col 0 f) (col 1 f) (col 2 f) (col 3 f) r=0)) (.leaf (.tup [bL c T U O n (col 0 f) (col 1 f) (col 2 f) (col 3 f),i 0])) (.leaf (.tup [nilP,i (qJ c T U O n (col 0 f) (col 1 f) (col 2 f) (col 3 f) r)]))))
 |[.agg [.x (.int .i64 c),.x (.int .i64 T),.x (.int .i64 U),.x (.int .i64 O)],.lst 4 n f,.lit r]=>some (.need [UG 4 n f] (.branch (decide (qJ c T U O n (col 0 f) (col 1 f) (col 2 f) (col 3 f) r=0)) (.leaf (.tup [bL c T U O n (col 0 f) (col 1 f) (col 2 f) (col 3 f),i 0])) (.leaf (.tup [nilP,i (qJ c T U O n (col 0 f) (col 1 f) (col 2 f) (col 3 f) r)]))))
 |_=>none
theorem U3.lits{e:UM}{w:World}{r:Bool}: ∀{l:List AV} {vs:List Value},U3 e w (l++[.lit r]) vs->U3 e w (l++[.x (.bool r)]) vs
 |[],vs,h=>by
  obtain ⟨v,vs',rfl,hv,hvs⟩:=h.cons_inv;cases hv;exact U3.cons (.x _) hvs
 |a::l,vs,h=>by
  obtain ⟨v,vs',rfl,hv,hvs⟩:=h.cons_inv;exact U3.cons hv (U3.lits hvs)
theorem UP.lits{P:Program}{f:FuncId}{l:List AV}{r:Bool}{t:VO AV}(h:UP P f (l++[.x (.bool r)]) t):UP P f (l++[.lit r]) t:=λQ hQ e w args hro hgl FL hr=>h Q hQ e w args hro hgl (λa ha=>by
 rcases List.mem_append.1 ha with h1|h1
 ·exact FL a (Bd _ h1)
 ·cases B7.1 h1;exact .x _) (U3.lits hr)
theorem gP:Enters VQ 118/\ ∀avs t,aK avs=some t->UP VQ 118 avs t:=by
 refine ⟨(UJ Tryz.func118),?_⟩;intro avs t h;unfold aK at h;split at h
 ·rename_i c T U O n f r;cases h;intro Q hQ;have hr:UG 4 n f:=GE hQ.1 _ VW;exact UP.same (b6 c T U O n (col 0 f) (col 1 f) (col 2 f) (col 3 f) r) (.cons (.refl _) (.cons (.lst 4 n _ _ hr) (.cons (.refl _) .nil))) Q hQ.2
 ·rename_i c T U O n f r;cases h;intro Q hQ;have hr:UG 4 n f:=GE hQ.1 _ VW;exact UP.lits (l:=[.agg [.x (.int .i64 c),.x (.int .i64 T),.x (.int .i64 U),.x (.int .i64 O)],.lst 4 n f]) (UP.same (b6 c T U O n (col 0 f) (col 1 f) (col 2 f) (col 3 f) r) (.cons (.refl _) (.cons (.lst 4 n _ _ hr) (.cons (.refl _) .nil)))) Q hQ.2
 ·cases h
section
variable (c T U O:Int)(n:Nat)(a b u v:Nat->Int)
def eB:Int:=qJ c T U O n a b u v true
def fwB:Nat->Nat->Int:=fwM c.toNat T U O n a b u v
def sfB:Nat->Int:=UD (c.toNat:Nat) T U O (fwB c T U O n a b u v)
def dtB:Int:=if eB c T U O n a b u v=0 then dbF (sfB c T U O n a b u v) (c.toNat+1) else 0
def rG:Nat:=if eB c T U O n a b u v=0 then c.toNat+1 else 0
end
theorem Xo1{c a b u v:Int}(h:rdB c a b u v=true):(0<=a/\a<=c-1)/\(a<=b/\b<=c)/\0<=u/\u<=v/\v<=2000:=by
 simp only [rdB,HA,bt_iff,insB_iff] at h;omega
theorem TI{c T U O:Int}{n:Nat}{a b u v:Nat->Int}(h:flt c T U O n a b u v=0)(x y:Nat): -1000000000000<=fwB c T U O n a b u v x y/\fwB c T U O n a b u v x y<=2000:=by
 have hf:=kV.1 h;have hb:=BI hf.1;have hl:=mU (c:=c.toNat) (a:=a) (b:=b) hb.2.1 (λj hj=>(Xo1 (H3.1 hf.2.2 j hj)).2.2) n (Am n)
 have h1:=Zl2 (c:=c.toNat) hl (c.toNat+1) x y;have h2:=Zw5 c.toNat VL;rw [Int.pow_succ] at h1;unfold fwB fwM;omega
section
variable (c T U O:Int)(n:Nat)(a b u v:Nat->Int)
theorem Xo0:sfB c T U O n a b u v 0=c.toNat:=rfl
theorem S6(k:Nat):sfB c T U O n a b u v (k*11+4)=fwB c T U O n a b u v k 0:=qA _ _ _ _ _ VL VL
theorem bM{k:Nat}(hk:k<=10):sfB c T U O n a b u v (k+4)=fwB c T U O n a b u v 0 k:=qA _ _ _ _ _ VL VL
abbrev YC:Ext:={R:=[],H:=[],C:=[(118,aK)] }
theorem Wy1:VZ VQ 203 [.agg [i c,i T,i U,i O],rds n a b u v] (.tup [i (dtB c T U O n a b u v),i (eB c T U O n a b u v)]):=by
 refine G9 (L:=[]) (Ae Wo7 Aa) (Aj Ab Ac (Ah gP (UB.nil _))) U0 Tryz.func203 (UV Tryz.f203) G4 (t:=let A:=(fwM (Int.toNat c) T U O n a b u v);let I:=qJ c T U O n a b u v true;(need [UG 4 n λk=>[i (a k),i (b k),i (u k),i (v k)]] (branch (decide (I=0)) (branch ((0:Int) != 0) (leaf (RV.tup [RV.x (JT),RV.x (JT)])) (need [(0:Int)<=UD (↑(Int.toNat c):Int) T U O A 0/\UD (↑(Int.toNat c):Int) T U O A 0<=10,∀(k:Nat),k<=(UD (↑(Int.toNat c):Int) T U O A 0).toNat->((-1000000000000:Int)<=UD (↑(Int.toNat c):Int) T U O A (k*11+4)/\UD (↑(Int.toNat c):Int) T U O A (k*11+4)<=1000000000000)/\(-1000000000000:Int)<=UD (↑(Int.toNat c):Int) T U O A (k+4)/\UD (↑(Int.toNat c):Int) T U O A (k+4)<=1000000000000] (leaf (RV.tup [RV.x (.int .i64 (dbF (UD (↑(Int.toNat c):Int) T U O A) ((UD (↑(Int.toNat c):Int) T U O A 0).toNat+1))),RV.x (JT)])))) (branch (I != 0) (leaf (RV.tup [RV.x (JT),RV.x (.int .i64 (I))])) VO.fail)))) VX ?_
 have eq: ∀k,UD (c.toNat:Nat) T U O (fwM c.toNat T U O n a b u v) k=sfB c T U O n a b u v k:=λ_=>rfl
 simp only [VO.sat,UE,UK,RP,HG,Ax,not_true_eq_false,false_imp_iff,eq,G5];refine ⟨isRec4 n a b u v,λh1 _=>?_,λh1=>⟨λ_=>?_,λh2=>h1 h2⟩⟩
 ·have hf:=(gA.1 h1).1;have hc:=(BI (kV.1 hf).1).1;have e0:(sfB c T U O n a b u v 0).toNat=c.toNat:=by rw [Xo0];omega
  refine ⟨⟨by rw [Xo0];omega,λk hk=>?_⟩,?_⟩
  ·rw [e0] at hk;rw [S6,bM _ _ _ _ _ _ _ _ _ VL];have h2:=TI hf k 0;have h3:=TI hf 0 k;omega
  ·rw [e0];unfold dtB eB;rw [if_pos h1,h1];exact ⟨⟨rfl,rfl⟩,⟨rfl,rfl⟩,Ak⟩
 ·unfold dtB eB;rw [if_neg h1];exact ⟨⟨rfl,rfl⟩,⟨rfl,rfl⟩,Ak⟩
end
section
variable {sz k:Nat}{l:List AV}{x:AV}
theorem Qo8(h:x∈U8 sz l k):x∈l:=List.mem_of_mem_drop (List.mem_of_mem_take h)
theorem FD(hm:x∈U8 sz l k)(h: ∀y∈l,AV.one y=true):AV.one x=true:=h x (Qo8 hm)
end
theorem Jf7{k j:Nat}{a b:Nat->Int}{x y:Int}(h:j<k+1)(hx:x=a k)(hy:y=b k):GJ k (λk=>[i (a k),i (b k)]) (U8 2 [i x,i y]) j=[i (a j),i (b j)]:=by
 have e:j-k=0:=VL;show HF (decide (j<k)) [i (a j),i (b j)] (U8 2 [i x,i y] (j-k))=_;rw [e];by_cases hj:j<k
 ·rw [show decide (j<k)=true by simp [hj]]
  rfl
 ·have hk:j=k:=VL;rw [show decide (j<k)=false by simp [hj],hk,hx,hy]
  rfl
section
variable (c T U O:Int)(n:Nat)(a b u v:Nat->Int)
def Zn0:St:={σ:=[.agg [i c,i T,i U,i O],rds n a b u v,.ptr 0 0,.top,.x (.slice none 0 0),i 0,bL c T U O n a b u v,i 0,.top,.top,.top,.top,.top,.top,.top,.top,.top,.top,.top,.top,.top,i (c+1),.top,.top,.top,.top,.top,.top,.top,.top,.top,.top,.top],m:=[(900,.row 47 2 0 (λ_=>[])),(0,.cells 49 [i c,i T,i U,i O])],nx:=901}
noncomputable def Jm9:Code:=UC (VU (UA Tryz.f75) 0)
def Wf9(k:Nat):St:=(upE [(8,.row 900),(22,i k)] [(900,.row 47 2 (k) (λk=>[i (-(fwB c T U O n a b u v k 0)),i (fwB c T U O n a b u v 0 k)])),(0,.cells 49 [i c,i T,i U,i O])] (Zn0 c T U O n a b u v))
def CC(k:Nat):GB->Option St
 | .exit 0=>some (upE [(8,.row 900)] [(900,.row 47 2 (c.toNat+1) (λk=>[i (-(fwB c T U O n a b u v k 0)),i (fwB c T U O n a b u v 0 k)])),(0,.cells 49 [i c,i T,i U,i O])] (Zn0 c T U O n a b u v))
 |_=>none
def Ji8:CT:= .leaf (.exit 0,(CC c T U O n a b u v 0 (.exit 0)).getD (Zn0 c T U O n a b u v))
def Xt2:UL:=GN [(.slot 8,900,47,2)] (HM (Wf9 c T U O n a b u v (0)) (Ji8 c T U O n a b u v))
abbrev KE:AV:=AV.x (.slice none 0 0)
abbrev Y2:Prop:=(0:Int)=0
theorem Jb4(VV:flt c T U O n a b u v=0):GD VQ (.loop Jm9) (Xt2 c T U O n a b u v):=by
 refine zD [(.slot 8,900,47,2)] (L:=[]) (Ae xM Aa) U0 U7 (X:=Nat) (Wf9 c T U O n a b u v) (λk=>k<=c.toNat+1) (λk=>c.toNat+1-k) (CC c T U O n a b u v) (x0:=0) VW ?_ ?_ ?_
 ·rintro k;kernel_rfl
 ·rintro k y E h;unfold CC at h;split at h
  ·cases h;kernel_rfl
  ·cases h
 ·rintro Q hQ k hx;refine ⟨(k+1),?_⟩;(with_reducible refine DU (t:=let A:=(fwM (Int.toNat c) T U O n a b u v);let I:=fwB c T U O n a b u v;let z2:=(U1 (roI [] 125 (λk=>UD (↑(Int.toNat c):Int) T U O A k) 0));let Z:=(UD (↑(Int.toNat c):Int) T U O A (k+4));(branch (decide ((k:Int)<c+1)) (need [(0:Int)<=(k:Int)/\(k:Int)<=10,(-1000000000000:Int)<=UD (↑(Int.toNat c):Int) T U O A (k*11+4)/\UD (↑(Int.toNat c):Int) T U O A (k*11+4)<=1000000000000] (need [(k+1)*16<=140737488355328,L0 1 (U8 2 [iI (-UD (↑(Int.toNat c):Int) T U O A (k*11+4)),iI Z])] (need [VN ((k:Int)+1)] (need [U1 (agg [iI c,iI T,iI U,iI O]),Q4 n a b u v,XI,KE=KE,Y2,z2,Y2,U1 (AV.row 900),U1 (c+1),(k:Int)+1=(↑(k+1):Int),k+1=k+1,GV (k+1) (GJ k (λk=>[Bo.i (-I k 0),Bo.i (I 0 k)]) (U8 2 [iI (-UD (↑(Int.toNat c):Int) T U O A (k*11+4)),iI Z])) (λi=>[Bo.i (-I i 0),Bo.i (I 0 i)]),c=c,T=T,U=U,O=O] (leaf GB.normal))))) (need [U1 (agg [iI c,iI T,iI U,iI O]),Q4 n a b u v,XI,KE=KE,Y2,z2,Y2,U1 (AV.row 900),U1 (c+1),k=Int.toNat c+1,∀(i:Nat),i<Int.toNat c+1->[Bo.i (-I i 0),Bo.i (I 0 i)]=[Bo.i (-I i 0),Bo.i (I 0 i)],c=c,T=T,U=U,O=O] (leaf (GB.exit 0))))) VX ?_)
  simp only [Ji8,CC,VO.sat,GX] at hQ;have hc:=(BI (kV.1 VV).1).1;have e0:((c.toNat:Nat):Int)=c:=VL;have eq: ∀k,UD c.toNat T U O (fwM c.toNat T U O n a b u v) k=sfB c T U O n a b u v k:=λ_=>rfl
  simp only [VO.sat,UE,G5,GL,UH,VN,UK,HG,RX,CC,eq]
  refine ⟨λh=>?_,λh=>?_⟩
  ·have h2:=TI VV k 0;have h3:=TI VV 0 k;refine ⟨⟨VL,by rw [S6];omega⟩,⟨VL,λi O a ha=>FD ha (by simp [AV.one,Value.oneCell'])⟩,VL,⟨VL,λi O=>Jf7 O (by rw [S6]) (by rw [bM _ _ _ _ _ _ _ _ _ VL])⟩,VL,VL⟩
  ·obtain rfl:k=c.toNat+1:=VL;exact ⟨⟨rfl,λ_ _=>Ak⟩,λE hE=>by cases hE;exact hQ⟩
theorem lY(VV:qJ c T U O n a b u v true=0)(UI:flt c T U O n a b u v=0):VZ VQ 75 [.agg [i c,i T,i U,i O],rds n a b u v] (.tup [.lst 2 (rG c T U O n a b u v) (λk=>[i (-(fwB c T U O n a b u v k 0)),i (fwB c T U O n a b u v 0 k)]),i (eB c T U O n a b u v)]):=by
 refine vX (L:=[Xt2 c T U O n a b u v]) (Gd.go true (Gd.go false Gd.rest)) (Ae xM Aa) (Aj Ab Ac (Ah gP (UB.nil _))) U0 Tryz.func75 (UV Tryz.f75) (GA (lpE (b:= .loop Jm9) VX<|(Jb4 c T U O n a b u v UI).N)) (t:=let A:=fwB c T U O n a b u v;(need [UG 4 n λk=>[i (a k),i (b k),i (u k),i (v k)]] (need [decide (qJ c T U O n a b u v true=0)=true] (need [((0:Int) != 0)=false] (need [VN (c+1)] (need [U1 (agg [iI c,iI T,iI U,iI O]),Q4 n a b u v,XI,KE=KE,Y2,U1 (roI [] 125 (λk=>UD (↑(Int.toNat c):Int) T U O (fwM (Int.toNat c) T U O n a b u v) k) 0),Y2,U1 (AV.row 900),U1 (c+1),(0:Int)=(↑(0:Nat):Int),0=0,∀(i:Nat),i<0->[]=[Bo.i (-A i 0),Bo.i (A 0 i)],c=c,T=T,U=U,O=O] (leaf (RV.tup [RV.lst 2 (Int.toNat c+1) λk=>[iI (-A k 0),iI (A 0 k)],RV.x (JT)])))))))) VX ?_
 have hc:=(BI (kV.1 UI).1).1;have hl:rG c T U O n a b u v=c.toNat+1:=if_pos VV;have he:eB c T U O n a b u v=0:=VV;rw [hl,he];simp only [VO.sat,UE,G5,GL,UH,VN,UK]
 (with_reducible repeat' first|apply Al|intro _)
 all_goals first|exact Ak|with_reducible rfl|omega|exact isRec4 _ _ _ _ _|(simp [*];done)|(rename_i hm;simp only [GM,DL,or_false] at hm;rcases hm with rfl|rfl<;>exact Ak)
theorem lZ(VV:qJ c T U O n a b u v true≠0):VZ VQ 75 [.agg [i c,i T,i U,i O],rds n a b u v] (.tup [.lst 2 (rG c T U O n a b u v) (λk=>[i (-(fwB c T U O n a b u v k 0)),i (fwB c T U O n a b u v 0 k)]),i (eB c T U O n a b u v)]):=by
 refine vX (L:=[]) (Gd.go false (Gd.go true Gd.rest)) (Ae xM Aa) (Aj Ab Ac (Ah gP (UB.nil _))) U0 Tryz.func75 (UV Tryz.f75) G4 (t:=let A:=qJ c T U O n a b u v true;(need [UG 4 n λk=>[i (a k),i (b k),i (u k),i (v k)]] (need [decide (A=0)=false] (need [(A != 0)=true] (leaf (RV.tup [RV.x (.slice none 0 0),RV.x (.int .i64 (A))])))))) VX ?_
 have hl:rG c T U O n a b u v=0:=if_neg VV;have he:eB c T U O n a b u v=qJ c T U O n a b u v true:=rfl;rw [hl,he];simp only [VO.sat,UE,G5,GL,UH,VN,UK]
 (with_reducible repeat' first|apply Al|intro _)
 all_goals first|exact Ak|with_reducible rfl|omega|exact isRec4 _ _ _ _ _|(simp [*];done)
end
def S_Heights:G0
 |[.agg [.x (.int .i64 c),.x (.int .i64 T),.x (.int .i64 U),.x (.int .i64 O)],.lst 4 n f]=>some ([UG 4 n f],.tup [.lst 2 (rG c T U O n (col 0 f) (col 1 f) (col 2 f) (col 3 f)) (λk=>[i (-(fwB c T U O n (col 0 f) (col 1 f) (col 2 f) (col 3 f) k 0)),i (fwB c T U O n (col 0 f) (col 1 f) (col 2 f) (col 3 f) 0 k)]),i (eB c T U O n (col 0 f) (col 1 f) (col 2 f) (col 3 f))])
 |_=>none
theorem vQ(c T U O:Int)(n:Nat)(a b u v:Nat->Int):VZ VQ 75 [.agg [i c,i T,i U,i O],rds n a b u v] (.tup [.lst 2 (rG c T U O n a b u v) (λk=>[i (-(fwB c T U O n a b u v k 0)),i (fwB c T U O n a b u v 0 k)]),i (eB c T U O n a b u v)]):=by
 by_cases h:qJ c T U O n a b u v true=0
 ·exact lY c T U O n a b u v h (gA.1 h).1
 ·exact lZ c T U O n a b u v h
theorem Heights_ok:VS VQ 75 S_Heights:=by
 refine ⟨(UJ Tryz.func75),?_⟩;intro avs ns W h hn;unfold S_Heights at h;split at h
 ·rename_i c T U O n f;cases h;have hr:UG 4 n f:=hn _ (GI);exact (vQ c T U O n (col 0 f) (col 1 f) (col 2 f) (col 3 f)).same (.cons (.refl _) (.cons (.lst 4 n _ _ hr) .nil))
 ·cases h
end Go.Proofs.YtakpdkmhclhlnaaGreatDoor.Bo
