/- Contracts, put together. Conditions: those of each. -/
import Derived.Test.YtakpdkmhclhlnaaGreatDoorMc
import Derived.Test.YtakpdkmhclhlnaaGreatDoorRows
set_option linter.unusedSimpArgs false
set_option linter.unusedVariables false
set_option maxRecDepth 100000
namespace Go.Proofs.YtakpdkmhclhlnaaGreatDoor
noncomputable abbrev VL:Go.Program:=Tryz.prog
abbrev Ad:=Go.Sx.VT.of (Go.Sx.VN.nil VL) (Go.Sx.VK.nil VL)
abbrev Aa:=Go.Sx.VH.nil VL
abbrev Ab:=Go.Sx.VN.nil VL
abbrev Ac:=Go.Sx.VK.nil VL
abbrev Ae:=@Go.Sx.VH.cons
abbrev Af:=@Go.Sx.VN.cons
abbrev Ag:=@Go.Sx.VK.cons
abbrev Ah:=@Go.Sx.U1.cons
abbrev Ai:=@Go.Sx.VT.of
abbrev Aj:=@Go.Sx.VT.ofC
end Go.Proofs.YtakpdkmhclhlnaaGreatDoor
namespace Go.Proofs.YtakpdkmhclhlnaaGreatDoor.Pt
open Go Go.Sx Go.RowKit
open Go.Sx.VJ (need branch leaf)
open Go.Sx.AV (lst ptr agg roI tup top)
theorem VW:Tryz.prog.follows .mixedOrders=true:=VQ
abbrev i(n:Int):AV:= .x (.int .i64 n)
abbrev iI(n:Int):AV:= .x (.int .i64 n)
abbrev bl(b:Bool):AV:= .x (.bool b)
def bt(U n O:Int):Bool:=decide (U<=n)&&decide (n<=O)
def insB(U a b O:Int):Bool:=decide (U<=a)&&decide (a<=b)&&decide (b<=O)
theorem insB_iff(U a b O:Int):insB U a b O=true↔U<=a/\a<=b/\b<=O:=by simp [insB,and_assoc]
def scB(a b:Int):Bool:=bt (-1000) a 1000&&bt (-1000) b 1000&&(a != b)
def B8:UU
 |[.x (.int .i64 n),.x (.int .i64 U),.x (.int .i64 O)]=>some ([],bl (bt U n O))
 |_=>none
theorem wQ(n U O:Int):VV VL 190 [i n,i U,i O] (bl (bt U n O)):=by
 refine GS Tryz.func190 (t:=branch (decide (U<=n)) (leaf (RV.x (.bool (decide (n<=O))))) (leaf (RV.x (.bool false)))) VQ ?_;simp only [VJ.sat,U8,UZ,GH,UB,UE];all_goals (simp+contextual [bt,insB,scB,Bool.and_assoc]);all_goals omega
theorem RF:VM VL 190 B8:=by
 refine ⟨(UC Tryz.func190),?_⟩;intro avs ns Z h I;unfold B8 at h;split at h;cases h;exact wQ _ _ _;cases h
def B9:UU
 |[.agg [.x (.int .i64 a),.x (.int .i64 b)],.x (.int .i64 U),.x (.int .i64 O)]=>some ([],bl (insB U a b O))
 |_=>none
theorem xB(a b U O:Int):VV VL 153 [.agg [i a,i b],i U,i O] (bl (insB U a b O)):=by
 refine GS Tryz.func153 (t:=branch (decide (U<=a)) (branch (decide (a<=b)) (leaf (RV.x (.bool (decide (b<=O))))) (leaf (RV.x (.bool false)))) (leaf (RV.x (.bool false)))) VQ ?_;simp only [VJ.sat,U8,UZ,GH,UB,UE];all_goals (simp+contextual [bt,insB,scB,Bool.and_assoc]);all_goals omega
theorem PN:VM VL 153 B9:=by
 refine ⟨(UC Tryz.func153),?_⟩;intro avs ns Z h I;unfold B9 at h;split at h;cases h;exact xB _ _ _ _;cases h
theorem mul_bd{x y X Y:Int}(hx: -X<=x/\x<=X)(hy: -Y<=y/\y<=Y): -(X*Y)<=x*y/\x*y<=X*Y:=by
 have h1:x.natAbs<=X.natAbs:=VG;have h2:y.natAbs<=Y.natAbs:=VG;have h3:(x*y).natAbs<=(X*Y).natAbs:=by rw [Int.natAbs_mul,Int.natAbs_mul];exact Nat.mul_le_mul h1 h2
 have h4:0<=X*Y:=Bz VG VG;omega
abbrev scs(n:Nat)(a b:Nat->Int):AV:= .lst 2 n (λk=>[i (a k),i (b k)])
theorem isRec2(n:Nat)(a b:Nat->Int):U9 2 n (λk=>[i (a k),i (b k)]):=λ_ _=>rfl
def col(j:Nat)(f:Nat->List AV):Nat->Int:=λk=>Wk6 (f k) j
def AX(p q:Nat->Int)(k:Nat):Bool:=bt 1 (p k) 2000&&(bt 1 (q k) 2000&&(decide (k=0)||(decide (p (k-1)<p k)&&decide (q (k-1)<q k))))
section
variable (n:Nat)
def xX(p q:Nat->Int):Bool:=HW (AX p q) n
abbrev QS(p:Nat->Int)(q:Nat->Int):AV:=lst 2 n λk=>[iI (p k),iI (q k)]
def bD(p q:Nat->Int):St:={σ:=[QS n p q]++HF 10 [QS n p q,iI (n:Int)]++HF 42 [],m:=[],nx:=10}
noncomputable def Xb9:Code:=U7 (VP (U5 Tryz.f152) 0)
def ES(p q:Nat->Int)(k:Nat):St:=(upM [(13,i k)] (bD n p q))
def PJ(p q:Nat->Int)(k:Nat):G4->Option St
 | .exit 0=>some (upM [] (bD n p q))
 | .ret=>some (upM [(2,i 1)] (bD n p q))
 |_=>none
def Wv7(p q:Nat->Int):CT:= .branch (xX n p q) (.leaf (.exit 0,(PJ n p q 0 (.exit 0)).getD (bD n p q))) (.leaf (.ret,(PJ n p q 0 .ret).getD (bD n p q)))
def mN(p q:Nat->Int):UF:=(HD (ES n p q (0)) (Wv7 n p q))
abbrev JM(p:Nat->Int)(q:Nat->Int):Prop:=(QS n p q)=QS n p q
theorem Qz1(p q:Nat->Int)(VO:n<=100000):G5 VL (.loop Xb9) (mN n p q):=by
 refine HC (L:=[]) (Ae RF Aa) VW U0 (X:=Nat) (ES n p q) (λk=>k<=n/\ ∀j,j<k->AX p q j=true) (λk=>n-k) (PJ n p q) (x0:=0) ⟨VG,λj hj=>VG⟩ ?_ ?_ ?_;rintro k;kernel_rfl;rintro k y E h;unfold PJ at h;split at h;cases h;kernel_rfl;cases h;kernel_rfl;cases h
 ·rintro Q hQ k hx;refine ⟨(k+1),?_⟩;(with_reducible refine DA (t:=let A:=(need [JM n p q,VU (1:Int),JM n p q,VU (n:Int)] (leaf G4.ret));let W:=(need [VI ((k:Int)+1)] (need [JM n p q,JM n p q,VU (n:Int),(k:Int)+1=(↑(k+1):Int)] (leaf G4.normal)));(branch (decide ((k:Int)<(n:Int))) (need [UG k n] (branch (!bt (1:Int) (p k) (2000:Int)) A (branch (!bt (1:Int) (q k) (2000:Int)) A (branch (decide ((k:Int)>0)) (need [VI ((k:Int)-1)] (need [UG ((k:Int)-1) n] (branch (decide (p k<=p ((k:Int)-1).toNat)) A (need [VI ((k:Int)-1)] (need [UG ((k:Int)-1) n] (branch (decide (q k<=q ((k:Int)-1).toNat)) A W)))))) W)))) (need [JM n p q,JM n p q,VU (n:Int)] (leaf (G4.exit 0))))) VQ ?_);simp only [Wv7,PJ,VJ.sat,GQ] at hQ;have Wo3:k<n->AX p q k=false->xX n p q=false:=by
   intro h1 h2;rw [←Bool.not_eq_true];intro h3;have:=GI.1 h3 k h1;rw [h2] at this;cases this
  have gK:AX p q k=true-> ∀j,j<k+1->AX p q j=true:=by
   intro h1 j hj;rcases (show j<k\/j=k by omega) with h|rfl
   exact hx.2 j h;exact h1
  have PG: ¬k<n->xX n p q=true:=λh=>GI.2 (λj hj=>hx.2 j VG);have hQ1: ∀E,PJ n p q k .ret=some E->xX n p q=false->Q (.ret,E):=by
   intro E hE hf;cases hE;exact hQ.2 hf
  have hQ2: ∀E,PJ n p q k (.exit 0)=some E->xX n p q=true->Q (.exit 0,E):=by
   intro E hE hf;cases hE;exact hQ.1 hf
  have t1:((k:Int)-1).toNat=k-1:=VG;have hsb:AX p q k=(bt 1 (p k) 2000&&(bt 1 (q k) 2000&&(decide (k=0)||(decide (p (k-1)<p k)&&decide (q (k-1)<q k))))):=rfl
  simp only [VJ.sat,U8,UE,H6,VI,FC,t1]
  with_reducible repeat' first|apply Al|intro _
  all_goals first|exact Ak|omega|exact hQ1 _ (by assumption) (Wo3 VG (by rw [hsb];grind))|exact hQ2 _ (by assumption) (PG VG)|exact gK (by rw [hsb];grind) _ (by assumption)
def tbE(p q:Nat->Int):Int:=if 8<n then 3 else if n<2 then 1 else if xX n p q then 0 else 1
end
def Qf8:UU
 |[.lst 2 n f]=>some ([U9 2 n f,n<=100000],i (tbE n (col 0 f) (col 1 f)))
 |_=>none
abbrev K6:Value:=Value.int IntKind.i64 (0:Int)
theorem Qz4(n:Nat)(p q:Nat->Int)(VO:n<=100000):VV VL 152 [scs n p q] (i (tbE n p q)):=by
 refine VY (L:=[mN n p q]) (Ae RF Aa) VW Tryz.func152 (UR Tryz.f152) (G0 (lpE (b:= .loop Xb9) VQ<|Qz1 n p q VO)) (t:=let A:=(leaf (RV.x (.int .i64 (1:Int))));(branch (decide ((n:Int)>8)) (leaf (RV.x (.int .i64 (3:Int)))) (branch (decide ((n:Int)<2)) A (need [JM n p q,JM n p q,VU (n:Int),(0:Int)=(↑(0:Nat):Int)] (branch (xX n p q) (leaf (RV.x (K6))) A))))) VQ ?_
 simp only [VJ.sat,U8,UZ,UB,UE,H6,tbE,Int.natCast_zero];refine ⟨λh=>?_,λh=>⟨λh2=>?_,λh2=>⟨λh3=>?_,λh3=>?_⟩⟩⟩;simp [show 8<n by omega]
 simp [show ¬8<n by omega,show n<2 by omega]
 simp [show ¬8<n by omega,show ¬n<2 by omega,h3]
 simp [show ¬8<n by omega,show ¬n<2 by omega,h3]
theorem Qz3:VM VL 152 Qf8:=by
 refine ⟨(UC Tryz.func152),?_⟩;intro avs ns Z h I;unfold Qf8 at h;split at h;rename_i n f;cases h;have hr:U9 2 n f:=I _ VS;exact (Qz4 n (col 0 f) (col 1 f) (I _ VS)).same (.cons (.lst 2 n _ _ hr) .nil);cases h
def RK(n:Nat)(p:Nat->Int)(x:Int):Nat:=GT (λk=>decide (x<=p (k+1))) (n-1)
def fC(p q:Nat->Int)(x:Int)(k:Nat):Int:=q k+((q (k+1)-q k)*(x-p k)).tdiv (p (k+1)-p k)
def boilI(n:Nat)(p q:Nat->Int)(x:Int):Int:=fC p q x (RK n p x)
theorem LM{n:Nat}{p q:Nat->Int}(h:xX n p q=true){k:Nat}(hk:k<n):1<=p k/\p k<=2000/\1<=q k/\q k<=2000/\(k=0\/p (k-1)<p k/\q (k-1)<q k):=by
 have:=GI.1 h k hk;simp only [AX,bt,GZ,Bl,kJ] at this;omega
theorem AW{n:Nat}{p q:Nat->Int}(h:xX n p q=true){j k:Nat}(hjk:j<=k)(hk:k<n):p j<=p k/\q j<=q k:=by
 induction k with
 |zero=>
      have:j=0:=VG;subst this;exact ⟨Int.le_refl _,Int.le_refl _⟩
 |succ k ih=>
  rcases (show j<=k\/j=k+1 by omega) with h1|rfl
  have:=ih h1 VG;have h2:=LM h hk;simp only [Bi] at h2;omega;exact ⟨Int.le_refl _,Int.le_refl _⟩
theorem Zd2{n:Nat}{p:Nat->Int}{x:Int}(I:2<=n)(hx:x<=p (n-1)):RK n p x<n-1:=by
 obtain ⟨h1,h2,h3⟩:=F0 (λk=>decide (x<=p (k+1))) (n-1);unfold RK;rcases An (GT (λk=>decide (x<=p (k+1))) (n-1)) (n-1) with h|h
 exact h;have:=h2 (n-2) VG;rw [show n-2+1=n-1 by omega] at this
 simp at this;omega
theorem catF1{k j:Nat}{a:Nat->Int}{x:Int}(h:j<k+1)(hx:x=a k):GE k (λk=>[i (a k)]) (U3 1 [i x]) j=[i (a j)]:=by
 have e:j-k=0:=VG;show H9 (decide (j<k)) [i (a j)] (U3 1 [i x] (j-k))=_;rw [e];by_cases hj:j<k;rw [show decide (j<k)=true by simp [hj]]
 rfl;have hk:j=k:=VG;rw [show decide (j<k)=false by simp [hj],hk,hx]
 rfl
theorem Ji0(a b:Nat->Int):col 0 (λk=>[i (a k),i (b k)])=a:=rfl
theorem Jh9(a b:Nat->Int):col 1 (λk=>[i (a k),i (b k)])=b:=rfl
theorem C4{n:Nat}{p q:Nat->Int}{x:Int}(I:2<=n)(ht:xX n p q=true)(hx:p 0<=x/\x<=p (n-1)):RK n p x<n-1/\p (RK n p x)<=x/\x<=p (RK n p x+1):=by
 have h1:=Zd2 I hx.2;obtain ⟨f1,f2,f3⟩:=F0 (λk=>decide (x<=p (k+1))) (n-1);have h3:=f3 h1;refine ⟨h1,?_,BT h3⟩;rcases Nat.eq_zero_or_pos (RK n p x) with h|h;rw [h];exact hx.1;have:=f2 (RK n p x-1) (by unfold RK at h ⊢;omega)
 rw [show RK n p x-1+1=RK n p x by omega] at this
 simp at this;omega
theorem fB{p q:Nat->Int}{x:Int}{k:Nat}(hp:p k<p (k+1))(hq:q k<q (k+1))(h1:p k<=x)(h2:x<=p (k+1)):fC p q x k=q k+(q (k+1)-q k)*(x-p k) / (p (k+1)-p k)/\q k<=fC p q x k/\fC p q x k<=q (k+1):=by
 have m0:0<=(q (k+1)-q k)*(x-p k):=Bz VG VG;have e:fC p q x k=q k+(q (k+1)-q k)*(x-p k) / (p (k+1)-p k):=by
  unfold fC;rw [Int.tdiv_eq_ediv_of_nonneg m0]
 have m1:(q (k+1)-q k)*(x-p k)<=(q (k+1)-q k)*(p (k+1)-p k):=Int.mul_le_mul_of_nonneg_left VG VG;have d0:0<=(q (k+1)-q k)*(x-p k) / (p (k+1)-p k):=Int.ediv_nonneg m0 VG;have d1:(q (k+1)-q k)*(x-p k) / (p (k+1)-p k)<=q (k+1)-q k:=Int.ediv_le_of_le_mul VG m1;rw [e];omega
theorem Wa5{n:Nat}{p:Nat->Int}{x y:Int}(h:x<=y):RK n p x<=RK n p y:=by
 obtain ⟨f1,f2,f3⟩:=F0 (λk=>decide (x<=p (k+1))) (n-1);obtain ⟨g1,g2,g3⟩:=F0 (λk=>decide (y<=p (k+1))) (n-1);unfold RK;rcases An (GT (λk=>decide (y<=p (k+1))) (n-1)) (GT (λk=>decide (x<=p (k+1))) (n-1)) with hl|hl
 have a1:=f2 _ hl;have a2:=g3 VG;simp at a1 a2;omega;exact hl
theorem boil_spec{n:Nat}{p q:Nat->Int}{x:Int}(I:2<=n)(ht:xX n p q=true)(hx:p 0<=x/\x<=p (n-1)):q 0<=boilI n p q x/\boilI n p q x<=q (n-1)/\1<=boilI n p q x/\boilI n p q x<=2000:=by
 obtain ⟨h1,h2,h3⟩:=C4 I ht hx;have s:=LM ht (show RK n p x+1<n by omega)
 simp only [Bi] at s;have b:=fB (p:=p) (q:=q) (x:=x) (k:=RK n p x) VG VG h2 h3;have m1:=AW ht (show 0<=RK n p x by omega) (show RK n p x<n by omega)
 have m2:=AW ht (show RK n p x+1<=n-1 by omega) (show n-1<n by omega)
 have z:=LM ht (show 0<n by omega)
 have z2:=LM ht (show n-1<n by omega)
 unfold boilI;omega
theorem boil_mono{n:Nat}{p q:Nat->Int}{x y:Int}(I:2<=n)(ht:xX n p q=true)(hx:p 0<=x)(hxy:x<=y)(hy:y<=p (n-1)):boilI n p q x<=boilI n p q y:=by
 obtain ⟨h1,h2,h3⟩:=C4 I ht (x:=x) VG;obtain ⟨g1,g2,g3⟩:=C4 I ht (x:=y) VG;have s:=LM ht (show RK n p x+1<n by omega)
 have s':=LM ht (show RK n p y+1<n by omega)
 simp only [Bi] at s s';have b:=fB (p:=p) (q:=q) (x:=x) (k:=RK n p x) VG VG h2 h3;have b':=fB (p:=p) (q:=q) (x:=y) (k:=RK n p y) VG VG g2 g3;have hm:=Wa5 (n:=n) (p:=p) hxy;unfold boilI;rcases An (RK n p x) (RK n p y) with hl|hl;have m:=AW ht (show RK n p x+1<=RK n p y by omega) (show RK n p y<n by omega)
 omega;have e:RK n p x=RK n p y:=VG;rw [b.1,b'.1,e];rw [e] at s;have:=Int.ediv_le_ediv (show 0<p (RK n p y+1)-p (RK n p y) by omega) (Int.mul_le_mul_of_nonneg_left (show x-p (RK n p y)<=y-p (RK n p y) by omega) (show 0<=q (RK n p y+1)-q (RK n p y) by omega))
 omega
def aW:UU
 |[.lst 2 n f]=>some ([],.fn (.func 225) [] [.ro [.lst 2 n f]])
 |_=>none
theorem Wa0(n:Nat)(f:Nat->List AV):DH VL 191 [.lst 2 n f] (.fn (.func 225) [] [.ro [.lst 2 n f]]):=by
 refine HE (L:=[]) Aa Ad VW Tryz.func191 (UR Tryz.f191) UV (t:=leaf (AV.fn (Fn.func 225) [] [AV.ro [lst 2 n λa=>f a]])) VQ ?_;exact rfl
theorem NF:L2 VL 191 aW:=by
 refine ⟨(UC Tryz.func191),?_⟩;intro avs ns Z h I;unfold aW at h;split at h;cases h;exact Wa0 _ _;cases h
def stV(p q:Nat->Int)(k:Nat):Value:= .agg #[.int .i64 (p k),.int .i64 (q k)]
def spV(p q:Nat->Int)(k:Nat):List Value:=[stV p q k,stV p q (k+1)]
section
variable (l:Nat)
abbrev KT:AV:=AV.fn (Fn.yield l) [] []
def Xa7(n:Nat)(p q:Nat->Int):St:={σ:=[KT l,AV.ro [QS n p q],top,top,top,top,lst 2 (n-(1:Int).toNat) λi=>[iI (p ((1:Int).toNat+i)),iI (q ((1:Int).toNat+i))],iI (↑(n-(1:Int).toNat):Int)]++HF 14 [],m:=[],nx:=4,gh:=some 0}
noncomputable def Zs9:Code:=U7 (VP (U5 Tryz.f225) 0)
def TY(n:Nat)(p q:Nat->Int)(k:Nat):St:={σ:=H0 [(8,i k)] (Xa7 l n p q).σ,m:=[],nx:=0,gh:=some (k) }
def jN(n:Nat)(p q:Nat->Int)(k:Nat):G4->Option St
 | .exit 0=>some {σ:=H0 [] (Xa7 l n p q).σ,m:=[],nx:=0,gh:=some (n-1) }
 | .ret=>some {σ:=H0 [] (Xa7 l n p q).σ,m:=[],nx:=0,gh:=none}
 |_=>none
def Jk1(n:Nat)(p q:Nat->Int):CT:= .may True (.leaf (.exit 0,(jN l n p q 0 (.exit 0)).getD (Xa7 l n p q))) (.leaf (.ret,(jN l n p q 0 .ret).getD (Xa7 l n p q)))
def Xv1(n:Nat)(p q:Nat->Int):UF:=GG [] (HD (TY l n p q (0)) (Jk1 l n p q))
theorem Zx8(n:Nat)(p q:Nat->Int)(VO:1<=n/\n<=100000){cx:Cx}(hX:VT VL {Y:=some (l,(n-1),(spV p q)) } cx):HH VL none cx (.loop Zs9) (Xv1 l n p q):=by
 refine FH [] (L:=[]) Aa hX VW UV (V:=Nat) (TY l n p q) (λk=>k<=n-1) (λk=>n-k) (jN l n p q) (x0:=0) VS ?_ ?_ ?_;rintro k;kernel_rfl;rintro k y E h;unfold jN at h;split at h;cases h;kernel_rfl;cases h;kernel_rfl;cases h
 ·rintro Q hQ k hx;refine ⟨(k+1),?_⟩;have e:HU VL [] {Y:=some (l,(n-1),(spV p q)) } [] [] Zs9 (TY l n p q k) (TY l n p q ((k+1))) (jN l n p q k)=(let A:=(VU (lst 2 (n-(1:Int).toNat) λi=>[iI (p ((1:Int).toNat+i)),iI (q ((1:Int).toNat+i))]));let W:=(VU (↑(n-(1:Int).toNat):Int));(branch (decide ((k:Int)<(↑(n-(1:Int).toNat):Int))) (need [UG k (↑(n-(1:Int).toNat):Int)] (need [UG k n] (need [l=l,k<n-1,[Value.agg {toList:=[Value.int IntKind.i64 (p k),Value.int IntKind.i64 (q k)] },Value.agg {toList:=[Value.int IntKind.i64 (p ((1:Int).toNat+k)),Value.int IntKind.i64 (q ((1:Int).toNat+k))] }]=[Value.agg {toList:=[Value.int IntKind.i64 (p k),Value.int IntKind.i64 (q k)] },Value.agg {toList:=[Value.int IntKind.i64 (p (k+1)),Value.int IntKind.i64 (q (k+1))] }]] (VJ.may True (need [VI ((k:Int)+1)] (need [KT l=KT l,VU (AV.ro [QS n p q]),A,W,(k:Int)+1=(↑(k+1):Int),k+1=k+1] (leaf G4.normal))) (need [KT l=KT l,VU (AV.ro [QS n p q]),A,W] (leaf G4.ret)))))) (need [KT l=KT l,VU (AV.ro [QS n p q]),A,W,k=n-1] (leaf (G4.exit 0))))):=VQ;rw [e];simp only [Jk1,jN,VJ.sat,GQ] at hQ;have hQ1: ∀E,jN l n p q k (.exit 0)=some E->Q (.exit 0,E):=λE hE=>by cases hE;exact hQ.1 trivial
  have hQ2: ∀E,jN l n p q k .ret=some E->Q (.ret,E):=λE hE=>by cases hE;exact hQ.2
  have t1:(1:Int).toNat=1:=rfl;have t2:1+k=k+1:=VG;simp only [VJ.sat,U8,UE,H6,VI,FC,t1,t2];clear e hQ;all_goals exact V3
end
section
variable (n:Nat)
theorem nE(p q:Nat->Int)(VO:1<=n/\n<=100000):B7 Tryz.prog 225 [.ro [scs n p q]] ((n-1)) (spV p q):=by
 refine BJ (L:=λl=>[Xv1 l n p q]) Aa VW (UC Tryz.func225) Tryz.func225 (UR Tryz.f225) VQ (λl cx hX=>G0 (lpE (b:= .loop Zs9) VQ<|Zx8 l n p q VO hX)) (t:=λl=>(need [(0:Int)<=1/\(1:Int)<=(n:Int)/\(n:Int)<=(n:Int)] (need [VU (AV.fn (Fn.yield l) [] []),VU (AV.ro [QS n p q]),VU (lst 2 (n-(1:Int).toNat) λi=>[iI (p ((1:Int).toNat+i)),iI (q ((1:Int).toNat+i))]),VU (↑(n-(1:Int).toNat):Int),(0:Int)=(↑(0:Nat):Int),0=0] (VJ.may True (need [n-1=n-1] (leaf PUnit.unit)) (leaf PUnit.unit))))) (λl=>VQ) ?_
 intro l;simp only [VJ.sat,U8,UZ,GH,UB,VI,UE,H6,FW];all_goals exact V3
abbrev JX(p:Nat->Int)(q:Nat->Int):AV:=AV.fn (Fn.func 225) [] [AV.ro [QS n p q]]
def tP(p q:Nat->Int)(y:Int):St:={σ:=[QS n p q,iI y,top,ptr 0 0,ptr 1 0,top,top,top,JX n p q]++HF 25 [],m:=[(1,GL.cells 3 [iI 0]),(0,GL.cells 3 [iI y])],nx:=4}
def rfF:Option Code->Operand
 |some (.rangeFunc f _ _ _)=>f
 |_=> .const .nilFunc
def jK:Option Code->Array Nat
 |some (.rangeFunc _ ps _ _)=>ps
 |_=>#[]
def SW:Option Code->Code
 |some (.rangeFunc _ _ a _)=>a
 |_=> .skip
def SV:Option Code->Code
 |some (.rangeFunc _ _ _ b)=>b
 |_=> .skip
noncomputable def Zt7:Code:=SW (VP (U5 Tryz.f154) 0)
noncomputable def Qu1:Code:=SV (VP (U5 Tryz.f154) 0)
def vL(p q:Nat->Int)(y:Int)(k:Nat):St:=(upM [] (tP n p q y))
def PL(p q:Nat->Int)(y:Int)(k:Nat):G4->Option St
 | .ret=>some (upE [] [(1,.cells 3 [i (boilI n p q y)])] (tP n p q y))
 |_=>none
def Ww1(p q:Nat->Int)(y:Int):CT:= .leaf (.ret,(PL n p q y 0 .ret).getD (tP n p q y))
def mQ(p q:Nat->Int)(y:Int):UF:=GG [] (HD (vL n p q y (0)) (Ww1 n p q y))
abbrev YT:Ext:={R:=[(191,aW)],H:=[] }
theorem Ji7(p q:Nat->Int)(y:Int)(VO:2<=n/\n<=100000)(UD:xX n p q=true)(HO: -100000<=y/\y<=p (n-1)):HN VL (.rangeFunc (rfF (VP (U5 Tryz.f154) 0)) (jK (VP (U5 Tryz.f154) 0)) Zt7 Qu1) (mQ n p q y):=by
 refine P6 [] (L:=[]) Aa (Ai (Af NF Ab) Ac) VW U0 (V:=Nat) (vL n p q y) (λk=>k<=n-1/\ ∀j,j<k->decide (y<=p (j+1))=false) (λk=>k) (PL n p q y) (x0:=0) ⟨VG,λj hj=>VG⟩ rfl ?_ ?_ ?_ ?_ (g:=225) (caps:=[.ro [scs n p q]]) VQ VQ (nE n p q VG) (λ_=>rfl) ?_;rintro k;kernel_rfl;rintro k y E h;unfold PL at h;split at h;cases h;kernel_rfl;cases h;rintro k;rfl;rintro k y E h;unfold PL at h;split at h;cases h;rfl;cases h;rintro Q hQ k hx;refine ⟨λhlt=>⟨(k+1),rfl,?_⟩,λPG=>?_⟩;have e:C6 VL [] YT [] [] (jK (VP (U5 Tryz.f154) 0)).toList ((spV p q) (k)) Zt7 Qu1 (vL n p q y k) (vL n p q y ((k+1))) (PL n p q y k)=(branch (decide (y<=p (k+1))) (need [VI (q (k+1)-q k)] (need [VI (y-p k)] (need [VI ((q (k+1)-q k)*(y-p k))] (need [VI (p (k+1)-p k)] (need [p (k+1)-p k≠0,VI (Int.tdiv ((q (k+1)-q k)*(y-p k)) (p (k+1)-p k))] (need [VI (q k+Int.tdiv ((q (k+1)-q k)*(y-p k)) (p (k+1)-p k))] (need [JM n p q,y=y,VU (ptr 0 0),VU (ptr 1 0),VU (JX n p q),q k+Int.tdiv ((q (k+1)-q k)*(y-p k)) (p (k+1)-p k)=boilI n p q y] (leaf G4.ret)))))))) (need [JM n p q,y=y,VU (ptr 0 0),VU (ptr 1 0),VU (JX n p q),VU (0:Int),y=y] (leaf G4.normal))):=VQ;rw [e];simp only [Ww1,PL,VJ.sat,GQ] at hQ;have hQ2: ∀E,PL n p q y k .ret=some E->Q (.ret,E):=λE hE=>by cases hE;exact hQ
 simp only [VJ.sat,U8,UE,H6,VI];clear e hQ;have sl:=LM UD (show n-1<n by omega)
 have s0:=LM UD (show k<n by omega)
 have s1:=LM UD (show k+1<n by omega)
 simp only [Bi] at s1;have m:=mul_bd (x:=q (k+1)-q k) (y:=y-p k) (X:=2000) (Y:=200000) VG VG;have dv:(((q (k+1)-q k)*(y-p k)).tdiv (p (k+1)-p k)).natAbs<=((q (k+1)-q k)*(y-p k)).natAbs:=by
  rw [Int.natAbs_tdiv];exact Nat.div_le_self _ _
 refine ⟨λh=>?_,λh=>?_⟩
 ·have hf:RK n p y=k:=zM hlt (by simpa using h) hx.2
  have hbo:boilI n p q y=q k+((q (k+1)-q k)*(y-p k)).tdiv (p (k+1)-p k):=by unfold boilI;rw [hf];rfl
  rw [hbo];all_goals exact V3
 refine ⟨VG,λj hj=>?_⟩;rcases (show j<k\/j=k by omega) with h1|rfl
 have:=hx.2 j h1;simpa using this;exact h;exfalso;have:=hx.2 (n-2) VG;rw [show n-2+1=n-1 by omega] at this
 simp at this;omega
theorem Xk8(p q:Nat->Int)(y:Int)(VO:2<=n/\n<=100000)(UD:xX n p q=true)(HO: -100000<=y/\y<=p (n-1)):VV VL 154 [scs n p q,i y] (i (boilI n p q y)):=by
 refine G9 (L:=[mQ n p q y]) Aa (Ai (Af NF Ab) Ac) VW Tryz.func154 (UR Tryz.f154) (G0 (lpE (b:= .rangeFunc (rfF (VP (U5 Tryz.f154) 0)) (jK (VP (U5 Tryz.f154) 0)) Zt7 Qu1) VQ<|Ji7 n p q y VO UD HO)) (t:=need [JM n p q,y=y,VU (ptr 0 0),VU (ptr 1 0),VU (JX n p q),VU (0:Int),y=y] (leaf (RV.x (.int .i64 (boilI n p q y))))) VQ ?_
 simp only [VJ.sat,U8,UZ,GH,UB,VI,UE];all_goals first|omega|grind
end
def Ww8:UU
 |[.lst 2 n f,.x (.int .i64 y)]=>some ([U9 2 n f,2<=n/\n<=100000,xX n (col 0 f) (col 1 f)=true,-100000<=y/\y<=col 0 f (n-1)],i (boilI n (col 0 f) (col 1 f) y))
 |_=>none
theorem Xk7:VM VL 154 Ww8:=by
 refine ⟨(UC Tryz.func154),?_⟩;intro avs ns Z h I;unfold Ww8 at h;split at h;rename_i n f y;cases h;have hr:U9 2 n f:=I _ VS;exact (Xk8 n (col 0 f) (col 1 f) y (I _ VS) (I _ VS) (I _ VS)).same (.cons (.lst 2 n _ _ hr) (.cons (.refl _) .nil));cases h
section
variable (n:Nat)(p q:Nat->Int)(U O:Int)
def blE:Int:=if tbE n p q=0 then (if insB (p 0) U O (p (n-1)) then 0 else 2) else tbE n p q
def blLo:Int:=if blE n p q U O=0 then boilI n p q U else 0
def blHi:Int:=if blE n p q U O=0 then boilI n p q O else 0
end
theorem Qz2{n:Nat}{p q:Nat->Int}(h:tbE n p q=0):2<=n/\n<=8/\xX n p q=true:=by
 unfold tbE at h;split at h;omega;split at h;omega;split at h;rename_i h3;exact ⟨VG,VG,h3⟩;omega
theorem Xb7(n:Nat)(p q:Nat->Int)(U O:Int)(VO:n<=100000):VV VL 116 [scs n p q,.agg [i U,i O]] (.tup [.agg [i (blLo n p q U O),i (blHi n p q U O)],i (blE n p q U O)]):=by
 refine VY (L:=[]) (Ae Qz3 (Ae PN (Ae Xk7 Aa))) VW Tryz.func116 (UR Tryz.f116) U0 (t:=need [U9 2 n λk=>[i (p k),i (q k)],n<=100000] (branch (tbE n p q != 0) (leaf (RV.tup [RV.agg [RV.x (K6),RV.x (K6)],RV.x (.int .i64 (tbE n p q))])) (need [UG 0 n] (need [VI ((n:Int)-1)] (need [UG ((n:Int)-1) n] (branch (!insB (p (0:Int).toNat) U O (p ((n:Int)-1).toNat)) (leaf (RV.tup [RV.agg [RV.x (K6),RV.x (K6)],RV.x (.int .i64 (2:Int))])) (need [U9 2 n λk=>[i (p k),i (q k)],2<=n/\n<=100000,xX n p q=true,(-100000:Int)<=U/\U<=p (n-1)] (need [U9 2 n λk=>[i (p k),i (q k)],2<=n/\n<=100000,xX n p q=true,(-100000:Int)<=O/\O<=p (n-1)] (leaf (RV.tup [RV.agg [RV.x (.int .i64 (boilI n p q U)),RV.x (.int .i64 (boilI n p q O))],RV.x (K6)])))))))))) VQ ?_;simp only [VJ.sat,U8,UZ,GH,UB,UE,Ji0,Jh9,VI,show (0:Int).toNat=0 from rfl];refine ⟨⟨isRec2 n p q,VO⟩,λh=>?_,λh=>?_⟩;have h':tbE n p q≠0:=by simpa using h
 simp [blLo,blHi,blE,h'];have h':tbE n p q=0:=by simpa using h
 obtain ⟨t1,t2,t3⟩:=Qz2 h';have e1:((n:Int)-1).toNat=n-1:=VG;have s0:=LM t3 (show 0<n by omega)
 simp only [e1];refine ⟨VG,VG,VG,λh2=>?_,λh2=>?_⟩;have h2':insB (p 0) U O (p (n-1))=false:=by simpa using h2
 simp [blLo,blHi,blE,h',h2'];have h2':insB (p 0) U O (p (n-1))=true:=by simpa using h2
 have b:=(insB_iff _ _ _ _).1 h2';refine ⟨⟨isRec2 n p q,VG,t3,VG⟩,⟨isRec2 n p q,VG,t3,VG⟩,?_⟩;simp [blLo,blHi,blE,h',h2']
def Qh9:UU
 |[.lst 2 n f,.agg [.x (.int .i64 U),.x (.int .i64 O)]]=>some ([U9 2 n f,n<=100000],.tup [.agg [i (blLo n (col 0 f) (col 1 f) U O),i (blHi n (col 0 f) (col 1 f) U O)],i (blE n (col 0 f) (col 1 f) U O)])
 |_=>none
theorem blE_ok{n:Nat}{p q:Nat->Int}{U O:Int}(h:blE n p q U O=0):2<=n/\n<=8/\xX n p q=true/\p 0<=U/\U<=O/\O<=p (n-1):=by
 unfold blE at h;split at h;rename_i h1;obtain ⟨t1,t2,t3⟩:=Qz2 h1;split at h;rename_i h2;have:=(insB_iff _ _ _ _).1 h2;exact ⟨t1,t2,t3,this⟩;omega;contradiction
theorem Boils_ok:VM VL 116 Qh9:=by
 refine ⟨(UC Tryz.func116),?_⟩;intro avs ns Z h I;unfold Qh9 at h;split at h;rename_i n f U O;cases h;have hr:U9 2 n f:=I _ VS;exact (Xb7 n (col 0 f) (col 1 f) U O (I _ VS)).same (.cons (.lst 2 n _ _ hr) (.cons (.refl _) .nil));cases h
end Go.Proofs.YtakpdkmhclhlnaaGreatDoor.Pt
namespace Go.Proofs.YtakpdkmhclhlnaaGreatDoor.Bo
open Go Go.Sx Go.RowKit Go.ChangeShapes Go.WideShapes Go.ChangeAt
open Go.Sx.VJ (need branch leaf)
open Go.Sx.AV (lst ptr agg roI tup top)
theorem VW:Tryz.prog.follows .mixedOrders=true:=VQ
abbrev i(n:Int):AV:= .x (.int .i64 n)
abbrev iI(n:Int):AV:= .x (.int .i64 n)
abbrev bl(b:Bool):AV:= .x (.bool b)
def bt(U n O:Int):Bool:=decide (U<=n)&&decide (n<=O)
theorem bt_iff(U n O:Int):bt U n O=true↔U<=n/\n<=O:=by simp [bt]
def insB(U a b O:Int):Bool:=decide (U<=a)&&decide (a<=b)&&decide (b<=O)
theorem insB_iff(U a b O:Int):insB U a b O=true↔U<=a/\a<=b/\b<=O:=by simp [insB,and_assoc]
def BZ(c T U O:Int):Bool:=bt 1 c 10&&insB 1 U O 200&&bt 1 T 2000&&bt (c*U) T (c*O)
def rdB(c a b u v:Int):Bool:=bt 0 a (c-1)&&bt a b c&&insB 0 u v 2000
def B8:UU
 |[.x (.int .i64 n),.x (.int .i64 U),.x (.int .i64 O)]=>some ([],bl (bt U n O))
 |_=>none
abbrev YG:Value:=Value.bool false
theorem wQ(n U O:Int):VV VL 155 [i n,i U,i O] (bl (bt U n O)):=by
 refine GS Tryz.func155 (t:=branch (decide (U<=n)) (leaf (RV.x (.bool (decide (n<=O))))) (leaf (RV.x (YG)))) VQ ?_;simp only [VJ.sat,U8,UZ,GH,UB,UE];all_goals (simp+contextual [bt,insB,Bool.and_assoc]);all_goals omega
theorem RF:VM VL 155 B8:=by
 refine ⟨(UC Tryz.func155),?_⟩;intro avs ns Z h I;unfold B8 at h;split at h;cases h;exact wQ _ _ _;cases h
def B9:UU
 |[.agg [.x (.int .i64 a),.x (.int .i64 b)],.x (.int .i64 U),.x (.int .i64 O)]=>some ([],bl (insB U a b O))
 |_=>none
theorem xB(a b U O:Int):VV VL 156 [.agg [i a,i b],i U,i O] (bl (insB U a b O)):=by
 refine GS Tryz.func156 (t:=branch (decide (U<=a)) (branch (decide (a<=b)) (leaf (RV.x (.bool (decide (b<=O))))) (leaf (RV.x (YG)))) (leaf (RV.x (YG)))) VQ ?_;simp only [VJ.sat,U8,UZ,GH,UB,UE];all_goals (simp+contextual [bt,insB,Bool.and_assoc]);all_goals omega
theorem PN:VM VL 156 B9:=by
 refine ⟨(UC Tryz.func156),?_⟩;intro avs ns Z h I;unfold B9 at h;split at h;cases h;exact xB _ _ _ _;cases h
theorem mul_bd{x y X Y:Int}(hx: -X<=x/\x<=X)(hy: -Y<=y/\y<=Y): -(X*Y)<=x*y/\x*y<=X*Y:=by
 have h1:=Bz (show 0<=X-x by omega) (show 0<=Y-y by omega)
 have h2:=Bz (show 0<=X+x by omega) (show 0<=Y+y by omega)
 have h3:=Bz (show 0<=X-x by omega) (show 0<=Y+y by omega)
 have h4:=Bz (show 0<=X+x by omega) (show 0<=Y-y by omega)
 rw [Int.sub_mul,Int.mul_sub,Int.mul_sub] at h1;rw [Int.add_mul,Int.mul_add,Int.mul_add] at h2;rw [Int.sub_mul,Int.mul_add,Int.mul_add] at h3;rw [Int.add_mul,Int.mul_sub,Int.mul_sub] at h4;omega
def rL:UU
 |[.agg [.x (.int .i64 c),.x (.int .i64 T),.x (.int .i64 U),.x (.int .i64 O)]]=>some ([],i (if BZ c T U O then 0 else 1))
 |_=>none
abbrev JR:Value:=Value.int IntKind.i64 (0:Int)
abbrev Y9:Value:=Value.int IntKind.i64 (1:Int)
theorem bF(c T U O:Int):VV VL 117 [.agg [i c,i T,i U,i O]] (i (if BZ c T U O then 0 else 1)):=by
 refine VY (L:=[]) (Ae RF (Ae PN Aa)) VW Tryz.func117 (UR Tryz.f117) U0 (t:=branch (!bt (1:Int) c (10:Int)) (leaf (RV.x (Y9))) (branch (!insB (1:Int) U O (200:Int)) (leaf (RV.x (Y9))) (branch (!bt (1:Int) T (2000:Int)) (leaf (RV.x (Y9))) (need [VI (c*U)] (need [VI (c*O)] (branch (!bt (c*U) T (c*O)) (leaf (RV.x (Y9))) (leaf (RV.x (JR))))))))) VQ ?_;simp only [VJ.sat,U8,UZ,UB,UE,VI,BZ];rcases Bool.eq_false_or_eq_true (bt 1 c 10) with h1|h1
 rotate_left
 simp [h1];rcases Bool.eq_false_or_eq_true (insB 1 U O 200) with h2|h2
 rotate_left
 simp [h1,h2];rcases Bool.eq_false_or_eq_true (bt 1 T 2000) with h3|h3
 rotate_left
 simp [h1,h2,h3];have e1:=(bt_iff _ _ _).1 h1;have e2:=(insB_iff _ _ _ _).1 h2;have m1:=mul_bd (x:=c) (y:=U) (X:=10) (Y:=200) VG VG;have m2:=mul_bd (x:=c) (y:=O) (X:=10) (Y:=200) VG VG;rcases Bool.eq_false_or_eq_true (bt (c*U) T (c*O)) with h4|h4<;>simp [h1,h2,h3,h4]<;>omega
theorem CheckTube_ok:VM VL 117 rL:=by
 refine ⟨(UC Tryz.func117),?_⟩;intro avs ns Z h I;unfold rL at h;split at h;cases h;exact bF _ _ _ _;cases h
def S4:UU
 |[.agg [.x (.int .i64 c),.x (.int .i64 T),.x (.int .i64 U),.x (.int .i64 O)],.agg [.x (.int .i64 a),.x (.int .i64 b),.x (.int .i64 u),.x (.int .i64 v)]]=>some ([1<=c/\c<=10],bl (rdB c a b u v))
 |_=>none
theorem nR(c T U O a b u v:Int)(VO:1<=c/\c<=10):VV VL 192 [.agg [i c,i T,i U,i O],.agg [i a,i b,i u,i v]] (bl (rdB c a b u v)):=by
 refine VY (L:=[]) (Ae RF (Ae PN Aa)) VW Tryz.func192 (UR Tryz.f192) U0 (t:=need [VI (c-1)] (branch (bt (0:Int) a (c-1)) (branch (bt a b c) (leaf (RV.x (.bool (insB (0:Int) u v (2000:Int))))) (leaf (RV.x (YG)))) (leaf (RV.x (YG))))) VQ ?_;simp only [VJ.sat,U8,UZ,UB,UE,VI,rdB];refine ⟨VG,?_⟩;cases h1:bt 0 a (c-1)<;>cases h2:bt a b c<;>cases h3:insB 0 u v 2000<;>simp
theorem nQ:VM VL 192 S4:=by
 refine ⟨(UC Tryz.func192),?_⟩;intro avs ns Z h I;unfold S4 at h;split at h;cases h;exact nR _ _ _ _ _ _ _ _ (I _ VS);cases h
end Go.Proofs.YtakpdkmhclhlnaaGreatDoor.Bo
namespace Go.Proofs.YtakpdkmhclhlnaaGreatDoor.Bo
open Go Go.Sx Go.RowKit
open Go.Sx.VJ (need branch leaf)
open Go.Sx.AV (lst ptr agg roI tup top)
theorem Xd5(a b:Int):VV VL 135 [.lst 1 2 (λk=>[i (if k=0 then a else b)])] (i (min a b)):=by
 refine VY (L:=[λs=>some (xW Tryz.prog [] [] (U7 (VP (U5 Tryz.f135) 0)) 3 s)]) Aa VW Tryz.func135 (UR Tryz.f135) (G0 (lpE (b:= .loop (U7 (VP (U5 Tryz.f135) 0))) VQ<|L6 Aa VW U0 _)) (t:=let A:=(min (if (0:Int).toNat=0 then a else b) (if (1:Int).toNat=0 then a else b));(branch (decide ((↑(2:Nat):Int)<1)) VJ.fail (need [UG 0 2] (branch (decide ((1:Int)<(↑(2:Nat):Int))) (need [UG 1 2] (need [VI ((1:Int)+1)] (branch (decide ((1:Int)+1<(↑(2:Nat):Int))) (need [(0:Int)<=1+1/\(1:Int)+1<(↑(2:Nat):Int)] (need [VI ((1:Int)+1+1)] (branch (decide ((1:Int)+1+1<(↑(2:Nat):Int))) (need [(0:Int)<=1+1+1/\(1:Int)+1+1<(↑(2:Nat):Int)] (need [VI ((1:Int)+1+1+1)] VJ.fail)) (leaf (RV.x (.int .i64 (min A (if ((1:Int)+1).toNat=0 then a else b)))))))) (leaf (RV.x (.int .i64 A)))))) (leaf (RV.x (.int .i64 (if (0:Int).toNat=0 then a else b)))))))) VQ ?_
 simp [VJ.sat,U8,UZ,GH,UB,VI]
theorem Xd6(a b:Int):VV VL 136 [.lst 1 2 (λk=>[i (if k=0 then a else b)])] (i (max a b)):=by
 refine VY (L:=[λs=>some (xW Tryz.prog [] [] (U7 (VP (U5 Tryz.f136) 0)) 3 s)]) Aa VW Tryz.func136 (UR Tryz.f136) (G0 (lpE (b:= .loop (U7 (VP (U5 Tryz.f136) 0))) VQ<|L6 Aa VW U0 _)) (t:=let A:=(max (if (0:Int).toNat=0 then a else b) (if (1:Int).toNat=0 then a else b));(branch (decide ((↑(2:Nat):Int)<1)) VJ.fail (need [UG 0 2] (branch (decide ((1:Int)<(↑(2:Nat):Int))) (need [UG 1 2] (need [VI ((1:Int)+1)] (branch (decide ((1:Int)+1<(↑(2:Nat):Int))) (need [(0:Int)<=1+1/\(1:Int)+1<(↑(2:Nat):Int)] (need [VI ((1:Int)+1+1)] (branch (decide ((1:Int)+1+1<(↑(2:Nat):Int))) (need [(0:Int)<=1+1+1/\(1:Int)+1+1<(↑(2:Nat):Int)] (need [VI ((1:Int)+1+1+1)] VJ.fail)) (leaf (RV.x (.int .i64 (max A (if ((1:Int)+1).toNat=0 then a else b)))))))) (leaf (RV.x (.int .i64 A)))))) (leaf (RV.x (.int .i64 (if (0:Int).toNat=0 then a else b)))))))) VQ ?_
 simp [VJ.sat,U8,UZ,GH,UB,VI]
def kK:UU
 |[.lst 1 2 f]=>(match f 0,f 1 with
  |[.x (.int .i64 a)],[.x (.int .i64 b)]=>some ([],i (min a b))
  |_,_=>none)
 |_=>none
theorem SU:VM VL 135 kK:=by
 refine ⟨(UC Tryz.func135),?_⟩;intro avs ns Z h I;unfold kK at h;split at h;rename_i f;split at h;rename_i a b h0 h1;cases h;refine (Xd5 a b).same (.cons (.lst 1 2 _ _ ?_) .nil);intro k hk;rcases (show k=0\/k=1 by omega) with rfl|rfl
 exact h0;exact h1;cases h;cases h
def fE:UU
 |[.lst 1 2 f]=>(match f 0,f 1 with
  |[.x (.int .i64 a)],[.x (.int .i64 b)]=>some ([],i (max a b))
  |_,_=>none)
 |_=>none
theorem Qa2:VM VL 136 fE:=by
 refine ⟨(UC Tryz.func136),?_⟩;intro avs ns Z h I;unfold fE at h;split at h;rename_i f;split at h;rename_i a b h0 h1;cases h;refine (Xd6 a b).same (.cons (.lst 1 2 _ _ ?_) .nil);intro k hk;rcases (show k=0\/k=1 by omega) with rfl|rfl
 exact h0;exact h1;cases h;cases h
theorem Wf9(a b:Int):VV VL 228 [.lst 1 2 (λk=>[i (if k=0 then a else b)])] (i (min a b)):=by
 refine VY (L:=[]) (Ae SU Aa) VW Tryz.func228 (UR Tryz.f228) U0 (t:=leaf (RV.x (.int .i64 (min (if 0=0 then a else b) (if 1=0 then a else b))))) VQ ?_
 simp [VJ.sat,UZ,UB]
def AF:UU:=kK
theorem LQ:VM VL 228 AF:=by
 refine ⟨(UC Tryz.func228),?_⟩;intro avs ns Z h I;unfold AF kK at h;split at h;rename_i f;split at h;rename_i a b h0 h1;cases h;refine (Wf9 a b).same (.cons (.lst 1 2 _ _ ?_) .nil);intro k hk;rcases (show k=0\/k=1 by omega) with rfl|rfl
 exact h0;exact h1;cases h;cases h
theorem iV(a b:Int):VV VL 251 [.lst 1 2 (λk=>[i (if k=0 then a else b)])] (i (max a b)):=by
 refine VY (L:=[]) (Ae Qa2 Aa) VW Tryz.func251 (UR Tryz.f251) U0 (t:=leaf (RV.x (.int .i64 (max (if 0=0 then a else b) (if 1=0 then a else b))))) VQ ?_
 simp [VJ.sat,UZ,UB]
def M9:UU:=fE
theorem rD:VM VL 251 M9:=by
 refine ⟨(UC Tryz.func251),?_⟩;intro avs ns Z h I;unfold M9 fE at h;split at h;rename_i f;split at h;rename_i a b h0 h1;cases h;refine (iV a b).same (.cons (.lst 1 2 _ _ ?_) .nil);intro k hk;rcases (show k=0\/k=1 by omega) with rfl|rfl
 exact h0;exact h1;cases h;cases h
noncomputable def Qj6:HY:=rX Tryz.prog [(228,AF)] {} [] Tryz.f194 (U5 Tryz.f194)
abbrev J7:List (Nat×UU):=[(228,AF)]
theorem LG:G8 VL 194 Qj6:=
 RH (G:=J7) (X:={}) (L:=[]) (Ae LQ Aa) Ad VW (UC Tryz.func194) Tryz.func194 (UR Tryz.f194) U0
def UA(c T U O:Int)(M:Nat->Nat->Int)(k:Nat):Int:=if k=0 then c else if k=1 then T else if k=2 then U else if k=3 then O else M ((k-4) / 11) ((k-4)%11)
section
variable (M:Nat->Nat->Int)(a b:Nat)(v:Int)
def wW:Nat->Nat->Int:=λx y=>if x=a/\y=b then v else M x y
def bnd:Nat->Nat->Int:=wW M a b (min (M a b) v)
end
def ini(c:Nat)(k j:Nat):Nat->Nat->Int:=λx y=>if ((x<k/\y<=c)\/(x=k/\y<j))/\x≠y then 2000 else 0
theorem Wa3(c T U O:Int)(cc:Nat): ∀k,U6 (c::T::U::O::List.replicate 121 0) k=UA c T U O (ini cc 0 0) k:=by
 intro k;rcases k with _|_|_|_|k;rfl;rfl;rfl;rfl;have h:U6 (c::T::U::O::List.replicate 121 0) (k+4)=U6 (List.replicate 121 0) k:=rfl;rw [h,gY (by decide)]
 simp [UA,ini]
theorem GJ(q:Nat)(v:Int)(f:Nat->Int):jB q [v] f=UP q v f:=rfl
section
variable (c T U O:Int)
theorem qA(M:Nat->Nat->Int){a b q:Nat}(hq:q=4+a*11+b)(hb:b<11):UA c T U O M q=M a b:=by
 unfold UA;rw [if_neg VG,if_neg VG,if_neg VG,if_neg VG,show (q-4) / 11=a by omega,show (q-4)%11=b by omega]
theorem yX{M M':Nat->Nat->Int}(h: ∀x y,x<11->y<11->M x y=M' x y){k:Nat}(hk:k<125):UA c T U O M k=UA c T U O M' k:=by
 unfold UA;split;rfl;split;rfl;split;rfl;split;rfl;exact h _ _ VG VG
theorem cD(M:Nat->Nat->Int){a b q:Nat}(hq:q=4+a*11+b)(hb:b<11)(v:Int)(k:Nat):UP q v (UA c T U O M) k=UA c T U O (wW M a b v) k:=by
 unfold UP;by_cases hk:k=q;rw [if_pos hk,qA _ _ _ _ _ (hk.trans hq) hb];simp [wW];rw [if_neg hk];unfold UA;by_cases h0:k=0;rw [if_pos h0,if_pos h0];by_cases h1:k=1;rw [if_neg h0,if_neg h0,if_pos h1,if_pos h1];by_cases h2:k=2;rw [if_neg h0,if_neg h0,if_neg h1,if_neg h1,if_pos h2,if_pos h2];by_cases h3:k=3;rw [if_neg h0,if_neg h0,if_neg h1,if_neg h1,if_neg h2,if_neg h2,if_pos h3,if_pos h3];rw [if_neg h0,if_neg h0,if_neg h1,if_neg h1,if_neg h2,if_neg h2,if_neg h3,if_neg h3];unfold wW;rw [if_neg VG]
end
theorem Wk8(c k j:Nat)(hj:j<=c)(h:k≠j)(x y:Nat):wW (ini c k j) k j 2000 x y=ini c k (j+1) x y:=by
 unfold wW ini;split;rename_i hxy;rw [if_pos ⟨.inr VG,VG⟩];rename_i hxy;by_cases h1:((x<k/\y<=c)\/(x=k/\y<j))/\x≠y;rw [if_pos h1,if_pos VG];rw [if_neg h1,if_neg VG]
theorem Wk9(c k:Nat)(x y:Nat):ini c k k x y=ini c k (k+1) x y:=by
 unfold ini;by_cases h1:((x<k/\y<=c)\/(x=k/\y<k))/\x≠y;rw [if_pos h1,if_pos VG];rw [if_neg h1,if_neg VG]
theorem Xg6(c k:Nat)(x y:Nat):ini c k (c+1) x y=ini c (k+1) 0 x y:=by
 unfold ini;by_cases h1:((x<k/\y<=c)\/(x=k/\y<c+1))/\x≠y;rw [if_pos h1,if_pos VG];rw [if_neg h1,if_neg VG]
abbrev rds(n:Nat)(a b u v:Nat->Int):AV:= .lst 4 n (λk=>[i (a k),i (b k),i (u k),i (v k)])
abbrev QU:AV:=AV.x (.pointer none)
abbrev X5(n:Nat)(a:Nat->Int)(b:Nat->Int)(u:Nat->Int)(v:Nat->Int):AV:=lst 4 n λk=>[iI (a k),iI (b k),iI (u k),iI (v k)]
section
variable (c:Nat)(T U O:Int)(n:Nat)(a b u v:Nat->Int)
def Zq9:St:={σ:=[agg [iI (c:Int),iI T,iI U,iI O],X5 n a b u v,ptr 0 0,top,QU,AV.lit false,ptr 5 0]++HF 15 [iI ((c:Int)+1)]++HF 155 [],m:=[(5,GL.ints 301 [] 125 λa=>U6 ([(c:Int),T,U,O]++bJ 121) a),(0,GL.cells 49 [iI (c:Int),iI T,iI U,iI O])],nx:=11}
noncomputable def Zt1:Code:=U7 (VP (U5 Tryz.f158) 0)
def Wi1(k:Nat):St:=(upE [(23,i k)] [(5,.ints 301 [] 125 (UA c T U O (ini c k 0))),(0,.cells 49 [i c,i T,i U,i O])] (Zq9 c T U O n a b u v))
def CQ(k:Nat):G4->Option St
 | .exit 0=>some (upE [(23,i ((c:Int)+1))] [(5,.ints 301 [] 125 (UA c T U O (ini c (c+1) 0))),(0,.cells 49 [i c,i T,i U,i O])] (Zq9 c T U O n a b u v))
 |_=>none
def Jk9:CT:= .leaf (.exit 0,(CQ c T U O n a b u v 0 (.exit 0)).getD (Zq9 c T U O n a b u v))
def Xv9:UF:=GG [] (HD (Wi1 c T U O n a b u v (0)) (Jk9 c T U O n a b u v))
def Zq8(k:Nat):St:={σ:=[agg [iI (c:Int),iI T,iI U,iI O],X5 n a b u v,ptr 0 0,top,QU,AV.lit false,ptr 5 0,iI (k:Int)]++HF 14 [iI ((c:Int)+1),iI (k:Int),top,top,top,top,iI ((c:Int)+1)]++HF 149 [],m:=[(5,GL.ints 301 [] 125 λk_1=>UA (c:Int) T U O (ini c k 0) k_1),(0,GL.cells 49 [iI (c:Int),iI T,iI U,iI O])],nx:=18}
noncomputable def Jq0:Code:=(U7 (VP (U7 (VP (U5 Tryz.f158) 0)) 0))
def Wi0(k:Nat)(j:Nat):St:=(upE [(29,i j)] [(5,.ints 301 [] 125 (UA c T U O (ini c k j))),(0,.cells 49 [i c,i T,i U,i O])] (Zq8 c T U O n a b u v k))
def CP(k:Nat)(j:Nat):G4->Option St
 | .exit 2=>some (upE [(29,i ((c:Int)+1))] [(5,.ints 301 [] 125 (UA c T U O (ini c k (c+1)))),(0,.cells 49 [i c,i T,i U,i O])] (Zq8 c T U O n a b u v k))
 |_=>none
def Jk8(k:Nat):CT:= .leaf (.exit 2,(CP c T U O n a b u v k 0 (.exit 2)).getD (Zq8 c T U O n a b u v k))
def Xv8(k:Nat):UF:=GG [] (HD (Wi0 c T U O n a b u v k (0)) (Jk8 c T U O n a b u v k))
end
abbrev Q4(n:Nat)(a:Nat->Int)(b:Nat->Int)(u:Nat->Int)(v:Nat->Int):Prop:=(X5 n a b u v)=lst 4 n λk=>[iI (a k),iI (b k),iI (u k),iI (v k)]
abbrev X6:Prop:=AV.lit false=AV.lit false
noncomputable abbrev XF:Ext:={R:=[],H:=[(194,Qj6)] }
abbrev XI:Prop:=ptr 0 0=ptr 0 0
abbrev XU:Prop:=ptr 5 0=ptr 5 0
section
variable (c:Nat)(T U O:Int)(n:Nat)(a b u v:Nat->Int)
theorem Ja6(k:Nat)(VO:1<=c/\c<=10)(UD:1<=U/\U<=O/\O<=200/\1<=T/\T<=2000)(HO:k<=c):G5 VL (.loop Jq0) (Xv8 c T U O n a b u v k):=by
 refine UT [] (L:=[]) (Ae LQ Aa) (Ai Ab (Ag LG Ac)) VW U0 (X:=Nat) (Wi0 c T U O n a b u v k) (λj=>j<=c+1) (λj=>c+1-j) (CP c T U O n a b u v k) (x0:=0) VS ?_ ?_ ?_;rintro j;kernel_rfl;rintro j y E h;unfold CP at h;split at h;cases h;kernel_rfl;cases h;rintro Q hQ j hx;refine ⟨(j+1),?_⟩;(with_reducible refine DA (t:=let A:=(VU ((c:Int)+1));let W:=(VU (agg [iI (c:Int),iI T,iI U,iI O]));(branch (decide ((j:Int)<(c:Int)+1)) (branch ((k:Int) != (j:Int)) (need [UG k 11] (need [UG j 11] (need [j*1+(k*11+4)+1<=125] (need [VI ((j:Int)+1)] (need [W,Q4 n a b u v,XI,QU=QU,X6,XU,VU (k:Int),A,VU (k:Int),A,(j:Int)+1=(↑(j+1):Int),125=125,GR 125 (UP (j*1+(k*11+4)) (2000:Int) (UA (c:Int) T U O (ini c k j))) (UA (c:Int) T U O (ini c k (j+1))),VU (c:Int),T=T,U=U,O=O] (leaf G4.normal)))))) (need [VI ((j:Int)+1)] (need [W,Q4 n a b u v,XI,QU=QU,X6,XU,VU (k:Int),A,VU (k:Int),A,(j:Int)+1=(↑(j+1):Int),125=125,GR 125 (UA (c:Int) T U O (ini c k j)) (UA (c:Int) T U O (ini c k (j+1))),VU (c:Int),T=T,U=U,O=O] (leaf G4.normal)))) (need [W,Q4 n a b u v,XI,QU=QU,X6,XU,VU (k:Int),A,VU (k:Int),A,(j:Int)=(c:Int)+1,125=125,GR 125 (UA (c:Int) T U O (ini c k j)) (UA (c:Int) T U O (ini c k (c+1))),VU (c:Int),T=T,U=U,O=O] (leaf (G4.exit 2))))) VQ ?_);simp only [Jk8,CP,VJ.sat,GQ] at hQ;simp only [VJ.sat,U8,UZ,GH,UB,VI,UE,H6,FW,R0,RT,GJ,CP]
 refine ⟨λh=>⟨λhne=>?_,λheq=>?_⟩,λh=>?_⟩
 ·(with_reducible repeat' first|apply Al|intro _)
  all_goals first|exact P4|(exact (cD c T U O _ VG VG _ _).trans (yX c T U O (λx y _ _=>Wk8 c k j VG VG x y) (by assumption)))
 ·obtain rfl:k=j:=VG
  (with_reducible repeat' first|apply Al|intro _)
  all_goals first|exact P4|(exact yX c T U O (λx y _ _=>Wk9 c k x y) (by assumption))
 ·obtain rfl:j=c+1:=VG
  (with_reducible repeat' first|apply Al|intro _)
  all_goals first|exact Ak|omega|with_reducible rfl|(rename_i E hE;cases hE;exact hQ)|rfl
theorem Ja7(VO:1<=c/\c<=10)(UD:1<=U/\U<=O/\O<=200/\1<=T/\T<=2000):G5 VL (.loop Zt1) (Xv9 c T U O n a b u v):=by
 refine UT [] (L:=[BG 7 (λk=>FE [k<=c] (Xv8 c T U O n a b u v k))]) (Ae LQ Aa) (Ai Ab (Ag LG Ac)) VW (G0 (λcj hcj=>by
  have e:VP Zt1 0=some (.loop Jq0):=VQ;rw [e] at hcj;cases hcj;exact LZ (λk=>HT (λh=>Ja6 c T U O n a b u v k VO UD h)))) (X:=Nat) (Wi1 c T U O n a b u v) (λk=>k<=c+1) (λk=>c+1-k) (CQ c T U O n a b u v) (x0:=0) VS ?_ ?_ ?_
 rintro k;kernel_rfl;rintro k y E h;unfold CQ at h;split at h;cases h;kernel_rfl;cases h;rintro Q hQ k hx;refine ⟨(k+1),?_⟩;(with_reducible refine DA (t:=let A:=(VU (agg [iI (c:Int),iI T,iI U,iI O]));let W:=(VU ((c:Int)+1));(branch (decide ((k:Int)<(c:Int)+1)) (need [VI ((c:Int)+1)] (need [k<=c] (need [A,Q4 n a b u v,XI,QU=QU,X6,XU,VU (k:Int),W,VU (k:Int),W,(0:Int)=(↑(0:Nat):Int),125=125,GM 125 (UA (c:Int) T U O (ini c k 0)),VU (c:Int),T=T,U=U,O=O] (need [VI ((k:Int)+1)] (need [A,Q4 n a b u v,XI,QU=QU,X6,XU,W,(k:Int)+1=(↑(k+1):Int),125=125,GR 125 (UA (c:Int) T U O (ini c k (c+1))) (UA (c:Int) T U O (ini c (k+1) 0)),VU (c:Int),T=T,U=U,O=O] (leaf G4.normal)))))) (need [A,Q4 n a b u v,XI,QU=QU,X6,XU,W,(k:Int)=(c:Int)+1,125=125,GR 125 (UA (c:Int) T U O (ini c k 0)) (UA (c:Int) T U O (ini c (c+1) 0)),VU (c:Int),T=T,U=U,O=O] (leaf (G4.exit 0))))) VQ ?_);simp only [Jk9,CQ,VJ.sat,GQ] at hQ;simp only [VJ.sat,U8,UZ,GH,UB,VI,UE,H6,FW,R0,RT,GJ,CQ]
 refine ⟨λh=>?_,λh=>?_⟩
 ·(with_reducible repeat' first|apply Al|intro _)
  all_goals first|exact P4|(exact yX c T U O (λx y _ _=>Xg6 c k x y) (by assumption))
 ·obtain rfl:k=c+1:=VG
  (with_reducible repeat' first|apply Al|intro _)
  all_goals first|exact Ak|omega|with_reducible rfl|(rename_i E hE;cases hE;exact hQ)|rfl
end
def cel(c:Nat)(U O:Int):Nat->Nat->Nat->Int
 | 0=>ini c (c+1) 0
 |k+1=>bnd (bnd (cel c U O k) k (k+1) O) (k+1) k (-U)
theorem zT{c T U O:Int}{M:Nat->Nat->Int}{a b q:Nat}{v:Int}(hq:q=4+a*11+b)(hb:b<11):UP q (min (UA c T U O M q) v) (UA c T U O M)=UA c T U O (bnd M a b v):=by
 funext k;rw [cD c T U O M hq hb,qA c T U O M hq hb];rfl
section
variable (c:Nat)(T U O:Int)(n:Nat)(a b u v:Nat->Int)
def Zq7:St:={σ:=[agg [iI (c:Int),iI T,iI U,iI O],X5 n a b u v,ptr 0 0,top,QU,AV.lit false,ptr 5 0]++HF 15 [iI ((c:Int)+1),iI ((c:Int)+1)]++HF 21 [iI (c:Int)]++HF 132 [],m:=[(5,GL.ints 301 [] 125 λk=>UA (c:Int) T U O (ini c (c+1) 0) k),(0,GL.cells 49 [iI (c:Int),iI T,iI U,iI O])],nx:=14}
noncomputable def Jp9:Code:=U7 (VP (U5 Tryz.f158) 1)
def Wh9(k:Nat):St:=(upE [(46,i k)] [(5,.ints 301 [] 125 (UA c T U O (cel c U O k))),(0,.cells 49 [i c,i T,i U,i O])] (Zq7 c T U O n a b u v))
def CO(k:Nat):G4->Option St
 | .exit 4=>some (upE [(46,i c)] [(5,.ints 301 [] 125 (UA c T U O (cel c U O c))),(0,.cells 49 [i c,i T,i U,i O])] (Zq7 c T U O n a b u v))
 |_=>none
def Jk7:CT:= .leaf (.exit 4,(CO c T U O n a b u v 0 (.exit 4)).getD (Zq7 c T U O n a b u v))
def Xv7:UF:=GG [] (HD (Wh9 c T U O n a b u v (0)) (Jk7 c T U O n a b u v))
theorem Ja5(VO:1<=c/\c<=10)(UD:1<=U/\U<=O/\O<=200/\1<=T/\T<=2000):G5 VL (.loop Jp9) (Xv7 c T U O n a b u v):=by
 refine UT [] (L:=[]) (Ae LQ Aa) (Ai Ab (Ag LG Ac)) VW U0 (X:=Nat) (Wh9 c T U O n a b u v) (λk=>k<=c) (λk=>c-k) (CO c T U O n a b u v) (x0:=0) VS ?_ ?_ ?_;rintro k;kernel_rfl;rintro k y E h;unfold CO at h;split at h;cases h;kernel_rfl;cases h;rintro Q hQ k hx;refine ⟨(k+1),?_⟩;(with_reducible refine DA (t:=let A:=(UA (c:Int) T U O (cel c U O k) (((k:Int)+1).toNat*1+(k*11+4)));let W:=(UP (((k:Int)+1).toNat*1+(k*11+4)) (min A O) (UA (c:Int) T U O (cel c U O k)) (k*1+(((k:Int)+1).toNat*11+4)));let z2:=(VU ((c:Int)+1));(branch (decide ((k:Int)<(c:Int))) (need [VI ((k:Int)+1)] (need [UG k 11] (need [UG ((k:Int)+1) 11] (need [((k:Int)+1).toNat*1+(k*11+4)<125] (need [UG k 11] (need [UG ((k:Int)+1) 11] (need [((k:Int)+1).toNat*1+(k*11+4)+List.length [min A O]<=125] (need [VI ((k:Int)+1)] (need [VI (-U)] (need [UG ((k:Int)+1) 11] (need [UG k 11] (need [k*1+(((k:Int)+1).toNat*11+4)<125] (need [UG ((k:Int)+1) 11] (need [UG k 11] (need [k*1+(((k:Int)+1).toNat*11+4)+List.length [min W (-U)]<=125] (need [VI ((k:Int)+1)] (need [VU (agg [iI (c:Int),iI T,iI U,iI O]),Q4 n a b u v,XI,QU=QU,X6,XU,z2,z2,VU (c:Int),(k:Int)+1=(↑(k+1):Int),125=125,GR 125 (UP (k*1+(((k:Int)+1).toNat*11+4)) (min W (-U)) (jB (((k:Int)+1).toNat*1+(k*11+4)) [min A O] (UA (c:Int) T U O (cel c U O k)))) (UA (c:Int) T U O (cel c U O (k+1))),VU (c:Int),T=T,U=U,O=O] (leaf G4.normal)))))))))))))))))) (need [VU (agg [iI (c:Int),iI T,iI U,iI O]),Q4 n a b u v,XI,QU=QU,X6,XU,z2,z2,VU (c:Int),(k:Int)=(c:Int),125=125,GR 125 (UA (c:Int) T U O (cel c U O k)) (UA (c:Int) T U O (cel c U O c)),VU (c:Int),T=T,U=U,O=O] (leaf (G4.exit 4))))) VQ ?_);simp only [Jk7,CO,VJ.sat,GQ] at hQ;simp only [VJ.sat,U8,UZ,GH,UB,VI,UE,H6,FW,R0,RT,GJ,CO]
 refine ⟨λh=>?_,λh=>?_⟩
 ·have h1: ∀M v,UP (((k:Int)+1).toNat*1+(k*11+4)) (min (UA c T U O M (((k:Int)+1).toNat*1+(k*11+4))) v) (UA c T U O M)=UA c T U O (bnd M k (k+1) v):=λM v=>zT VG VG;have h2: ∀M v,UP (k*1+(((k:Int)+1).toNat*11+4)) (min (UA c T U O M (k*1+(((k:Int)+1).toNat*11+4))) v) (UA c T U O M)=UA c T U O (bnd M (k+1) k v):=λM v=>zT VG VG;simp only [h1,h2]
  (with_reducible repeat' first|apply Al|intro _)
  all_goals first|exact Ak|omega|with_reducible rfl|(rename_i E hE;cases hE;exact hQ)|rfl
 ·obtain rfl:k=c:=VG
  (with_reducible repeat' first|apply Al|intro _)
  all_goals first|exact Ak|omega|with_reducible rfl|(rename_i E hE;cases hE;exact hQ)|rfl
end
def rdS(c:Nat)(M:Nat->Nat->Int)(a b u v:Int):Nat->Nat->Int:=if b<(c:Int) then bnd (bnd M a.toNat b.toNat v) (b+1).toNat a.toNat (-u-1) else bnd M a.toNat b.toNat v
def rdM(c:Nat)(T U O:Int)(a b u v:Nat->Int):Nat->Nat->Nat->Int
 | 0=>bnd (bnd (cel c U O c) 0 c T) c 0 (-T)
 |j+1=>rdS c (rdM c T U O a b u v j) (a j) (b j) (u j) (v j)
def rdV(a b u v:Int):Value:= .agg #[.int .i64 a,.int .i64 b,.int .i64 u,.int .i64 v]
def sn(a b u v:Nat->Int)(k:Nat)(x:Value):Prop:= ∃j,j<k/\x=rdV (a j) (b j) (u j) (v j)
def Jc9(x:Value):Prop:= ∃a b u v,x=rdV a b u v
theorem Wb5(a b u v:Int)(e:UJ)(w:World):Rep e w (.agg [i a,i b,i u,i v]) (rdV a b u v):=
 Rep.aggL (VZ.cons (.x _) (VZ.cons (.x _) (VZ.cons (.x _) (VZ.one (.x _)))))
theorem Qn1(a b u v:Int):F8 Tryz.prog 303 Jc9 (rdV a b u v) (.bool false):=by
 refine ⟨⟨145,4,(match Tryz.prog.underlying 145 with|some (.struct fs)=>fs|_=>#[]),VQ,VQ,?_,?_,?_⟩,by simp [Instr.sameBits,rdV]⟩
 intro b' w;kernel_rfl;rintro k' ⟨a',b',u',v',rfl⟩ w;refine ⟨a==a'&&(b==b'&&(u==u'&&(v==v'&&true)&&true)),xJ (P:=Tryz.prog) (e:=PA w w) Op.maxDepth 145 (.agg [i a,i b,i u,i v]) (.agg [i a',i b',i u',i v']) _ _ _ VQ (Wb5 ..) (Wb5 ..),λh=>?_⟩;simp only [Bool.and_true,GZ,beq_iff_eq] at h;obtain ⟨rfl,rfl,rfl,rfl⟩:=h;rfl;intro w;kernel_rfl
theorem Xr4{a b u v:Nat->Int}{k:Nat}{x:Value}(h:sn a b u v k x):Jc9 x:=by
 obtain ⟨j,_,h⟩:=h;exact ⟨_,_,_,_,h⟩
section
variable (M:Nat->Nat->Int)(a b:Nat)(v:Int)
theorem wN(x y:Nat):bnd M a b v x y<=M x y:=by
 unfold bnd wW;split;rename_i h;rw [h.1,h.2];omega;omega
theorem aN:bnd M a b v a b<=v:=by
 unfold bnd wW;rw [if_pos ⟨rfl,rfl⟩];omega
end
theorem Wt6{M:Nat->Nat->Int}{a b:Nat}{v:Int}(h:M a b<=v):bnd M a b v=M:=by
 funext x y;unfold bnd wW;split;rename_i h';rw [h'.1,h'.2];omega;rfl
section
variable (c:Nat)(M:Nat->Nat->Int)(a b u v:Int)
theorem Zg6(x y:Nat):rdS c M a b u v x y<=M x y:=by
 unfold rdS;split;exact Bx (wN _ _ _ _ _ _) (wN _ _ _ _ _ _);exact wN _ _ _ _ _ _
theorem Zg8:rdS c M a b u v a.toNat b.toNat<=v/\(b<c->rdS c M a b u v (b+1).toNat a.toNat<= -u-1):=by
 unfold rdS;split;exact ⟨Bx (wN _ _ _ _ _ _) (aN _ _ _ _),λ_=>aN _ _ _ _⟩;exact ⟨aN _ _ _ _,λh=>VG⟩
end
theorem Zg7{c:Nat}{M:Nat->Nat->Int}{a b u v:Int}(h:M a.toNat b.toNat<=v)(h2:b<c->M (b+1).toNat a.toNat<= -u-1):rdS c M a b u v=M:=by
 unfold rdS;rw [Wt6 h];split;rename_i hb;exact Wt6 (h2 hb);rfl
theorem CC(c:Nat)(T U O:Int)(a b u v:Nat->Int)(j:Nat): ∀(k:Nat),j<=k-> ∀x y,rdM c T U O a b u v k x y<=rdM c T U O a b u v j x y
 | 0,h,x,y=>by
           obtain rfl:j=0:=VG;exact Int.le_refl _
 |k+1,h,x,y=>by
  rcases (show j=k+1\/j<=k by omega) with rfl|h
  exact Int.le_refl _;exact Bx (Zg6 _ _ _ _ _ _ _ _) (CC c T U O a b u v j k h x y)
theorem Wc1{c:Nat}{T U O:Int}{a b u v:Nat->Int}{k:Nat}(h:sn a b u v k (rdV (a k) (b k) (u k) (v k))):rdM c T U O a b u v (k+1)=rdM c T U O a b u v k:=by
 obtain ⟨j,hj,he⟩:=h;unfold rdV at he;injection he with he
 injection he with he
 have e:a k=a j/\b k=b j/\u k=u j/\v k=v j:=by simpa using he
 have h1:=Zg8 c (rdM c T U O a b u v j) (a j) (b j) (u j) (v j);have m:=CC c T U O a b u v (j+1) k VG;refine Zg7 ?_ (λhb=>?_);rw [e.1,e.2.1,e.2.2.2];exact Bx (m _ _) h1.1;rw [e.1,e.2.1,e.2.2.1];exact Bx (m _ _) (h1.2 (by rw [←e.2.1];exact hb))
section
variable (c:Nat)(T U O:Int)(n:Nat)(a b u v:Nat->Int)
def Zq6:St:={σ:=[agg [iI (c:Int),iI T,iI U,iI O],X5 n a b u v,ptr 0 0,top,QU,AV.lit false,ptr 5 0,top,top,top,AV.mp 63]++HF 11 [iI ((c:Int)+1),iI ((c:Int)+1)]++HF 21 [iI (c:Int),iI (c:Int)]++HF 34 [X5 n a b u v,iI (n:Int)]++HF 95 [],m:=[(63,GL.memo (λx=>False) λv=>v),(56,GL.row 3 1 2 (U3 1 [iI (UP (c*1+4) (min (UA (c:Int) T U O (cel c U O c) (c*1+4)) T) (UA (c:Int) T U O (cel c U O c)) (0+(c*11+4))),iI (-T)])),(31,GL.row 3 1 2 (U3 1 [iI (UA (c:Int) T U O (cel c U O c) (c*1+4)),iI T])),(5,GL.ints 301 [] 125 λa=>UP (0+(c*11+4)) (min (UP (c*1+4) (min (UA (c:Int) T U O (cel c U O c) (c*1+4)) T) (UA (c:Int) T U O (cel c U O c)) (0+(c*11+4))) (-T)) (jB (c*1+4) [min (UA (c:Int) T U O (cel c U O c) (c*1+4)) T] (UA (c:Int) T U O (cel c U O c))) a),(0,GL.cells 49 [iI (c:Int),iI T,iI U,iI O])],nx:=68}
noncomputable def Jp8:Code:=U7 (VP (U5 Tryz.f158) 2)
def Wh8(k:Nat):St:=(upE [(83,i k)] [(5,.ints 301 [] 125 (UA c T U O (rdM c T U O a b u v k))),(0,.cells 49 [i c,i T,i U,i O]),(63,.memo (sn a b u v k) (λ_=> .bool true))] (Zq6 c T U O n a b u v))
def CN(k:Nat):G4->Option St
 | .exit 6=>some (upE [(83,i n)] [(5,.ints 301 [] 125 (UA c T U O (rdM c T U O a b u v n))),(0,.cells 49 [i c,i T,i U,i O]),(63,.memo (sn a b u v n) (λ_=> .bool true))] (Zq6 c T U O n a b u v))
 |_=>none
def Jk6:CT:= .leaf (.exit 6,(CN c T U O n a b u v 0 (.exit 6)).getD (Zq6 c T U O n a b u v))
def Xv6:UF:=GG [] (HD (Wh8 c T U O n a b u v (0)) (Jk6 c T U O n a b u v))
abbrev ZG:Prop:=AV.mp 63=AV.mp 63
theorem Ja3(VO:1<=c/\c<=10)(UD:1<=U/\U<=O/\O<=200/\1<=T/\T<=2000)(HO:n<=1000)(DZ:HW (λk=>rdB c (a k) (b k) (u k) (v k)) n=true):G5 VL (.loop Jp8) (Xv6 c T U O n a b u v):=by
 refine UT [] (L:=[]) (Ae LQ Aa) (Ai Ab (Ag LG Ac)) VW U0 (X:=Nat) (Wh8 c T U O n a b u v) (λk=>k<=n) (λk=>n-k) (CN c T U O n a b u v) (x0:=0) VS ?_ ?_ ?_;rintro k;kernel_rfl;rintro k y E h;unfold CN at h;split at h;cases h;kernel_rfl;cases h;rintro Q hQ k hx;refine ⟨(k+1),?_⟩
 (with_reducible refine DA (t:=let z9:=sn a b u v k;let z3:=(Value.agg #[Value.int IntKind.i64 (a k),Value.int IntKind.i64 (b k),Value.int IntKind.i64 (u k),Value.int IntKind.i64 (v k)]);let z7:=(rdM c T U O a b u v k);let z2:=(UA (c:Int) T U O z7 ((b k).toNat*1+((a k).toNat*11+4)));let z10:=(UA (c:Int) T U O z7);let z5:=(UP ((b k).toNat*1+((a k).toNat*11+4)) (min z2 (v k)) z10 ((a k).toNat*1+((b k+1).toNat*11+4)));let z6:=(VU (agg [iI (c:Int),iI T,iI U,iI O]));let z8:=Q4 n a b u v;let z4:=(VU ((c:Int)+1));let z11:=(rdM c T U O a b u v (k+1));let A:=(need [∀(u_1:Value),z9 u_1->Value.bool true=Value.bool true,F8 Tryz.prog 303 (λu_1=>z9 u_1\/u_1=Value.agg #[Value.int IntKind.i64 (a k),Value.int IntKind.i64 (b k),Value.int IntKind.i64 (u k),Value.int IntKind.i64 (v k)]) z3 (YG)] (need [UG (a k) 11] (need [UG (b k) 11] (need [(b k).toNat*1+((a k).toNat*11+4)<125] (need [UG (a k) 11] (need [UG (b k) 11] (need [(b k).toNat*1+((a k).toNat*11+4)+List.length [min z2 (v k)]<=125] (branch (decide (b k<(c:Int))) (need [VI (b k+1)] (need [VI (-u k)] (need [VI (-u k-1)] (need [UG (b k+1) 11] (need [UG (a k) 11] (need [(a k).toNat*1+((b k+1).toNat*11+4)<125] (need [UG (b k+1) 11] (need [UG (a k) 11] (need [(a k).toNat*1+((b k+1).toNat*11+4)+List.length [min z5 (-u k-1)]<=125] (need [VI ((k:Int)+1)] (need [z6,z8,XI,QU=QU,X6,XU,ZG,z4,z4,VU (c:Int),VU (c:Int),z8,VU (n:Int),(k:Int)+1=(↑(k+1):Int),125=125,GR 125 (UP ((a k).toNat*1+((b k+1).toNat*11+4)) (min z5 (-u k-1)) (jB ((b k).toNat*1+((a k).toNat*11+4)) [min z2 (v k)] z10)) (UA (c:Int) T U O z11),VU (c:Int),T=T,U=U,O=O,∀(k_1:Value),z9 k_1\/k_1=Value.agg #[Value.int IntKind.i64 (a k),Value.int IntKind.i64 (b k),Value.int IntKind.i64 (u k),Value.int IntKind.i64 (v k)]->sn a b u v (k+1) k_1/\Value.bool true=Value.bool true] (leaf G4.normal)))))))))))) (need [VI ((k:Int)+1)] (need [z6,z8,XI,QU=QU,X6,XU,ZG,z4,z4,VU (c:Int),VU (c:Int),z8,VU (n:Int),(k:Int)+1=(↑(k+1):Int),125=125,GR 125 (UP ((b k).toNat*1+((a k).toNat*11+4)) (min z2 (v k)) z10) (UA (c:Int) T U O z11),VU (c:Int),T=T,U=U,O=O,∀(k_1:Value),z9 k_1\/k_1=Value.agg #[Value.int IntKind.i64 (a k),Value.int IntKind.i64 (b k),Value.int IntKind.i64 (u k),Value.int IntKind.i64 (v k)]->sn a b u v (k+1) k_1/\Value.bool true=Value.bool true] (leaf G4.normal)))))))))));let W:=(need [VI ((k:Int)+1)] (need [z6,z8,XI,QU=QU,X6,XU,ZG,z4,z4,VU (c:Int),VU (c:Int),z8,VU (n:Int),(k:Int)+1=(↑(k+1):Int),125=125,GR 125 (UA (c:Int) T U O z7) (UA (c:Int) T U O z11),VU (c:Int),T=T,U=U,O=O,∀(k_1:Value),z9 k_1->sn a b u v (k+1) k_1/\Value.bool true=Value.bool true] (leaf G4.normal)));(branch (decide ((k:Int)<(n:Int))) (need [UG k n] (need [F8 Tryz.prog 303 (z9) z3 (YG)] (VJ.may (z9 z3) (branch true W A) (branch false W A)))) (need [z6,z8,XI,QU=QU,X6,XU,ZG,z4,z4,VU (c:Int),VU (c:Int),z8,VU (n:Int),(k:Int)=(n:Int),125=125,GR 125 (UA (c:Int) T U O z7) (UA (c:Int) T U O (rdM c T U O a b u v n)),VU (c:Int),T=T,U=U,O=O,∀(k_1:Value),z9 k_1->sn a b u v n k_1/\Value.bool true=Value.bool true] (leaf (G4.exit 6))))) VQ ?_)
 simp only [Jk6,CN,VJ.sat,GQ] at hQ;simp only [VJ.sat,U8,UZ,GH,UB,VI,UE,H6,FW,R0,RT,GJ,CN]
 have hv: ∀j,j<n->(0<=a j/\a j<=c-1)/\(a j<=b j/\b j<=c)/\0<=u j/\u j<=v j/\v j<=2000:=by
  intro j hj;have:=GI.1 DZ j hj;simp only [rdB,GZ,bt_iff,insB_iff] at this;omega
 refine ⟨λh=>?_,λh=>?_⟩;have hk:=hv k VG;have mk:=Qn1 (a k) (b k) (u k) (v k);have q1:F8 Tryz.prog 303 (sn a b u v k) (rdV (a k) (b k) (u k) (v k)) (.bool false):=mk.mono (λx hx=>Xr4 hx);have q2:F8 Tryz.prog 303 (λx=>sn a b u v k x\/x=rdV (a k) (b k) (u k) (v k)) (rdV (a k) (b k) (u k) (v k)) (.bool false):=mk.mono (λx hx=>hx.elim Xr4 (λhe=>⟨_,_,_,_,he⟩));have sn1: ∀x,sn a b u v k x->sn a b u v (k+1) x:=λx ⟨j,hj,he⟩=>⟨j,VG,he⟩;have sn2:sn a b u v (k+1) (rdV (a k) (b k) (u k) (v k)):=⟨k,VG,rfl⟩;refine ⟨VG,q1,λhs=>⟨λ_=>?_,λhc=>absurd hc (by decide)⟩,λhc=>absurd hc (by decide),λ_=>?_⟩
 ·rw [Wc1 hs]
  (with_reducible repeat' first|apply Al|intro _)
  all_goals first|exact P4|(exact sn1 _ (by assumption))
 have h1: ∀M w,UP ((b k).toNat*1+((a k).toNat*11+4)) (min (UA c T U O M ((b k).toNat*1+((a k).toNat*11+4))) w) (UA c T U O M)=UA c T U O (bnd M (a k).toNat (b k).toNat w):=λM w=>zT VG VG;refine ⟨⟨λ_ _=>trivial,q2⟩,?_⟩;simp only [h1];refine ⟨VG,VG,VG,VG,VG,VG,λhb=>?_,λhb=>?_⟩;have h2: ∀M w,UP ((a k).toNat*1+((b k+1).toNat*11+4)) (min (UA c T U O M ((a k).toNat*1+((b k+1).toNat*11+4))) w) (UA c T U O M)=UA c T U O (bnd M (b k+1).toNat (a k).toNat w):=λM w=>zT VG VG;have e3:rdM c T U O a b u v (k+1)=bnd (bnd (rdM c T U O a b u v k) (a k).toNat (b k).toNat (v k)) (b k+1).toNat (a k).toNat (-u k-1):=by
  show rdS _ _ _ _ _ _=_;unfold rdS;rw [if_pos hb]
 simp only [h2,e3];exact VE;have e3:rdM c T U O a b u v (k+1)=bnd (rdM c T U O a b u v k) (a k).toNat (b k).toNat (v k):=by
  show rdS _ _ _ _ _ _=_;unfold rdS;rw [if_neg hb]
 simp only [e3];exact VE
 ·obtain rfl:k=n:=VG
  (with_reducible repeat' first|apply Al|intro _)
  all_goals first|exact P4|(assumption)
end
def fwS(M:Nat->Nat->Int)(o f t:Nat):Nat->Nat->Int:=bnd M f t (M f o+M o t)
def fwT(M:Nat->Nat->Int)(o f:Nat):Nat->Nat->Nat->Int
 | 0=>M
 |t+1=>fwS (fwT M o f t) o f t
def fwF(c:Nat)(M:Nat->Nat->Int)(o:Nat):Nat->Nat->Nat->Int
 | 0=>M
 |f+1=>fwT (fwF c M o f) o f (c+1)
def fwO(c:Nat)(M:Nat->Nat->Int):Nat->Nat->Nat->Int
 | 0=>M
 |o+1=>fwF c (fwO c M o) o (c+1)
def LB(B:Int)(M:Nat->Nat->Int):Prop:= ∀x y,-B<=M x y/\M x y<=2000
def JB(B:Int)(o f t:Nat)(M:Nat->Nat->Int):Prop:= ∀x y,M x y<=2000/\ -(6*B)<=M x y/\(x=o-> -(3*B)<=M x y)/\(y=o-> -(3*B)<=M x y)/\(x=o->y=o-> -(2*B)<=M x y)/\(¬(x<f\/(x=f/\y<t))-> -B<=M x y)
theorem Wz6{B:Int}{o:Nat}{M:Nat->Nat->Int}(hB:0<=B)(h:LB B M):JB B o 0 0 M:=by
 intro x y;have:=h x y;refine ⟨VG,VG,λ_=>VG,λ_=>VG,λ_ _=>VG,λ_=>VG⟩
theorem Xn6{B:Int}{o f t:Nat}{M:Nat->Nat->Int}(hB:0<=B)(h:JB B o f t M):JB B o f (t+1) (fwS M o f t):=by
 have hft:=h f t;have hfo:=h f o;have hot:=h o t;have hoo:=h o o;have I:=hft.2.2.2.2.2 VG;intro x y;have hxy:=h x y;unfold fwS bnd wW;by_cases hc:x=f/\y=t;exact YZ;rw [if_neg hc];exact ⟨hxy.1,hxy.2.1,hxy.2.2.1,hxy.2.2.2.1,hxy.2.2.2.2.1,λhv=>hxy.2.2.2.2.2 VG⟩
theorem Zp8{B:Int}{o f:Nat}{M:Nat->Nat->Int}(hB:0<=B)(h:JB B o f 0 M): ∀t,JB B o f t (fwT M o f t)
 | 0=>h
 |t+1=>Xn6 hB (Zp8 hB h t)
theorem Zp7{B:Int}{o f t:Nat}{M:Nat->Nat->Int}(h:JB B o f t M):JB B o (f+1) 0 M:=by
 intro x y;have hxy:=h x y;exact ⟨hxy.1,hxy.2.1,hxy.2.2.1,hxy.2.2.2.1,hxy.2.2.2.2.1,λhv=>hxy.2.2.2.2.2 VG⟩
theorem Zp9{B:Int}{c o:Nat}{M:Nat->Nat->Int}(hB:0<=B)(h:LB B M): ∀f,JB B o f 0 (fwF c M o f)
 | 0=>Wz6 hB h
 |f+1=>Zp7 (Zp8 hB (Zp9 hB h f) (c+1))
theorem Zp6{c:Nat}{M:Nat->Nat->Int}(h:LB 2001 M): ∀o,LB (2001*6^o) (fwO c M o)
 | 0=>by
  rw [show (2001:Int)*6^0=2001 by decide]
  exact h
 |o+1=>by
  have ih:=Zp6 (c:=c) h o;have hp:(0:Int)<=2001*6^o:=Bz VG (Int.pow_nonneg VG);have hj:=Zp9 (c:=c) (o:=o) hp ih (c+1);intro x y;have:=hj x y;have e:(2001:Int)*6^(o+1)=6*(2001*6^o):=by rw [Int.pow_succ];omega
  rw [e];exact ⟨this.2.1,this.1⟩
theorem Jb0: ∀o:Nat,o<=10->(6:Int)^o<=60466176:=by
 intro o ho;rcases (show o=0\/o=1\/o=2\/o=3\/o=4\/o=5\/o=6\/o=7\/o=8\/o=9\/o=10 by omega) with rfl|rfl|rfl|rfl|rfl|rfl|rfl|rfl|rfl|rfl|rfl<;>decide
theorem Jg1{c:Nat}{M:Nat->Nat->Int}(h:LB 2001 M){o f t:Nat}(ho:o<=10)(x y:Nat): -800000000000<=fwT (fwF c (fwO c M o) o f) o f t x y/\fwT (fwF c (fwO c M o) o f) o f t x y<=2000:=by
 have ih:=Zp6 (c:=c) h o;have hp:(0:Int)<=2001*6^o:=Bz VG (Int.pow_nonneg VG);have hj:=Zp8 hp (Zp9 (c:=c) (o:=o) hp ih f) t x y;have:=Jb0 o ho;omega
theorem vX{B:Int}{M:Nat->Nat->Int}(h:LB B M){a b:Nat}{v:Int}(hv: -B<=v):LB B (bnd M a b v):=by
 intro x y;have h1:=h a b;have h2:=h x y;unfold bnd wW;split<;>omega
theorem Ws7{c:Nat}{U O:Int}(h:1<=U/\U<=O/\O<=200): ∀k,LB 2001 (cel c U O k)
 | 0=>by
  intro x y;unfold cel ini;split<;>omega
 |k+1=>vX (vX (Ws7 h k) VG) VG
theorem nT{c:Nat}{T U O:Int}{a b u v:Nat->Int}{n:Nat}(h:1<=U/\U<=O/\O<=200/\1<=T/\T<=2000)(hv: ∀j,j<n->0<=u j/\u j<=v j/\v j<=2000): ∀k,k<=n->LB 2001 (rdM c T U O a b u v k)
 | 0,_=>vX (vX (Ws7 VG c) VG) VG
 |k+1,hk=>by
  have ih:=nT (c:=c) (a:=a) (b:=b) h hv k VG;have:=hv k VG;show LB 2001 (rdS _ _ _ _ _ _);unfold rdS;split;exact vX (vX ih VG) VG;exact vX ih VG
section
variable (c:Nat)(T U O:Int)(n:Nat)(a b u v:Nat->Int)
def tO:St:={σ:=[agg [iI (c:Int),iI T,iI U,iI O],X5 n a b u v,ptr 0 0,top,QU,AV.lit false,ptr 5 0,top,top,top,AV.mp 63]++HF 11 [iI ((c:Int)+1),iI ((c:Int)+1)]++HF 21 [iI (c:Int),iI (c:Int)]++HF 34 [X5 n a b u v,iI (n:Int),iI (n:Int)]++HF 37 [iI ((c:Int)+1)]++HF 56 [],m:=[(5,GL.ints 301 [] 125 λk=>UA (c:Int) T U O (rdM c T U O a b u v n) k),(0,GL.cells 49 [iI (c:Int),iI T,iI U,iI O]),(63,GL.memo (λx=>sn a b u v n x) λx=>Value.bool true)],nx:=72}
noncomputable def Qu0:Code:=U7 (VP (U5 Tryz.f158) 3)
def EV(o:Nat):St:=(upE [(122,i o)] [(5,.ints 301 [] 125 (UA c T U O (fwO c (rdM c T U O a b u v n) o))),(0,.cells 49 [i c,i T,i U,i O])] (tO c T U O n a b u v))
def qE(o:Nat):G4->Option St
 | .exit 8=>some (upE [(122,i ((c:Int)+1))] [(5,.ints 301 [] 125 (UA c T U O (fwO c (rdM c T U O a b u v n) (c+1)))),(0,.cells 49 [i c,i T,i U,i O])] (tO c T U O n a b u v))
 |_=>none
def Ww0:CT:= .leaf (.exit 8,(qE c T U O n a b u v 0 (.exit 8)).getD (tO c T U O n a b u v))
def mP:UF:=GG [] (HD (EV c T U O n a b u v (0)) (Ww0 c T U O n a b u v))
def Zq5(o:Nat):St:={σ:=[agg [iI (c:Int),iI T,iI U,iI O],X5 n a b u v,ptr 0 0,top,QU,AV.lit false,ptr 5 0,top,top,top,AV.mp 63,top,top,iI (o:Int)]++HF 8 [iI ((c:Int)+1),iI ((c:Int)+1)]++HF 21 [iI (c:Int),iI (c:Int)]++HF 34 [X5 n a b u v,iI (n:Int),iI (n:Int)]++HF 37 [iI ((c:Int)+1),iI (o:Int),top,top,top,top,iI ((c:Int)+1)]++HF 50 [],m:=[(5,GL.ints 301 [] 125 λk=>UA (c:Int) T U O (fwO c (rdM c T U O a b u v n) o) k),(0,GL.cells 49 [iI (c:Int),iI T,iI U,iI O])],nx:=79}
noncomputable def Zt0:Code:=(U7 (VP (U7 (VP (U5 Tryz.f158) 3)) 0))
def Wh7(o:Nat)(f:Nat):St:=(upE [(128,i f)] [(5,.ints 301 [] 125 (UA c T U O (fwF c (fwO c (rdM c T U O a b u v n) o) o f))),(0,.cells 49 [i c,i T,i U,i O])] (Zq5 c T U O n a b u v o))
def CM(o:Nat)(f:Nat):G4->Option St
 | .exit 10=>some (upE [(128,i ((c:Int)+1))] [(5,.ints 301 [] 125 (UA c T U O (fwF c (fwO c (rdM c T U O a b u v n) o) o (c+1)))),(0,.cells 49 [i c,i T,i U,i O])] (Zq5 c T U O n a b u v o))
 |_=>none
def Jk5(o:Nat):CT:= .leaf (.exit 10,(CM c T U O n a b u v o 0 (.exit 10)).getD (Zq5 c T U O n a b u v o))
def Xv5(o:Nat):UF:=GG [] (HD (Wh7 c T U O n a b u v o (0)) (Jk5 c T U O n a b u v o))
def bE(o:Nat)(f:Nat):St:={σ:=[agg [iI (c:Int),iI T,iI U,iI O],X5 n a b u v,ptr 0 0,top,QU,AV.lit false,ptr 5 0,top,top,top,AV.mp 63,top,top,iI (o:Int),iI (f:Int)]++HF 7 [iI ((c:Int)+1),iI ((c:Int)+1)]++HF 21 [iI (c:Int),iI (c:Int)]++HF 34 [X5 n a b u v,iI (n:Int),iI (n:Int)]++HF 37 [iI ((c:Int)+1),iI (o:Int),top,top,top,top,iI ((c:Int)+1),iI (f:Int),top,top,top,top,iI ((c:Int)+1)]++HF 44 [],m:=[(5,GL.ints 301 [] 125 λk=>UA (c:Int) T U O (fwF c (fwO c (rdM c T U O a b u v n) o) o f) k),(0,GL.cells 49 [iI (c:Int),iI T,iI U,iI O])],nx:=86}
noncomputable def Xc0:Code:=(U7 (VP (U7 (VP (U7 (VP (U5 Tryz.f158) 3)) 0)) 0))
def EU(o:Nat)(f:Nat)(t:Nat):St:=(upE [(134,i t)] [(5,.ints 301 [] 125 (UA c T U O (fwT (fwF c (fwO c (rdM c T U O a b u v n) o) o f) o f t))),(0,.cells 49 [i c,i T,i U,i O])] (bE c T U O n a b u v o f))
def PK(o:Nat)(f:Nat)(t:Nat):G4->Option St
 | .exit 12=>some (upE [(134,i ((c:Int)+1))] [(5,.ints 301 [] 125 (UA c T U O (fwT (fwF c (fwO c (rdM c T U O a b u v n) o) o f) o f (c+1)))),(0,.cells 49 [i c,i T,i U,i O])] (bE c T U O n a b u v o f))
 |_=>none
def Wv9(o:Nat)(f:Nat):CT:= .leaf (.exit 12,(PK c T U O n a b u v o f 0 (.exit 12)).getD (bE c T U O n a b u v o f))
def mO(o:Nat)(f:Nat):UF:=GG [] (HD (EU c T U O n a b u v o f (0)) (Wv9 c T U O n a b u v o f))
theorem Wb4(o:Nat)(f:Nat)(VO:1<=c/\c<=10)(UD:1<=U/\U<=O/\O<=200/\1<=T/\T<=2000)(HO:n<=1000)(DZ:HW (λk=>rdB c (a k) (b k) (u k) (v k)) n=true)(BM:o<=c)(z9:f<=c):G5 VL (.loop Xc0) (mO c T U O n a b u v o f):=by
 refine UT [] (L:=[]) (Ae LQ Aa) (Ai Ab (Ag LG Ac)) VW U0 (X:=Nat) (EU c T U O n a b u v o f) (λt=>t<=c+1) (λt=>c+1-t) (PK c T U O n a b u v o f) (x0:=0) VS ?_ ?_ ?_;rintro t;kernel_rfl;rintro t y E h;unfold PK at h;split at h;cases h;kernel_rfl;cases h;rintro Q hQ t hx;refine ⟨(t+1),?_⟩;(with_reducible refine DA (t:=let z2:=(fwF c (fwO c (rdM c T U O a b u v n) o) o f);let A:=(fwT z2 o f t);let W:=(VU ((c:Int)+1));let z3:=(UA (c:Int) T U O A (t*1+(f*11+4)));(branch (decide ((t:Int)<(c:Int)+1)) (need [UG f 11] (need [UG o 11] (need [o*1+(f*11+4)<125] (need [UG o 11] (need [UG t 11] (need [t*1+(o*11+4)<125] (need [VI (UA (c:Int) T U O A (o*1+(f*11+4))+UA (c:Int) T U O A (t*1+(o*11+4)))] (need [UG f 11] (need [UG t 11] (need [t*1+(f*11+4)<125] (need [UG f 11] (need [UG t 11] (need [t*1+(f*11+4)+List.length [min z3 (UA (c:Int) T U O A (o*1+(f*11+4))+UA (c:Int) T U O A (t*1+(o*11+4)))]<=125] (need [VI ((t:Int)+1)] (need [VU (agg [iI (c:Int),iI T,iI U,iI O]),Q4 n a b u v,XI,QU=QU,X6,XU,ZG,VU (o:Int),VU (f:Int),W,W,VU (c:Int),VU (c:Int),Q4 n a b u v,VU (n:Int),VU (n:Int),W,VU (o:Int),W,VU (f:Int),W,(t:Int)+1=(↑(t+1):Int),125=125,GR 125 (UP (t*1+(f*11+4)) (min z3 (UA (c:Int) T U O A (o*1+(f*11+4))+UA (c:Int) T U O A (t*1+(o*11+4)))) (UA (c:Int) T U O A)) (UA (c:Int) T U O (fwT z2 o f (t+1))),VU (c:Int),T=T,U=U,O=O] (leaf G4.normal)))))))))))))))) (need [VU (agg [iI (c:Int),iI T,iI U,iI O]),Q4 n a b u v,XI,QU=QU,X6,XU,ZG,VU (o:Int),VU (f:Int),W,W,VU (c:Int),VU (c:Int),Q4 n a b u v,VU (n:Int),VU (n:Int),W,VU (o:Int),W,VU (f:Int),W,(t:Int)=(c:Int)+1,125=125,GR 125 (UA (c:Int) T U O A) (UA (c:Int) T U O (fwT z2 o f (c+1))),VU (c:Int),T=T,U=U,O=O] (leaf (G4.exit 12))))) VQ ?_);simp only [Wv9,PK,VJ.sat,GQ] at hQ;simp only [VJ.sat,U8,UZ,GH,UB,VI,UE,H6,FW,R0,RT,GJ,PK]
 have hv: ∀j,j<n->0<=u j/\u j<=v j/\v j<=2000:=by
  intro j hj;have:=GI.1 DZ j hj;simp only [rdB,GZ,bt_iff,insB_iff] at this;omega
 have hl:=λx y=>Jg1 (c:=c) (nT (c:=c) (a:=a) (b:=b) UD hv n (Am _)) (o:=o) (f:=f) (t:=t) VG x y;have hfo:=hl f o;have hot:=hl o t;refine ⟨λh=>?_,λh=>?_⟩
 ·have h1: ∀M,UA c T U O M (o*1+(f*11+4))=M f o:=λM=>qA _ _ _ _ _ VG VG;have h2: ∀M,UA c T U O M (t*1+(o*11+4))=M o t:=λM=>qA _ _ _ _ _ VG VG;have h3: ∀M v,UP (t*1+(f*11+4)) (min (UA c T U O M (t*1+(f*11+4))) v) (UA c T U O M)=UA c T U O (bnd M f t v):=λM v=>zT VG VG;simp only [h3];simp only [h1,h2]
  (with_reducible repeat' first|apply Al|intro _)
  all_goals first|exact Ak|omega|with_reducible rfl|(rename_i E hE;cases hE;exact hQ)|rfl
 ·obtain rfl:t=c+1:=VG
  (with_reducible repeat' first|apply Al|intro _)
  all_goals first|exact Ak|omega|with_reducible rfl|(rename_i E hE;cases hE;exact hQ)|rfl
theorem Zz9(o:Nat)(VO:1<=c/\c<=10)(UD:1<=U/\U<=O/\O<=200/\1<=T/\T<=2000)(HO:n<=1000)(DZ:HW (λk=>rdB c (a k) (b k) (u k) (v k)) n=true)(BM:o<=c):G5 VL (.loop Zt0) (Xv5 c T U O n a b u v o):=by
 refine UT [] (L:=[BG 14 (λk=>FE [k<=c] (mO c T U O n a b u v o k))]) (Ae LQ Aa) (Ai Ab (Ag LG Ac)) VW (G0 (λcj hcj=>by
  have e:VP Zt0 0=some (.loop Xc0):=VQ;rw [e] at hcj;cases hcj;exact LZ (λk=>HT (λh=>Wb4 c T U O n a b u v o k VO UD HO DZ BM h)))) (X:=Nat) (Wh7 c T U O n a b u v o) (λf=>f<=c+1) (λf=>c+1-f) (CM c T U O n a b u v o) (x0:=0) VS ?_ ?_ ?_
 rintro f;kernel_rfl;rintro f y E h;unfold CM at h;split at h;cases h;kernel_rfl;cases h;rintro Q hQ f hx;refine ⟨(f+1),?_⟩;(with_reducible refine DA (t:=let A:=(VU ((c:Int)+1));let W:=(fwO c (rdM c T U O a b u v n) o);let z2:=(VU (agg [iI (c:Int),iI T,iI U,iI O]));let z3:=Q4 n a b u v;(branch (decide ((f:Int)<(c:Int)+1)) (need [VI ((c:Int)+1)] (need [f<=c] (need [z2,z3,XI,QU=QU,X6,XU,ZG,VU (o:Int),VU (f:Int),A,A,VU (c:Int),VU (c:Int),z3,VU (n:Int),VU (n:Int),A,VU (o:Int),A,VU (f:Int),A,(0:Int)=(↑(0:Nat):Int),125=125,GR 125 (UA (c:Int) T U O (fwF c W o f)) (UA (c:Int) T U O (fwT (fwF c W o f) o f 0)),VU (c:Int),T=T,U=U,O=O] (need [VI ((f:Int)+1)] (need [z2,z3,XI,QU=QU,X6,XU,ZG,VU (o:Int),A,A,VU (c:Int),VU (c:Int),z3,VU (n:Int),VU (n:Int),A,VU (o:Int),A,(f:Int)+1=(↑(f+1):Int),125=125,GR 125 (UA (c:Int) T U O (fwT (fwF c W o f) o f (c+1))) (UA (c:Int) T U O (fwF c W o (f+1))),VU (c:Int),T=T,U=U,O=O] (leaf G4.normal)))))) (need [z2,z3,XI,QU=QU,X6,XU,ZG,VU (o:Int),A,A,VU (c:Int),VU (c:Int),z3,VU (n:Int),VU (n:Int),A,VU (o:Int),A,(f:Int)=(c:Int)+1,125=125,GR 125 (UA (c:Int) T U O (fwF c W o f)) (UA (c:Int) T U O (fwF c W o (c+1))),VU (c:Int),T=T,U=U,O=O] (leaf (G4.exit 10))))) VQ ?_);simp only [Jk5,CM,VJ.sat,GQ] at hQ;simp only [VJ.sat,U8,UZ,GH,UB,VI,UE,H6,FW,R0,RT,GJ,CM]
 refine ⟨λh=>?_,λh=>?_⟩
 ·(with_reducible repeat' first|apply Al|intro _)
  all_goals first|exact Ak|omega|with_reducible rfl|(rename_i E hE;cases hE;exact hQ)|rfl
 ·obtain rfl:f=c+1:=VG
  (with_reducible repeat' first|apply Al|intro _)
  all_goals first|exact Ak|omega|with_reducible rfl|(rename_i E hE;cases hE;exact hQ)|rfl
theorem Wb9(VO:1<=c/\c<=10)(UD:1<=U/\U<=O/\O<=200/\1<=T/\T<=2000)(HO:n<=1000)(DZ:HW (λk=>rdB c (a k) (b k) (u k) (v k)) n=true):G5 VL (.loop Qu0) (mP c T U O n a b u v):=by
 refine UT [] (L:=[BG 13 (λk=>FE [k<=c] (Xv5 c T U O n a b u v k))]) (Ae LQ Aa) (Ai Ab (Ag LG Ac)) VW (G0 (λcj hcj=>by
  have e:VP Qu0 0=some (.loop Zt0):=VQ;rw [e] at hcj;cases hcj;exact LZ (λk=>HT (λh=>Zz9 c T U O n a b u v k VO UD HO DZ h)))) (X:=Nat) (EV c T U O n a b u v) (λo=>o<=c+1) (λo=>c+1-o) (qE c T U O n a b u v) (x0:=0) VS ?_ ?_ ?_
 rintro o;kernel_rfl;rintro o y E h;unfold qE at h;split at h;cases h;kernel_rfl;cases h;rintro Q hQ o hx;refine ⟨(o+1),?_⟩;(with_reducible refine DA (t:=let A:=(VU ((c:Int)+1));let W:=(rdM c T U O a b u v n);let z2:=(VU (agg [iI (c:Int),iI T,iI U,iI O]));let z3:=Q4 n a b u v;(branch (decide ((o:Int)<(c:Int)+1)) (need [VI ((c:Int)+1)] (need [o<=c] (need [z2,z3,XI,QU=QU,X6,XU,ZG,VU (o:Int),A,A,VU (c:Int),VU (c:Int),z3,VU (n:Int),VU (n:Int),A,VU (o:Int),A,(0:Int)=(↑(0:Nat):Int),125=125,GR 125 (UA (c:Int) T U O (fwO c W o)) (UA (c:Int) T U O (fwF c (fwO c W o) o 0)),VU (c:Int),T=T,U=U,O=O] (need [VI ((o:Int)+1)] (need [z2,z3,XI,QU=QU,X6,XU,ZG,A,A,VU (c:Int),VU (c:Int),z3,VU (n:Int),VU (n:Int),A,(o:Int)+1=(↑(o+1):Int),125=125,GR 125 (UA (c:Int) T U O (fwF c (fwO c W o) o (c+1))) (UA (c:Int) T U O (fwO c W (o+1))),VU (c:Int),T=T,U=U,O=O] (leaf G4.normal)))))) (need [z2,z3,XI,QU=QU,X6,XU,ZG,A,A,VU (c:Int),VU (c:Int),z3,VU (n:Int),VU (n:Int),A,(o:Int)=(c:Int)+1,125=125,GR 125 (UA (c:Int) T U O (fwO c W o)) (UA (c:Int) T U O (fwO c W (c+1))),VU (c:Int),T=T,U=U,O=O] (leaf (G4.exit 8))))) VQ ?_);simp only [Ww0,qE,VJ.sat,GQ] at hQ;simp only [VJ.sat,U8,UZ,GH,UB,VI,UE,H6,FW,R0,RT,GJ,qE]
 refine ⟨λh=>?_,λh=>?_⟩
 ·(with_reducible repeat' first|apply Al|intro _)
  all_goals first|exact Ak|omega|with_reducible rfl|(rename_i E hE;cases hE;exact hQ)|rfl
 ·obtain rfl:o=c+1:=VG
  (with_reducible repeat' first|apply Al|intro _)
  all_goals first|exact Ak|omega|with_reducible rfl|(rename_i E hE;cases hE;exact hQ)|rfl
def fwM:Nat->Nat->Int:=fwO c (rdM c T U O a b u v n) (c+1)
def okR:Bool:=HW (λk=>decide (0<=fwM c T U O n a b u v k k)) (c+1)
def Xa8:St:={σ:=[agg [iI (c:Int),iI T,iI U,iI O],X5 n a b u v,ptr 0 0,top,top,top,ptr 5 0,top,top,top,AV.mp 63]++HF 11 [iI ((c:Int)+1),iI ((c:Int)+1)]++HF 21 [iI (c:Int),iI (c:Int)]++HF 34 [X5 n a b u v,iI (n:Int),iI (n:Int)]++HF 37 [iI ((c:Int)+1),iI ((c:Int)+1)]++HF 40 [iI ((c:Int)+1)]++HF 14 [],m:=[(5,GL.ints 301 [] 125 λk=>UA (c:Int) T U O (fwO c (rdM c T U O a b u v n) (c+1)) k),(0,GL.cells 49 [iI (c:Int),iI T,iI U,iI O])],nx:=76}
noncomputable def Jp7:Code:=U7 (VP (U5 Tryz.f158) 4)
def Wh6(k:Nat):St:=(upE [(164,i k)] [(5,.ints 301 [] 125 (UA c T U O (fwM c T U O n a b u v))),(0,.cells 49 [i c,i T,i U,i O])] (Xa8 c T U O n a b u v))
def dH(k:Nat):G4->Option St
 | .ret=>some (upE [(4,.x (.pointer none)),(5,.lit false),(164,.top)] [(5,.ints 301 [] 125 (UA c T U O (fwM c T U O n a b u v))),(0,.cells 49 [i c,i T,i U,i O])] (Xa8 c T U O n a b u v))
 | .exit 14=>some (upE [(164,.top)] [(5,.ints 301 [] 125 (UA c T U O (fwM c T U O n a b u v))),(0,.cells 49 [i c,i T,i U,i O])] (Xa8 c T U O n a b u v))
 |_=>none
def Jk4:CT:= .branch (okR c T U O n a b u v) (.leaf (.exit 14,(dH c T U O n a b u v 0 (.exit 14)).getD (Xa8 c T U O n a b u v))) (.leaf (.ret,(dH c T U O n a b u v 0 .ret).getD (Xa8 c T U O n a b u v)))
def Xv4:UF:=GG [] (HD (Wh6 c T U O n a b u v (0)) (Jk4 c T U O n a b u v))
theorem Zz8(VO:1<=c/\c<=10)(UD:1<=U/\U<=O/\O<=200/\1<=T/\T<=2000)(HO:n<=1000)(DZ:HW (λk=>rdB c (a k) (b k) (u k) (v k)) n=true):G5 VL (.loop Jp7) (Xv4 c T U O n a b u v):=by
 refine UT [] (L:=[]) (Ae LQ Aa) (Ai Ab (Ag LG Ac)) VW U0 (X:=Nat) (Wh6 c T U O n a b u v) (λk=>k<=c+1/\ ∀j,j<k->0<=fwM c T U O n a b u v j j) (λk=>c+1-k) (dH c T U O n a b u v) (x0:=0) VS ?_ ?_ ?_;rintro k;kernel_rfl;rintro k y E h;unfold dH at h;split at h;cases h;kernel_rfl;cases h;kernel_rfl;cases h;rintro Q hQ k hx;refine ⟨(k+1),?_⟩;(with_reducible refine DA (t:=let A:=(VU ((c:Int)+1));let W:=(fwM c T U O n a b u v);let z2:=(VU (agg [iI (c:Int),iI T,iI U,iI O]));let z3:=Q4 n a b u v;(branch (decide ((k:Int)<(c:Int)+1)) (need [UG k 11] (need [UG k 11] (need [k*1+(k*11+4)<125] (branch (decide (UA (c:Int) T U O W (k*1+(k*11+4))<0)) (need [z2,z3,XI,QU=QU,X6,XU,ZG,A,A,VU (c:Int),VU (c:Int),z3,VU (n:Int),VU (n:Int),A,A,A,125=125,GM 125 (UA (c:Int) T U O W),VU (c:Int),T=T,U=U,O=O] (leaf G4.ret)) (need [VI ((k:Int)+1)] (need [z2,z3,XI,XU,ZG,A,A,VU (c:Int),VU (c:Int),z3,VU (n:Int),VU (n:Int),A,A,A,(k:Int)+1=(↑(k+1):Int),125=125,GM 125 (UA (c:Int) T U O W),VU (c:Int),T=T,U=U,O=O] (leaf G4.normal))))))) (need [z2,z3,XI,XU,ZG,A,A,VU (c:Int),VU (c:Int),z3,VU (n:Int),VU (n:Int),A,A,A,125=125,GM 125 (UA (c:Int) T U O W),VU (c:Int),T=T,U=U,O=O] (leaf (G4.exit 14))))) VQ ?_);simp only [Jk4,dH,VJ.sat,GQ] at hQ;simp only [VJ.sat,U8,UZ,GH,UB,VI,UE,H6,FW,R0,RT,GJ,dH]
 have h1:UA c T U O (fwM c T U O n a b u v) (k*1+(k*11+4))=fwM c T U O n a b u v k k\/11<=k:=by
  rcases An k 11 with h|h;exact .inl (qA _ _ _ _ _ VG h);exact .inr h
 refine ⟨λh=>?_,λh=>?_⟩;have h2:=h1.resolve_right VG;rw [h2];refine ⟨VG,VG,VG,λhneg=>?_,λWm4=>?_⟩
 ·have hno:okR c T U O n a b u v=false:=by
   cases ho:okR c T U O n a b u v;rfl;have:=GI.1 ho k VG;simp at this;omega
  (with_reducible repeat' first|apply Al|intro _)
  all_goals first|exact P4|(rename_i E hE;cases hE;exact hQ.2 hno)
 exact VC
 ·obtain ⟨hx1,hx2⟩:=hx;obtain rfl:k=c+1:=VG;have Wl2:okR c T U O n a b u v=true:=GI.2 (λj hj=>by simpa using hx2 j hj)
  (with_reducible repeat' first|apply Al|intro _)
  all_goals first|exact P4|(rename_i E hE;cases hE;exact hQ.1 Wl2)
end
theorem vV{S:Code->UF->Prop}{c:Code}{s0 s1 s2 s3 s4:UF}(h0: ∀cj,VP c 0=some cj->S cj s0)(h1: ∀cj,VP c 1=some cj->S cj s1)(h2: ∀cj,VP c 2=some cj->S cj s2)(h3: ∀cj,VP c 3=some cj->S cj s3)(h4: ∀cj,VP c 4=some cj->S cj s4):
  ∀j cj,VP c j=some cj-> ∀sp,[s0,s1,s2,s3,s4][j]? =some sp->S cj sp:=by
 intro j cj hj sp hsp
 match j with
 | 0=>simp at hsp;subst hsp;exact h0 cj hj
 | 1=>simp at hsp;subst hsp;exact h1 cj hj
 | 2=>simp at hsp;subst hsp;exact h2 cj hj
 | 3=>simp at hsp;subst hsp;exact h3 cj hj
 | 4=>simp at hsp;subst hsp;exact h4 cj hj
 |j+5=>simp at hsp
theorem UH.same{P:Program}{f:FuncId}{avs avs':List AV}{t:VJ AV}(h:UH P f avs' t)(k:LS avs avs'):UH P f avs t:=λQ hQ e w args hro hgl FK hr=>h Q hQ e w args hro hgl (k.idf FK) (k.rep hr)
section
variable (c:Nat)(T U O:Int)(n:Nat)(a b u v:Nat->Int)
abbrev Qa0:AV:= .roI [] 125 (UA c T U O (fwM c T U O n a b u v)) 0
abbrev nilP:AV:= .x (.pointer none)
theorem SZ(VO:1<=c/\c<=10)(UD:1<=U/\U<=O/\O<=200/\1<=T/\T<=2000)(HO:n<=1000)(DZ:HW (λk=>rdB c (a k) (b k) (u k) (v k)) n=true):UH VL 158 [.agg [i c,i T,i U,i O],rds n a b u v] (.branch (okR c T U O n a b u v) (.leaf (.tup [Qa0 c T U O n a b u v,.lit true])) (.leaf (.tup [nilP,.lit false]))):=by
 refine GO (L:=[Xv9 c T U O n a b u v,Xv7 c T U O n a b u v,Xv6 c T U O n a b u v,mP c T U O n a b u v,Xv4 c T U O n a b u v]) (Ae LQ Aa) (Ai Ab (Ag LG Ac)) VW Tryz.func158 (UR Tryz.f158) (vV (lpE (b:= .loop Zt1) VQ<|(Ja7 c T U O n a b u v VO UD).N) (lpE (b:= .loop Jp9) VQ<|(Ja5 c T U O n a b u v VO UD).N) (lpE (b:= .loop Jp8) VQ<|(Ja3 c T U O n a b u v VO UD HO DZ).N) (lpE (b:= .loop Qu0) VQ<|(Wb9 c T U O n a b u v VO UD HO DZ).N) (lpE (b:= .loop Jp7) VQ<|(Zz8 c T U O n a b u v VO UD HO DZ).N)) (t:=let A:=(VU ((c:Int)+1));let W:=(VU (agg [iI (c:Int),iI T,iI U,iI O]));let z2:=(UA (c:Int) T U O (cel c U O c) (c*1+4));let z3:=(UP (c*1+4) (min z2 T) (UA (c:Int) T U O (cel c U O c)) (0+(c*11+4)));let z4:=Q4 n a b u v;(need [VI ((c:Int)+1)] (need [W,z4,XI,QU=QU,X6,XU,A,(0:Int)=(↑(0:Nat):Int),List.length ([(c:Int),T,U,O]++bJ 121)=125,GR 125 (U6 ([(c:Int),T,U,O]++bJ 121)) (UA (c:Int) T U O (ini c 0 0)),VU (c:Int),T=T,U=U,O=O] (need [W,z4,XI,QU=QU,X6,XU,A,A,VU (c:Int),(0:Int)=(↑(0:Nat):Int),125=125,GR 125 (UA (c:Int) T U O (ini c (c+1) 0)) (UA (c:Int) T U O (cel c U O 0)),VU (c:Int),T=T,U=U,O=O] (need [UG 0 11] (need [UG c 11] (need [c*1+4<125] (need [UG 0 11] (need [UG c 11] (need [c*1+4+List.length [min z2 T]<=125] (need [VI (-T)] (need [UG c 11] (need [UG 0 11] (need [0+(c*11+4)<125] (need [UG c 11] (need [UG 0 11] (need [0+(c*11+4)+List.length [min z3 (-T)]<=125] (need [W,z4,XI,QU=QU,X6,XU,ZG,A,A,VU (c:Int),VU (c:Int),z4,VU (n:Int),(0:Int)=(↑(0:Nat):Int),125=125,GR 125 (UP (0+(c*11+4)) (min z3 (-T)) (jB (c*1+4) [min z2 T] (UA (c:Int) T U O (cel c U O c)))) (UA (c:Int) T U O (rdM c T U O a b u v 0)),VU (c:Int),T=T,U=U,O=O,∀(k:Value),False->sn a b u v 0 k/\k=Value.bool true] (need [VI ((c:Int)+1)] (need [W,z4,XI,QU=QU,X6,XU,ZG,A,A,VU (c:Int),VU (c:Int),z4,VU (n:Int),VU (n:Int),A,(0:Int)=(↑(0:Nat):Int),125=125,GR 125 (UA (c:Int) T U O (rdM c T U O a b u v n)) (UA (c:Int) T U O (fwO c (rdM c T U O a b u v n) 0)),VU (c:Int),T=T,U=U,O=O] (need [VI ((c:Int)+1)] (need [W,z4,XI,XU,ZG,A,A,VU (c:Int),VU (c:Int),z4,VU (n:Int),VU (n:Int),A,A,A,(0:Int)=(↑(0:Nat):Int),125=125,GR 125 (UA (c:Int) T U O (fwO c (rdM c T U O a b u v n) (c+1))) (UA (c:Int) T U O (fwM c T U O n a b u v)),VU (c:Int),T=T,U=U,O=O] (branch (okR c T U O n a b u v) (leaf (tup [roI [] 125 (λk=>UA (c:Int) T U O (fwM c T U O n a b u v) k) 0,AV.lit true])) (leaf (tup [QU,AV.lit false]))))))))))))))))))))))))) VQ ?_
 intro Q hQ;have h1: ∀M w,UP (c*1+4) (min (UA c T U O M (c*1+4)) w) (UA c T U O M)=UA c T U O (bnd M 0 c w):=λM w=>zT VG VG;have h2: ∀M w,UP (0+(c*11+4)) (min (UA c T U O M (0+(c*11+4))) w) (UA c T U O M)=UA c T U O (bnd M c 0 w):=λM w=>zT VG VG;simp only [VJ.sat,U8,UE,VI,RT,GJ,h1,h2] at hQ ⊢
 (with_reducible repeat' first|apply Al|intro _)
 all_goals first|exact Ak|omega|with_reducible rfl|rfl|exact Wa3 _ _ _ _ _ _|(rename_i h;exact h.elim)|(rename_i h;exact ⟨.tup [Qa0 c T U O n a b u v,.lit true],⟨⟨rfl,rfl,λ_ _=>rfl,rfl⟩,rfl,Ak⟩,hQ.1 h⟩)|(rename_i h;exact ⟨.tup [nilP,.lit false],⟨rfl,rfl,Ak⟩,hQ.2 h⟩)
end
def col(j:Nat)(f:Nat->List AV):Nat->Int:=λk=>Wk6 (f k) j
def fM:HZ:=λl=>match l with
 |[.agg [.x (.int .i64 c),.x (.int .i64 T),.x (.int .i64 U),.x (.int .i64 O)],.lst 4 n f]=>some (.need [U9 4 n f,1<=c/\c<=10,1<=U/\U<=O/\O<=200/\1<=T/\T<=2000,n<=1000,HW (λk=>rdB c (col 0 f k) (col 1 f k) (col 2 f k) (col 3 f k)) n=true]
   (.branch (okR c.toNat T U O n (col 0 f) (col 1 f) (col 2 f) (col 3 f)) (.leaf (.tup [Qa0 c.toNat T U O n (col 0 f) (col 1 f) (col 2 f) (col 3 f),.lit true])) (.leaf (.tup [nilP,.lit false]))))
 |_=>none
theorem wZ:Enters VL 158/\ ∀avs t,fM avs=some t->UH VL 158 avs t:=by
 refine ⟨(UC Tryz.func158),?_⟩;intro avs t h;unfold fM at h;split at h;rename_i c T U O n f;cases h;intro Q hQ;have I:=GA hQ.1;have hr:U9 4 n f:=I _ VS;have hc:1<=c/\c<=10:=I _ VS;have HV:HW (λk=>rdB c (col 0 f k) (col 1 f k) (col 2 f k) (col 3 f k)) n=true:=I _ VS;have e:((c.toNat:Nat):Int)=c:=VG;have h0:=SZ c.toNat T U O n (col 0 f) (col 1 f) (col 2 f) (col 3 f) VG (I _ VS) (I _ VS) (by rw [e];exact HV)
 rw [e] at h0;exact UH.same h0 (.cons (.refl _) (.cons (.lst 4 n _ _ hr) .nil)) Q hQ.2;cases h
theorem PE.same{P:Program}{f:FuncId}{avs avs':List AV}{t:VJ AV}(h:PE P f avs' t)(k:LS avs avs'):PE P f avs t:=λQ hQ e w args hro hgl FK hr=>h Q hQ e w args hro hgl (k.idf FK) (k.rep hr)
def Qh6:UU
 |[.agg [.x (.int .i64 a),.x (.int .i64 b),.x (.int .i64 u),.x (.int .i64 v)],.ro [.fn (.func 192) [.agg [.x (.int .i64 c),.x (.int .i64 T),.x (.int .i64 U),.x (.int .i64 O)]] []]]=>some ([1<=c/\c<=10],bl (!rdB c a b u v))
 |_=>none
theorem Wv1(c T U O a b u v:Int)(VO:1<=c/\c<=10):VV VL 227 [.agg [i a,i b,i u,i v],.ro [.fn (.func 192) [.agg [i c,i T,i U,i O]] []]] (bl (!rdB c a b u v)):=by
 refine VY (L:=[]) (Ae nQ Aa) VW Tryz.func227 (UR Tryz.f227) U0 (t:=need [(1:Int)<=c/\c<=10] (leaf (RV.x (.bool !rdB c a b u v)))) VQ ?_;simp [VJ.sat,U8,UZ,UB];exact VO
theorem lT:VM VL 227 Qh6:=by
 refine ⟨(UC Tryz.func227),?_⟩;intro avs ns Z h I;unfold Qh6 at h;split at h;cases h;exact Wv1 _ _ _ _ _ _ _ _ (I _ VS);cases h
def yD(c:Int)(a b u v:Nat->Int)(k:Nat):Bool:= !rdB c (a k) (b k) (u k) (v k)
def N5(c:Int)(n:Nat)(a b u v:Nat->Int):Bool:=HW (λk=>rdB c (a k) (b k) (u k) (v k)) n
abbrev X2(c:Int)(T:Int)(U:Int)(O:Int):AV:=AV.fn (Fn.func 227) [] [AV.ro [AV.fn (Fn.func 192) [agg [iI c,iI T,iI U,iI O]] []]]
section
variable (c T U O:Int)(n:Nat)(a b u v:Nat->Int)
def mX:St:={σ:=[X5 n a b u v,X2 c T U O]++HF 5 [iI (n:Int)]++HF 11 [],m:=[],nx:=4}
noncomputable def Xy9:Code:=U7 (VP (U5 Tryz.f245) 0)
def Qc3(k:Nat):St:=(upM [(8,i k)] (mX c T U O n a b u v))
def kU(k:Nat):G4->Option St
 | .ret=>some (upM [(4,i (GT (yD c a b u v) n))] (mX c T U O n a b u v))
 | .exit 0=>some (upM [] (mX c T U O n a b u v))
 |_=>none
def Xt4:CT:= .branch (decide (GT (yD c a b u v) n<n)) (.leaf (.ret,(kU c T U O n a b u v 0 .ret).getD (mX c T U O n a b u v))) (.leaf (.exit 0,(kU c T U O n a b u v 0 (.exit 0)).getD (mX c T U O n a b u v)))
def Wy8:UF:=(HD (Qc3 c T U O n a b u v (0)) (Xt4 c T U O n a b u v))
theorem Xz2(VO:n<=100000)(UD:1<=c/\c<=10):G5 VL (.loop Xy9) (Wy8 c T U O n a b u v):=by
 refine HC (L:=[]) (Ae lT Aa) VW U0 (X:=Nat) (Qc3 c T U O n a b u v) (λk=>k<=n/\ ∀j,j<k->yD c a b u v j=false) (λk=>n-k) (kU c T U O n a b u v) (x0:=0) VS ?_ ?_ ?_;rintro k;kernel_rfl;rintro k y E h;unfold kU at h;split at h;cases h;kernel_rfl;cases h;kernel_rfl;cases h;rintro Q hQ k hx;refine ⟨(k+1),?_⟩;(with_reducible refine DA (t:=branch (decide ((k:Int)<(n:Int))) (need [UG k n] (need [(1:Int)<=c/\c<=10] (branch (!rdB c (a k) (b k) (u k) (v k)) (need [Q4 n a b u v,VU (X2 c T U O),(k:Int)=(↑(GT (yD c a b u v) n):Int),VU (n:Int)] (leaf G4.ret)) (need [VI ((k:Int)+1)] (need [Q4 n a b u v,VU (X2 c T U O),VU (n:Int),(k:Int)+1=(↑(k+1):Int)] (leaf G4.normal)))))) (need [Q4 n a b u v,VU (X2 c T U O),VU (n:Int)] (leaf (G4.exit 0)))) VQ ?_);simp only [Xt4,kU,VJ.sat,GQ,H6] at hQ;simp only [VJ.sat,U8,UE,H6,VI,kU,FC];refine ⟨λh=>⟨VG,UD,λhb=>?_,λhb=>?_⟩,λh=>?_⟩;have hf:GT (yD c a b u v) n=k:=zM VG hb hx.2;refine ⟨VG,λE hE=>?_⟩;cases hE;exact hQ.1 VG;refine ⟨VG,VG,⟨VG,λj hj=>?_⟩,VG⟩;rcases (show j<k\/j=k by omega) with h1|rfl
 exact hx.2 j h1;exact hb;have hf:GT (yD c a b u v) n=n:=BX (λj hj=>hx.2 j VG);intro E hE;cases hE;exact hQ.2 VG
theorem Xz3(VO:n<=100000)(UD:1<=c/\c<=10):VV VL 245 [rds n a b u v,.fn (.func 227) [] [.ro [.fn (.func 192) [.agg [i c,i T,i U,i O]] []]]] (i (if GT (yD c a b u v) n<n then (GT (yD c a b u v) n:Int) else -1)):=by
 refine VY (L:=[Wy8 c T U O n a b u v]) (Ae lT Aa) VW Tryz.func245 (UR Tryz.f245) (G0 (lpE (b:= .loop Xy9) VQ<|Xz2 c T U O n a b u v VO UD)) (t:=need [Q4 n a b u v,VU (X2 c T U O),VU (n:Int),(0:Int)=(↑(0:Nat):Int)] (branch (decide (GT (yD c a b u v) n<n)) (leaf (RV.x (.int .i64 (↑(GT (yD c a b u v) n):Int)))) (leaf (RV.x (.int .i64 (-1:Int)))))) VQ ?_
 exact V8
end
theorem isRec4(n:Nat)(a b u v:Nat->Int):U9 4 n (λk=>[i (a k),i (b k),i (u k),i (v k)]):=λ_ _=>rfl
def Xt7:UU
 |[.lst 4 n f,.fn (.func 227) [] [.ro [.fn (.func 192) [.agg [.x (.int .i64 c),.x (.int .i64 T),.x (.int .i64 U),.x (.int .i64 O)]] []]]]=>some ([U9 4 n f,n<=100000,1<=c/\c<=10],i (if GT (yD c (col 0 f) (col 1 f) (col 2 f) (col 3 f)) n<n then (GT (yD c (col 0 f) (col 1 f) (col 2 f) (col 3 f)) n:Int) else -1))
 |_=>none
def Xu2:UU
 |[.lst 4 n f,.fn (.func 227) [] [.ro [.fn (.func 192) [.agg [.x (.int .i64 c),.x (.int .i64 T),.x (.int .i64 U),.x (.int .i64 O)]] []]]]=>some ([U9 4 n f,n<=100000,1<=c/\c<=10],bl (!N5 c n (col 0 f) (col 1 f) (col 2 f) (col 3 f)))
 |_=>none
def Wx2:UU
 |[.lst 4 n f,.fn (.func 192) [.agg [.x (.int .i64 c),.x (.int .i64 T),.x (.int .i64 U),.x (.int .i64 O)]] []]=>some ([U9 4 n f,n<=100000,1<=c/\c<=10],bl (N5 c n (col 0 f) (col 1 f) (col 2 f) (col 3 f)))
 |_=>none
def flt(c T U O:Int)(n:Nat)(a b u v:Nat->Int):Int:=if BZ c T U O then (if 12<n then 3 else if N5 c n a b u v then 0 else 2) else 1
def Qh0:UU
 |[.agg [.x (.int .i64 c),.x (.int .i64 T),.x (.int .i64 U),.x (.int .i64 O)],.lst 4 n f]=>some ([U9 4 n f],i (flt c T U O n (col 0 f) (col 1 f) (col 2 f) (col 3 f)))
 |_=>none
theorem Xz1:VM VL 245 Xt7:=by
 refine ⟨(UC Tryz.func245),?_⟩;intro avs ns Z h I;unfold Xt7 at h;split at h;cases h;have hr:U9 4 _ _:=I _ (GB);exact (Xz3 _ _ _ _ _ (col 0 _) (col 1 _) (col 2 _) (col 3 _) (I _ VS) (I _ VS)).same (.cons (.lst 4 _ _ _ hr) (.cons (.refl _) .nil));cases h
section
variable (c T U O:Int)(n:Nat)(a b u v:Nat->Int)
theorem Zn4(VO:n<=100000)(UD:1<=c/\c<=10):VV VL 226 [rds n a b u v,.fn (.func 227) [] [.ro [.fn (.func 192) [.agg [i c,i T,i U,i O]] []]]] (bl (!N5 c n a b u v)):=by
 refine VY (L:=[]) (Ae Xz1 Aa) VW Tryz.func226 (UR Tryz.f226) U0 (t:=need [U9 4 n λk=>[i (a k),i (b k),i (u k),i (v k)],n<=100000,(1:Int)<=c/\c<=10] (leaf (RV.x (.bool (decide ((if GT (yD c a b u v) n<n then (↑(GT (yD c a b u v) n):Int) else (-1:Int))>=(0:Int))))))) VQ ?_
 simp only [VJ.sat,U8,UZ,UB,UE];refine ⟨⟨isRec4 n _ _ _ _,VO,UD⟩,?_⟩;unfold N5;rw [kH];have:=F0 (yD c a b u v) n;have e:(λk=> !(λk=>rdB c (a k) (b k) (u k) (v k)) k)=yD c a b u v:=rfl;rw [e];split<;>simp<;>omega
theorem Zn3:VM VL 226 Xu2:=by
 refine ⟨(UC Tryz.func226),?_⟩;intro avs ns Z h I;unfold Xu2 at h;split at h;cases h;have hr:U9 4 _ _:=I _ (GB);exact (Zn4 _ _ _ _ _ (col 0 _) (col 1 _) (col 2 _) (col 3 _) (I _ VS) (I _ VS)).same (.cons (.lst 4 _ _ _ hr) (.cons (.refl _) .nil));cases h
theorem Xm2(VO:n<=100000)(UD:1<=c/\c<=10):VV VL 193 [rds n a b u v,.fn (.func 192) [.agg [i c,i T,i U,i O]] []] (bl (N5 c n a b u v)):=by
 refine VY (L:=[]) (Ae Zn3 Aa) VW Tryz.func193 (UR Tryz.f193) U0 (t:=need [U9 4 n λk=>[i (a k),i (b k),i (u k),i (v k)],n<=100000,(1:Int)<=c/\c<=10] (leaf (RV.x (.bool !!N5 c n a b u v)))) VQ ?_;simp only [VJ.sat,U8,UZ,UB,UE];refine ⟨⟨isRec4 n _ _ _ _,VO,UD⟩,?_⟩;simp
end
theorem Xm1:VM VL 193 Wx2:=by
 refine ⟨(UC Tryz.func193),?_⟩;intro avs ns Z h I;unfold Wx2 at h;split at h;cases h;have hr:U9 4 _ _:=I _ (GB);exact (Xm2 _ _ _ _ _ (col 0 _) (col 1 _) (col 2 _) (col 3 _) (I _ VS) (I _ VS)).same (.cons (.lst 4 _ _ _ hr) (.cons (.refl _) .nil));cases h
theorem PU{c T U O:Int}(h:BZ c T U O=true):(1<=c/\c<=10)/\(1<=U/\U<=O/\O<=200/\1<=T/\T<=2000)/\c*U<=T/\T<=c*O:=by
 simp only [BZ,GZ,bt_iff,insB_iff] at h;omega
theorem Ws5(c T U O:Int)(n:Nat)(a b u v:Nat->Int):VV VL 157 [.agg [i c,i T,i U,i O],rds n a b u v] (i (flt c T U O n a b u v)):=by
 refine VY (L:=[]) (Ae CheckTube_ok (Ae Xm1 Aa)) VW Tryz.func157 (UR Tryz.f157) U0 (t:=branch ((if BZ c T U O=true then (0:Int) else (1:Int)) != 0) (leaf (RV.x (.int .i64 (if BZ c T U O=true then (0:Int) else (1:Int))))) (branch (decide ((n:Int)>12)) (leaf (RV.x (.int .i64 (3:Int)))) (need [U9 4 n λk=>[i (a k),i (b k),i (u k),i (v k)],n<=100000,(1:Int)<=c/\c<=10] (branch (!N5 c n a b u v) (leaf (RV.x (.int .i64 (2:Int)))) (leaf (RV.x (JR))))))) VQ ?_
 simp only [VJ.sat,U8,UZ,UB,UE,flt];by_cases ht:BZ c T U O=true;have hb:=PU ht;by_cases I:12<n;simp [ht,I];omega;cases ha:N5 c n a b u v<;>simp [ht,I,ha,isRec4 n a b u v]<;>omega;simp [ht]
theorem Ws4:VM VL 157 Qh0:=by
 refine ⟨(UC Tryz.func157),?_⟩;intro avs ns Z h I;unfold Qh0 at h;split at h;cases h;have hr:U9 4 _ _:=I _ (GB);exact (Ws5 _ _ _ _ _ (col 0 _) (col 1 _) (col 2 _) (col 3 _)).same (.cons (.refl _) (.cons (.lst 4 _ _ _ hr) .nil));cases h
theorem oT(f:Nat->Int)(k:Nat)(VO:k<=10)(UD: -1000000000000<=f (k*11+4)/\f (k*11+4)<=1000000000000):VV VL 195 [.roI [] 125 f 0,i k] (i (-(f (k*11+4)))):=by
 refine GS Tryz.func195 (t:=need [UG k 11] (need [UG 0 11] (need [0+(k*11+4)<125] (need [VI (-f (0+(k*11+4)))] (leaf (RV.x (.int .i64 (-f (0+(k*11+4)))))))))) VQ ?_;simp only [VJ.sat,U8,UZ,GH,UB,UE,FC];rw [show 0+(k*11+4)=k*11+4 by omega]
 simp only [VI];simp;omega
def m6:UU
 |[.roI [] 125 f 0,.x (.int .i64 k)]=>some ([0<=k/\k<=10,-1000000000000<=f (k.toNat*11+4)/\f (k.toNat*11+4)<=1000000000000],i (-(f (k.toNat*11+4))))
 |_=>none
theorem oS:VM VL 195 m6:=by
 refine ⟨(UC Tryz.func195),?_⟩;intro avs ns Z h I;unfold m6 at h;split at h;rename_i f k;cases h;have hk:0<=k/\k<=10:=I _ VS;have e:((k.toNat:Nat):Int)=k:=VG;have h0:=oT f k.toNat VG (I _ VS);rw [e] at h0;exact h0;cases h
theorem a9(f:Nat->Int)(k:Nat)(VO:k<=10)(UD: -1000000000000<=f (k*11+4)/\f (k*11+4)<=1000000000000):VV VL 196 [.roI [] 125 f 0,i k] (i (f (k+4))):=by
 refine GS Tryz.func196 (t:=need [UG 0 11] (need [UG k 11] (need [k*1+4<125] (leaf (RV.x (.int .i64 (f (k*1+4)))))))) VQ ?_;simp only [VJ.sat,U8,UZ,GH,UB,UE,FC];rw [show k*1+4=k+4 by omega]
 simp only [VI];simp;omega
def M6:UU
 |[.roI [] 125 f 0,.x (.int .i64 k)]=>some ([0<=k/\k<=10,-1000000000000<=f (k.toNat*11+4)/\f (k.toNat*11+4)<=1000000000000],i (f (k.toNat+4)))
 |_=>none
theorem a8:VM VL 196 M6:=by
 refine ⟨(UC Tryz.func196),?_⟩;intro avs ns Z h I;unfold M6 at h;split at h;rename_i f k;cases h;have hk:0<=k/\k<=10:=I _ VS;have e:((k.toNat:Nat):Int)=k:=VG;have h0:=a9 f k.toNat VG (I _ VS);rw [e] at h0;exact h0;cases h
def lZ:UU
 |[]=>some ([],.agg [.fn (.func 195) [] []])
 |_=>none
theorem Qn3:VV VL 159 [] (.agg [.fn (.func 195) [] []]):=by
 refine GS Tryz.func159 (t:=leaf (RV.agg [RV.fn (Fn.func 195)])) VQ ?_;exact YX
theorem Qn2:VM VL 159 lZ:=by
 refine ⟨(UC Tryz.func159),?_⟩;intro avs ns Z h I;unfold lZ at h;split at h;cases h;exact Qn3;cases h
def S9:UU
 |[]=>some ([],.agg [.fn (.func 196) [] []])
 |_=>none
theorem pO:VV VL 160 [] (.agg [.fn (.func 196) [] []]):=by
 refine GS Tryz.func160 (t:=leaf (RV.agg [RV.fn (Fn.func 196)])) VQ ?_;exact YX
theorem pN:VM VL 160 S9:=by
 refine ⟨(UC Tryz.func160),?_⟩;intro avs ns Z h I;unfold S9 at h;split at h;cases h;exact pO;cases h
theorem Qs2(f:Nat->Int)(k:Nat)(VO:k<=10)(UD: -1000000000000<=f (k*11+4)/\f (k*11+4)<=1000000000000):VV VL 119 [.roI [] 125 f 0,i k] (.agg [i (-(f (k*11+4))),i (f (k+4))]):=by
 refine VY (L:=[]) (Ae oS (Ae a8 (Ae Qn2 (Ae pN Aa)))) VW Tryz.func119 (UR Tryz.f119) U0 (t:=need [(0:Int)<=(k:Int)/\(k:Int)<=10,(-1000000000000:Int)<=f (k*11+4)/\f (k*11+4)<=1000000000000] (need [(0:Int)<=(k:Int)/\(k:Int)<=10,(-1000000000000:Int)<=f (k*11+4)/\f (k*11+4)<=1000000000000] (leaf (RV.agg [RV.x (.int .i64 (-f (k*11+4))),RV.x (.int .i64 (f (k+4)))])))) VQ ?_;exact YX
def mB:UU
 |[.roI [] 125 f 0,.x (.int .i64 k)]=>some ([0<=k/\k<=10,-1000000000000<=f (k.toNat*11+4)/\f (k.toNat*11+4)<=1000000000000],.agg [i (-(f (k.toNat*11+4))),i (f (k.toNat+4))])
 |_=>none
theorem xQ:VM VL 119 mB:=by
 refine ⟨(UC Tryz.func119),?_⟩;intro avs ns Z h I;unfold mB at h;split at h;rename_i f k;cases h;have hk:0<=k/\k<=10:=I _ VS;have e:((k.toNat:Nat):Int)=k:=VG;have h0:=Qs2 f k.toNat VG (I _ VS);rw [e] at h0;exact h0;cases h
def dbF(f:Nat->Int):Nat->Int
 | 0=>0
 |k+1=>max (dbF f k) (f (k+4)- -(f (k*11+4)))
theorem s6{f:Nat->Int}{c:Nat}(h: ∀k,k<=c->(-1000000000000<=f (k*11+4)/\f (k*11+4)<=1000000000000)/\(-1000000000000<=f (k+4)/\f (k+4)<=1000000000000)): ∀k,k<=c+1->0<=dbF f k/\dbF f k<=2000000000000
 | 0,_=>by simp [dbF]
 |k+1,hk=>by
  have:=s6 h k VG;have:=h k VG;simp only [dbF];omega
abbrev KF(f:Nat->Int):AV:=roI [] 125 (λa=>f a) 0
def Zs6(c:Nat)(f:Nat->Int):St:={σ:=[KF f]++HF 9 [iI (f 0+1)]++HF 16 [],m:=[],nx:=8}
noncomputable def Jr8:Code:=U7 (VP (U5 Tryz.f233) 0)
section
variable (c:Nat)(f:Nat->Int)
def Wk2(k:Nat):St:=(upM [(2,i (dbF f k)),(11,i k)] (Zs6 c f))
def E8(k:Nat):G4->Option St
 | .exit 0=>some (upM [(2,i (dbF f (c+1))),(11,i ((c+1:Nat):Int))] (Zs6 c f))
 |_=>none
def Jn1:CT:= .leaf (.exit 0,(E8 c f 0 (.exit 0)).getD (Zs6 c f))
def Xy4:UF:=(HD (Wk2 c f (0)) (Jn1 c f))
theorem Jh5(VO:c<=10)(UD:f 0=c)(HO: ∀k,k<=c->(-1000000000000<=f (k*11+4)/\f (k*11+4)<=1000000000000)/\(-1000000000000<=f (k+4)/\f (k+4)<=1000000000000)):G5 VL (.loop Jr8) (Xy4 c f):=by
 refine HC (L:=[]) (Ae xQ (Ae rD Aa)) VW U0 (X:=Nat) (Wk2 c f) (λk=>k<=c+1) (λk=>c+1-k) (E8 c f) (x0:=0) VS ?_ ?_ ?_;rintro k;kernel_rfl;rintro k y E h;unfold E8 at h;split at h;cases h;kernel_rfl;cases h;rintro Q hQ k hx;refine ⟨(k+1),?_⟩;(with_reducible refine DA (t:=branch (decide ((k:Int)<f 0+1)) (need [(0:Int)<=(k:Int)/\(k:Int)<=10,(-1000000000000:Int)<=f (k*11+4)/\f (k*11+4)<=1000000000000] (need [VI (f (k+4)- -f (k*11+4))] (need [VI ((k:Int)+1)] (need [KF f=KF f,max (dbF f k) (f (k+4)- -f (k*11+4))=dbF f (k+1),VU (f 0+1),(k:Int)+1=(↑(k+1):Int)] (leaf G4.normal))))) (need [KF f=KF f,dbF f k=dbF f (c+1),VU (f 0+1),(k:Int)=(↑(c+1):Int)] (leaf (G4.exit 0)))) VQ ?_);simp only [Jn1,E8,VJ.sat,GQ] at hQ;simp only [VJ.sat,U8,UE,H6,VI,E8,FC];refine ⟨λh=>?_,λh=>?_⟩;have h1:=HO k VG;have h2:=s6 HO k VG;refine ⟨⟨VG,h1.1⟩,VG,VG,⟨rfl,VG⟩,VG,VG⟩;obtain rfl:k=c+1:=VG;exact ⟨⟨rfl,rfl⟩,λE hE=>by cases hE;exact hQ⟩
theorem Wr9(VO:c<=10)(UD:f 0=c)(HO: ∀k,k<=c->(-1000000000000<=f (k*11+4)/\f (k*11+4)<=1000000000000)/\(-1000000000000<=f (k+4)/\f (k+4)<=1000000000000)):VV VL 233 [.roI [] 125 f 0] (i (dbF f (c+1))):=by
 refine VY (L:=[Xy4 c f]) (Ae xQ (Ae rD Aa)) VW Tryz.func233 (UR Tryz.f233) (G0 (lpE (b:= .loop Jr8) VQ<|Jh5 c f VO UD HO)) (t:=need [0<125] (need [VI (f 0+1)] (need [KF f=KF f,(0:Int)=dbF f 0,VU (f 0+1),(0:Int)=(↑(0:Nat):Int)] (leaf (RV.x (.int .i64 (dbF f (c+1)))))))) VQ ?_
 simp only [VJ.sat,U8,UZ,GH,UB,UE,FC];simp only [VI];have h2:=s6 HO (c+1) VG;all_goals exact V3
end
def Qg9:UU
 |[.roI [] 125 f 0]=>some ([0<=f 0/\f 0<=10,∀k,k<=(f 0).toNat->(-1000000000000<=f (k*11+4)/\f (k*11+4)<=1000000000000)/\(-1000000000000<=f (k+4)/\f (k+4)<=1000000000000)],i (dbF f ((f 0).toNat+1)))
 |_=>none
theorem Wr8:VM VL 233 Qg9:=by
 refine ⟨(UC Tryz.func233),?_⟩;intro avs ns Z h I;unfold Qg9 at h;split at h;rename_i f;cases h;have hk:0<=f 0/\f 0<=10:=I _ VS;exact Wr9 (f 0).toNat f VG VG (I _ VS);cases h
section
variable (c T U O:Int)(n:Nat)(a b u v:Nat->Int)
abbrev cE:AV:=Qa0 c.toNat T U O n a b u v
def okB:Bool:=okR c.toNat T U O n a b u v
def qJ(r:Bool):Int:=if flt c T U O n a b u v=0 then (if r then (if okB c T U O n a b u v then 0 else 9) else 2) else flt c T U O n a b u v
end
section
variable {c T U O:Int}{n:Nat}{a b u v:Nat->Int}
theorem w6:flt c T U O n a b u v=0↔BZ c T U O=true/\n<=12/\HW (λk=>rdB c (a k) (b k) (u k) (v k)) n=true:=by
 unfold flt N5;split;rename_i h1;split;rename_i h2;constructor;intro h;cases h;intro h;omega;rename_i h2;split;rename_i h3;exact ⟨λ_=>⟨h1,VG,h3⟩,λ_=>rfl⟩;rename_i h3;constructor;intro h;cases h;intro h;exact absurd h.2.2 h3;rename_i h1;constructor;intro h;cases h;intro h;exact absurd h.1 h1
theorem xH{r:Bool}:qJ c T U O n a b u v r=0↔flt c T U O n a b u v=0/\r=true/\okB c T U O n a b u v=true:=by
 unfold qJ;split;rename_i h1;split;rename_i h2;split;rename_i h3;simp [h1,h2,h3];rename_i h3;simp [h1,h2,h3];rename_i h2;simp [h1,h2];rename_i h1;simp [h1]
end
theorem bT(c T U O:Int)(n:Nat)(a b u v:Nat->Int)(r:Bool):UH VL 118 [.agg [i c,i T,i U,i O],rds n a b u v,bl r] (.branch (decide (qJ c T U O n a b u v r=0)) (.leaf (.tup [cE c T U O n a b u v,i 0])) (.leaf (.tup [nilP,i (qJ c T U O n a b u v r)]))):=by
 refine GO (L:=[]) (Ae Ws4 Aa) (Aj Ab Ac (Ah wZ (U1.nil _))) VW Tryz.func118 (UR Tryz.f118) UV (t:=need [U9 4 n λk=>[i (a k),i (b k),i (u k),i (v k)]] (branch (flt c T U O n a b u v != 0) (leaf (tup [QU,iI (flt c T U O n a b u v)])) (branch (!r) (leaf (tup [QU,iI 2])) (need [U9 4 n λk=>[i (a k),i (b k),i (u k),i (v k)],(1:Int)<=c/\c<=10,(1:Int)<=U/\U<=O/\O<=200/\(1:Int)<=T/\T<=2000,n<=1000,HW (λk=>rdB c (a k) (b k) (u k) (v k)) n=true] (branch (okR (Int.toNat c) T U O n a b u v) (leaf (tup [roI [] 125 (λk=>UA (↑(Int.toNat c):Int) T U O (fwM (Int.toNat c) T U O n a b u v) k) 0,iI 0])) (leaf (tup [QU,iI 9]))))))) VQ ?_;intro Q hQ;have e:c.toNat=c\/c<0:=VG;simp only [VJ.sat,U8,UE,R0,H6,Ax] at hQ ⊢;refine ⟨isRec4 n a b u v,λh1=>?_,λh1=>?_⟩;refine ⟨.tup [nilP,i (flt c T U O n a b u v)],⟨rfl,⟨rfl,rfl⟩,Ak⟩,?_⟩;have h2:qJ c T U O n a b u v r=flt c T U O n a b u v:=by unfold qJ;rw [if_neg h1]
 rw [h2] at hQ;exact hQ.2 h1;have hf:=w6.1 h1;have hb:=PU hf.1;refine ⟨λh2=>?_,λh2=>⟨⟨isRec4 n a b u v,hb.1,hb.2.1,by have:=hf.2.1;omega,hf.2.2⟩,λh3=>?_,λh3=>?_⟩⟩
 subst h2;have h4:qJ c T U O n a b u v false=2:=by unfold qJ;rw [if_pos h1];rfl
 rw [h4] at hQ;exact ⟨.tup [nilP,i 2],⟨rfl,⟨rfl,rfl⟩,Ak⟩,hQ.2 VG⟩;have h2:r=true:=by simpa using h2
 subst h2;have h4:qJ c T U O n a b u v true=0:=xH.2 ⟨h1,rfl,h3⟩;exact ⟨.tup [cE c T U O n a b u v,i 0],⟨⟨rfl,rfl,λ_ _=>rfl,rfl⟩,⟨rfl,rfl⟩,Ak⟩,hQ.1 h4⟩;have h2:r=true:=by simpa using h2
 subst h2;have h4:qJ c T U O n a b u v true=9:=by unfold qJ okB;rw [if_pos h1,h3];rfl
 rw [h4] at hQ;exact ⟨.tup [nilP,i 9],⟨rfl,⟨rfl,rfl⟩,Ak⟩,hQ.2 VG⟩
def bG:HZ:=λl=>match l with
 |[.agg [.x (.int .i64 c),.x (.int .i64 T),.x (.int .i64 U),.x (.int .i64 O)],.lst 4 n f,.x (.bool r)]=>some (.need [U9 4 n f] (.branch (decide (qJ c T U O n (col 0 f) (col 1 f) (col 2 f) (col 3 f) r=0)) (.leaf (.tup [cE c T U O n (col 0 f) (col 1 f) (col 2 f) (col 3 f),i 0])) (.leaf (.tup [nilP,i (qJ c T U O n (col 0 f) (col 1 f) (col 2 f) (col 3 f) r)]))))
 |[.agg [.x (.int .i64 c),.x (.int .i64 T),.x (.int .i64 U),.x (.int .i64 O)],.lst 4 n f,.lit r]=>some (.need [U9 4 n f] (.branch (decide (qJ c T U O n (col 0 f) (col 1 f) (col 2 f) (col 3 f) r=0)) (.leaf (.tup [cE c T U O n (col 0 f) (col 1 f) (col 2 f) (col 3 f),i 0])) (.leaf (.tup [nilP,i (qJ c T U O n (col 0 f) (col 1 f) (col 2 f) (col 3 f) r)]))))
 |_=>none
theorem VZ.lits{e:UJ}{w:World}{r:Bool}: ∀{l:List AV} {vs:List Value},VZ e w (l++[.lit r]) vs->VZ e w (l++[.x (.bool r)]) vs
 |[],vs,h=>by
  obtain ⟨v,vs',rfl,hv,hvs⟩:=h.cons_inv;cases hv;exact VZ.cons (.x _) hvs
 |a::l,vs,h=>by
  obtain ⟨v,vs',rfl,hv,hvs⟩:=h.cons_inv;exact VZ.cons hv (VZ.lits hvs)
theorem UH.lits{P:Program}{f:FuncId}{l:List AV}{r:Bool}{t:VJ AV}(h:UH P f (l++[.x (.bool r)]) t):UH P f (l++[.lit r]) t:=λQ hQ e w args hro hgl FK hr=>h Q hQ e w args hro hgl (λa ha=>by
 rcases List.mem_append.1 ha with h1|h1;exact FK a (Bd _ h1);cases qL.1 h1;exact .x _) (VZ.lits hr)
theorem d9:Enters VL 118/\ ∀avs t,bG avs=some t->UH VL 118 avs t:=by
 refine ⟨(UC Tryz.func118),?_⟩;intro avs t h;unfold bG at h;split at h;rename_i c T U O n f r;cases h;intro Q hQ;have hr:U9 4 n f:=GA hQ.1 _ VS;exact UH.same (bT c T U O n (col 0 f) (col 1 f) (col 2 f) (col 3 f) r) (.cons (.refl _) (.cons (.lst 4 n _ _ hr) (.cons (.refl _) .nil))) Q hQ.2;rename_i c T U O n f r;cases h;intro Q hQ;have hr:U9 4 n f:=GA hQ.1 _ VS;exact UH.lits (l:=[.agg [.x (.int .i64 c),.x (.int .i64 T),.x (.int .i64 U),.x (.int .i64 O)],.lst 4 n f]) (UH.same (bT c T U O n (col 0 f) (col 1 f) (col 2 f) (col 3 f) r) (.cons (.refl _) (.cons (.lst 4 n _ _ hr) (.cons (.refl _) .nil)))) Q hQ.2;cases h
section
variable (c T U O:Int)(n:Nat)(a b u v:Nat->Int)
def eB:Int:=qJ c T U O n a b u v true
def fwB:Nat->Nat->Int:=fwM c.toNat T U O n a b u v
def sfB:Nat->Int:=UA (c.toNat:Nat) T U O (fwB c T U O n a b u v)
def dtB:Int:=if eB c T U O n a b u v=0 then dbF (sfB c T U O n a b u v) (c.toNat+1) else 0
def rU:Nat:=if eB c T U O n a b u v=0 then c.toNat+1 else 0
end
theorem Xr7{c a b u v:Int}(h:rdB c a b u v=true):(0<=a/\a<=c-1)/\(a<=b/\b<=c)/\0<=u/\u<=v/\v<=2000:=by
 simp only [rdB,GZ,bt_iff,insB_iff] at h;omega
theorem aC{c T U O:Int}{n:Nat}{a b u v:Nat->Int}(h:flt c T U O n a b u v=0)(x y:Nat): -1000000000000<=fwB c T U O n a b u v x y/\fwB c T U O n a b u v x y<=2000:=by
 have hf:=w6.1 h;have hb:=PU hf.1;have hl:=nT (c:=c.toNat) (a:=a) (b:=b) hb.2.1 (λj hj=>(Xr7 (GI.1 hf.2.2 j hj)).2.2) n (Am n);have h1:=Zp6 (c:=c.toNat) hl (c.toNat+1) x y;have h2:=Jb0 c.toNat VG;rw [Int.pow_succ] at h1;unfold fwB fwM;omega
section
variable (c T U O:Int)(n:Nat)(a b u v:Nat->Int)
theorem Xr5:sfB c T U O n a b u v 0=c.toNat:=rfl
theorem ST(k:Nat):sfB c T U O n a b u v (k*11+4)=fwB c T U O n a b u v k 0:=qA _ _ _ _ _ VG VG
theorem cF{k:Nat}(hk:k<=10):sfB c T U O n a b u v (k+4)=fwB c T U O n a b u v 0 k:=qA _ _ _ _ _ VG VG
abbrev YC:Ext:={R:=[],H:=[],C:=[(118,bG)] }
theorem Xb5:VV VL 203 [.agg [i c,i T,i U,i O],rds n a b u v] (.tup [i (dtB c T U O n a b u v),i (eB c T U O n a b u v)]):=by
 refine G9 (L:=[]) (Ae Wr8 Aa) (Aj Ab Ac (Ah d9 (U1.nil _))) VW Tryz.func203 (UR Tryz.f203) UV (t:=let A:=(fwM (Int.toNat c) T U O n a b u v);let W:=qJ c T U O n a b u v true;(need [U9 4 n λk=>[i (a k),i (b k),i (u k),i (v k)]] (branch (decide (W=0)) (branch ((0:Int) != 0) (leaf (RV.tup [RV.x (JR),RV.x (JR)])) (need [(0:Int)<=UA (↑(Int.toNat c):Int) T U O A 0/\UA (↑(Int.toNat c):Int) T U O A 0<=10,∀(k:Nat),k<=(UA (↑(Int.toNat c):Int) T U O A 0).toNat->((-1000000000000:Int)<=UA (↑(Int.toNat c):Int) T U O A (k*11+4)/\UA (↑(Int.toNat c):Int) T U O A (k*11+4)<=1000000000000)/\(-1000000000000:Int)<=UA (↑(Int.toNat c):Int) T U O A (k+4)/\UA (↑(Int.toNat c):Int) T U O A (k+4)<=1000000000000] (leaf (RV.tup [RV.x (.int .i64 (dbF (UA (↑(Int.toNat c):Int) T U O A) ((UA (↑(Int.toNat c):Int) T U O A 0).toNat+1))),RV.x (JR)])))) (branch (W != 0) (leaf (RV.tup [RV.x (JR),RV.x (.int .i64 (W))])) VJ.fail)))) VQ ?_;have eq: ∀k,UA (c.toNat:Nat) T U O (fwM c.toNat T U O n a b u v) k=sfB c T U O n a b u v k:=λ_=>rfl;simp only [VJ.sat,U8,UE,R0,H6,Ax,not_true_eq_false,false_imp_iff,eq,UZ];refine ⟨isRec4 n a b u v,λh1 _=>?_,λh1=>⟨λ_=>?_,λh2=>h1 h2⟩⟩;have hf:=(xH.1 h1).1;have hc:=(PU (w6.1 hf).1).1;have e0:(sfB c T U O n a b u v 0).toNat=c.toNat:=by rw [Xr5];omega
 refine ⟨⟨by rw [Xr5];omega,λk hk=>?_⟩,?_⟩
 rw [e0] at hk;rw [ST,cF _ _ _ _ _ _ _ _ _ VG];have h2:=aC hf k 0;have h3:=aC hf 0 k;omega;rw [e0];unfold dtB eB;rw [if_pos h1,h1];exact ⟨⟨rfl,rfl⟩,⟨rfl,rfl⟩,Ak⟩;unfold dtB eB;rw [if_neg h1];exact ⟨⟨rfl,rfl⟩,⟨rfl,rfl⟩,Ak⟩
end
section
variable {sz k:Nat}{l:List AV}{x:AV}
theorem Qr7(h:x∈U3 sz l k):x∈l:=List.mem_of_mem_drop (List.mem_of_mem_take h)
theorem FM(hm:x∈U3 sz l k)(h: ∀y∈l,AV.one y=true):AV.one x=true:=h x (Qr7 hm)
end
theorem Ji4{k j:Nat}{a b:Nat->Int}{x y:Int}(h:j<k+1)(hx:x=a k)(hy:y=b k):GE k (λk=>[i (a k),i (b k)]) (U3 2 [i x,i y]) j=[i (a j),i (b j)]:=by
 have e:j-k=0:=VG;show H9 (decide (j<k)) [i (a j),i (b j)] (U3 2 [i x,i y] (j-k))=_;rw [e];by_cases hj:j<k;rw [show decide (j<k)=true by simp [hj]]
 rfl;have hk:j=k:=VG;rw [show decide (j<k)=false by simp [hj],hk,hx,hy]
 rfl
section
variable (c T U O:Int)(n:Nat)(a b u v:Nat->Int)
def Zr5:St:={σ:=[.agg [i c,i T,i U,i O],rds n a b u v,.ptr 0 0,.top,.x (.slice none 0 0),i 0,cE c T U O n a b u v,i 0,.top,.top,.top,.top,.top,.top,.top,.top,.top,.top,.top,.top,.top,i (c+1),.top,.top,.top,.top,.top,.top,.top,.top,.top,.top,.top],m:=[(900,.row 47 2 0 (λ_=>[])),(0,.cells 49 [i c,i T,i U,i O])],nx:=901}
noncomputable def Jq8:Code:=U7 (VP (U5 Tryz.f75) 0)
def Wj0(k:Nat):St:=(upE [(8,.row 900),(22,i k)] [(900,.row 47 2 (k) (λk=>[i (-(fwB c T U O n a b u v k 0)),i (fwB c T U O n a b u v 0 k)])),(0,.cells 49 [i c,i T,i U,i O])] (Zr5 c T U O n a b u v))
def CX(k:Nat):G4->Option St
 | .exit 0=>some (upE [(8,.row 900)] [(900,.row 47 2 (c.toNat+1) (λk=>[i (-(fwB c T U O n a b u v k 0)),i (fwB c T U O n a b u v 0 k)])),(0,.cells 49 [i c,i T,i U,i O])] (Zr5 c T U O n a b u v))
 |_=>none
def Jl9:CT:= .leaf (.exit 0,(CX c T U O n a b u v 0 (.exit 0)).getD (Zr5 c T U O n a b u v))
def Xx1:UF:=GG [(.slot 8,900,47,2)] (HD (Wj0 c T U O n a b u v (0)) (Jl9 c T U O n a b u v))
abbrev KE:AV:=AV.x (.slice none 0 0)
abbrev Y2:Prop:=(0:Int)=0
theorem Je1(VO:flt c T U O n a b u v=0):G5 VL (.loop Jq8) (Xx1 c T U O n a b u v):=by
 refine zH [(.slot 8,900,47,2)] (L:=[]) (Ae xQ Aa) VW U0 (X:=Nat) (Wj0 c T U O n a b u v) (λk=>k<=c.toNat+1) (λk=>c.toNat+1-k) (CX c T U O n a b u v) (x0:=0) VS ?_ ?_ ?_;rintro k;kernel_rfl;rintro k y E h;unfold CX at h;split at h;cases h;kernel_rfl;cases h;rintro Q hQ k hx;refine ⟨(k+1),?_⟩;(with_reducible refine DA (t:=let A:=(fwM (Int.toNat c) T U O n a b u v);let W:=fwB c T U O n a b u v;let z2:=(VU (roI [] 125 (λk=>UA (↑(Int.toNat c):Int) T U O A k) 0));let z3:=(UA (↑(Int.toNat c):Int) T U O A (k+4));(branch (decide ((k:Int)<c+1)) (need [(0:Int)<=(k:Int)/\(k:Int)<=10,(-1000000000000:Int)<=UA (↑(Int.toNat c):Int) T U O A (k*11+4)/\UA (↑(Int.toNat c):Int) T U O A (k*11+4)<=1000000000000] (need [(k+1)*16<=140737488355328,RQ 1 (U3 2 [iI (-UA (↑(Int.toNat c):Int) T U O A (k*11+4)),iI z3])] (need [VI ((k:Int)+1)] (need [VU (agg [iI c,iI T,iI U,iI O]),Q4 n a b u v,XI,KE=KE,Y2,z2,Y2,VU (AV.row 900),VU (c+1),(k:Int)+1=(↑(k+1):Int),k+1=k+1,GR (k+1) (GE k (λk=>[Bo.i (-W k 0),Bo.i (W 0 k)]) (U3 2 [iI (-UA (↑(Int.toNat c):Int) T U O A (k*11+4)),iI z3])) (λi=>[Bo.i (-W i 0),Bo.i (W 0 i)]),c=c,T=T,U=U,O=O] (leaf G4.normal))))) (need [VU (agg [iI c,iI T,iI U,iI O]),Q4 n a b u v,XI,KE=KE,Y2,z2,Y2,VU (AV.row 900),VU (c+1),k=Int.toNat c+1,∀(i:Nat),i<Int.toNat c+1->[Bo.i (-W i 0),Bo.i (W 0 i)]=[Bo.i (-W i 0),Bo.i (W 0 i)],c=c,T=T,U=U,O=O] (leaf (G4.exit 0))))) VQ ?_)
 simp only [Jl9,CX,VJ.sat,GQ] at hQ;have hc:=(PU (w6.1 VO).1).1;have e0:((c.toNat:Nat):Int)=c:=VG;have eq: ∀k,UA c.toNat T U O (fwM c.toNat T U O n a b u v) k=sfB c T U O n a b u v k:=λ_=>rfl;simp only [VJ.sat,U8,UZ,GH,UB,VI,UE,H6,FW,CX,eq]
 refine ⟨λh=>?_,λh=>?_⟩;have h2:=aC VO k 0;have h3:=aC VO 0 k;refine ⟨⟨VG,by rw [ST];omega⟩,⟨VG,λi O a ha=>FM ha (by simp [AV.one,Value.oneCell'])⟩,VG,⟨VG,λi O=>Ji4 O (by rw [ST]) (by rw [cF _ _ _ _ _ _ _ _ _ VG])⟩,VG,VG⟩
 obtain rfl:k=c.toNat+1:=VG;exact ⟨⟨rfl,λ_ _=>Ak⟩,λE hE=>by cases hE;exact hQ⟩
theorem mT(VO:qJ c T U O n a b u v true=0)(UD:flt c T U O n a b u v=0):VV VL 75 [.agg [i c,i T,i U,i O],rds n a b u v] (.tup [.lst 2 (rU c T U O n a b u v) (λk=>[i (-(fwB c T U O n a b u v k 0)),i (fwB c T U O n a b u v 0 k)]),i (eB c T U O n a b u v)]):=by
 refine uC (L:=[Xx1 c T U O n a b u v]) (Gd.go true (Gd.go false Gd.rest)) (Ae xQ Aa) (Aj Ab Ac (Ah d9 (U1.nil _))) VW Tryz.func75 (UR Tryz.f75) (G0 (lpE (b:= .loop Jq8) VQ<|(Je1 c T U O n a b u v UD).N)) (t:=let A:=fwB c T U O n a b u v;(need [U9 4 n λk=>[i (a k),i (b k),i (u k),i (v k)]] (need [decide (qJ c T U O n a b u v true=0)=true] (need [((0:Int) != 0)=false] (need [VI (c+1)] (need [VU (agg [iI c,iI T,iI U,iI O]),Q4 n a b u v,XI,KE=KE,Y2,VU (roI [] 125 (λk=>UA (↑(Int.toNat c):Int) T U O (fwM (Int.toNat c) T U O n a b u v) k) 0),Y2,VU (AV.row 900),VU (c+1),(0:Int)=(↑(0:Nat):Int),0=0,∀(i:Nat),i<0->[]=[Bo.i (-A i 0),Bo.i (A 0 i)],c=c,T=T,U=U,O=O] (leaf (RV.tup [RV.lst 2 (Int.toNat c+1) λk=>[iI (-A k 0),iI (A 0 k)],RV.x (JR)])))))))) VQ ?_
 have hc:=(PU (w6.1 UD).1).1;have hl:rU c T U O n a b u v=c.toNat+1:=if_pos VO;have he:eB c T U O n a b u v=0:=VO;rw [hl,he];simp only [VJ.sat,U8,UZ,GH,UB,VI,UE]
 (with_reducible repeat' first|apply Al|intro _)
 all_goals first|exact Ak|with_reducible rfl|omega|exact isRec4 _ _ _ _ _|(simp [*];done)|(rename_i hm;simp only [GK,DP,or_false] at hm;rcases hm with rfl|rfl<;>exact Ak)
theorem mU(VO:qJ c T U O n a b u v true≠0):VV VL 75 [.agg [i c,i T,i U,i O],rds n a b u v] (.tup [.lst 2 (rU c T U O n a b u v) (λk=>[i (-(fwB c T U O n a b u v k 0)),i (fwB c T U O n a b u v 0 k)]),i (eB c T U O n a b u v)]):=by
 refine uC (L:=[]) (Gd.go false (Gd.go true Gd.rest)) (Ae xQ Aa) (Aj Ab Ac (Ah d9 (U1.nil _))) VW Tryz.func75 (UR Tryz.f75) UV (t:=let A:=qJ c T U O n a b u v true;(need [U9 4 n λk=>[i (a k),i (b k),i (u k),i (v k)]] (need [decide (A=0)=false] (need [(A != 0)=true] (leaf (RV.tup [RV.x (.slice none 0 0),RV.x (.int .i64 (A))])))))) VQ ?_;have hl:rU c T U O n a b u v=0:=if_neg VO;have he:eB c T U O n a b u v=qJ c T U O n a b u v true:=rfl;rw [hl,he];simp only [VJ.sat,U8,UZ,GH,UB,VI,UE]
 (with_reducible repeat' first|apply Al|intro _)
 all_goals first|exact Ak|with_reducible rfl|omega|exact isRec4 _ _ _ _ _|(simp [*];done)
end
def S_Heights:UU
 |[.agg [.x (.int .i64 c),.x (.int .i64 T),.x (.int .i64 U),.x (.int .i64 O)],.lst 4 n f]=>some ([U9 4 n f],.tup [.lst 2 (rU c T U O n (col 0 f) (col 1 f) (col 2 f) (col 3 f)) (λk=>[i (-(fwB c T U O n (col 0 f) (col 1 f) (col 2 f) (col 3 f) k 0)),i (fwB c T U O n (col 0 f) (col 1 f) (col 2 f) (col 3 f) 0 k)]),i (eB c T U O n (col 0 f) (col 1 f) (col 2 f) (col 3 f))])
 |_=>none
theorem u7(c T U O:Int)(n:Nat)(a b u v:Nat->Int):VV VL 75 [.agg [i c,i T,i U,i O],rds n a b u v] (.tup [.lst 2 (rU c T U O n a b u v) (λk=>[i (-(fwB c T U O n a b u v k 0)),i (fwB c T U O n a b u v 0 k)]),i (eB c T U O n a b u v)]):=by
 by_cases h:qJ c T U O n a b u v true=0;exact mT c T U O n a b u v h (xH.1 h).1;exact mU c T U O n a b u v h
theorem Heights_ok:VM VL 75 S_Heights:=by
 refine ⟨(UC Tryz.func75),?_⟩;intro avs ns Z h I;unfold S_Heights at h;split at h;rename_i c T U O n f;cases h;have hr:U9 4 n f:=I _ (GB);exact (u7 c T U O n (col 0 f) (col 1 f) (col 2 f) (col 3 f)).same (.cons (.refl _) (.cons (.lst 4 n _ _ hr) .nil));cases h
end Go.Proofs.YtakpdkmhclhlnaaGreatDoor.Bo
